import Derived.Test.YtfdfpdiemeomiaaQ1
import Derived.Test.YtfdfpdiemeomiaaQ2
namespace Go.Proofs.Ytfdfpdiemeomiaa.G
open Go.RowKit Go.Proofs.YtfdfpdiemeomiaaW.PrintWords Go.Proofs.YtfdfpdiemeomiaaW.PrintLast Go.Proofs.YtfdfpdiemeomiaaW.PrintMore
attribute [local go_sem] max2_int min2_int max_two min_two max_three min_three max_four min_four   -- for this text's walks alone
set_option linter.unusedVariables false
set_option linter.unusedSimpArgs false

mutual
def reel_checkOne.j0 : Nat → Bool → Int → Int → Int → Int → Int → Option (Int)
 | 0, _, _, _, _, _, _ => none
 | k + 1, x3, x28002000, x28002001, x28002002, x28002003, x28002004 => if x3 = true then (some 1) else (if x28002002 < 1 then (reel_checkOne.j1 k true x28002000 x28002001 x28002002 x28002003 x28002004) else (reel_checkOne.j1 k (decide (x28002002 > 3)) x28002000 x28002001 x28002002 x28002003 x28002004))
def reel_checkOne.j1 : Nat → Bool → Int → Int → Int → Int → Int → Option (Int)
 | 0, _, _, _, _, _, _ => none
 | k + 1, x19, x28002000, x28002001, x28002002, x28002003, x28002004 => if x19 = true then (some 17) else (if x28002003 < (-1) then (reel_checkOne.j2 k true x28002000 x28002001 x28002002 x28002003 x28002004) else (reel_checkOne.j2 k (decide (x28002003 ≥ 16)) x28002000 x28002001 x28002002 x28002003 x28002004))
def reel_checkOne.j2 : Nat → Bool → Int → Int → Int → Int → Int → Option (Int)
 | 0, _, _, _, _, _, _ => none
 | k + 1, x28, x28002000, x28002001, x28002002, x28002003, x28002004 => if x28 = true then (some 22) else (if x28002004 < 0 then (some 1) else (if x28002004 > 2048 then (some 1) else (some 0)))
end
def reel_checkOne.f (k : Nat) (a0_0 : Int) (a0_1 : Int) (a0_2 : Int) (a0_3 : Int) (a0_4 : Int) : Option (Int) := if a0_0 < 0 then (reel_checkOne.j0 k true a0_0 a0_1 a0_2 a0_3 a0_4) else (if a0_0 ≥ a0_1 then (reel_checkOne.j0 k true a0_0 a0_1 a0_2 a0_3 a0_4) else (reel_checkOne.j0 k (decide (a0_1 > 17179869184)) a0_0 a0_1 a0_2 a0_3 a0_4))
theorem reel_checkOne.mono_l : ∀ k, (∀ y0 y1 y2 y3 y4 y5, LeO (reel_checkOne.j0 k y0 y1 y2 y3 y4 y5) (reel_checkOne.j0 (k + 1) y0 y1 y2 y3 y4 y5)) ∧ (∀ y0 y1 y2 y3 y4 y5, LeO (reel_checkOne.j1 k y0 y1 y2 y3 y4 y5) (reel_checkOne.j1 (k + 1) y0 y1 y2 y3 y4 y5)) ∧ (∀ y0 y1 y2 y3 y4 y5, LeO (reel_checkOne.j2 k y0 y1 y2 y3 y4 y5) (reel_checkOne.j2 (k + 1) y0 y1 y2 y3 y4 y5))
 | 0 => ⟨fun _ _ _ _ _ _ r h => by simp [reel_checkOne.j0] at h, fun _ _ _ _ _ _ r h => by simp [reel_checkOne.j1] at h, fun _ _ _ _ _ _ r h => by simp [reel_checkOne.j2] at h⟩
 | k + 1 => by
  obtain ⟨ih0, ih1, ih2⟩ := reel_checkOne.mono_l k
  refine ⟨?_, ?_, ?_⟩
  ·intro y0 y1 y2 y3 y4 y5
   unfold reel_checkOne.j0
   repeat' first
   | (with_reducible exact ih0 _ _ _ _ _ _)
   | (with_reducible exact ih1 _ _ _ _ _ _)
   | (with_reducible exact ih2 _ _ _ _ _ _)
   | (with_reducible exact LeO.refl _)
   | (with_reducible exact LeO.none _)
   | (with_reducible refine LeO.ite ?_ ?_)
   | (with_reducible refine LeO.bind ?_ (fun _ => ?_))
   | exact ih0 _ _ _ _ _ _
   | exact ih1 _ _ _ _ _ _
   | exact ih2 _ _ _ _ _ _
   | exact LeO.none _
   | refine LeO.ite ?_ ?_
   | refine LeO.bind ?_ (fun _ => ?_)
  ·intro y0 y1 y2 y3 y4 y5
   unfold reel_checkOne.j1
   repeat' first
   | (with_reducible exact ih0 _ _ _ _ _ _)
   | (with_reducible exact ih1 _ _ _ _ _ _)
   | (with_reducible exact ih2 _ _ _ _ _ _)
   | (with_reducible exact LeO.refl _)
   | (with_reducible exact LeO.none _)
   | (with_reducible refine LeO.ite ?_ ?_)
   | (with_reducible refine LeO.bind ?_ (fun _ => ?_))
   | exact ih0 _ _ _ _ _ _
   | exact ih1 _ _ _ _ _ _
   | exact ih2 _ _ _ _ _ _
   | exact LeO.none _
   | refine LeO.ite ?_ ?_
   | refine LeO.bind ?_ (fun _ => ?_)
  ·intro y0 y1 y2 y3 y4 y5
   unfold reel_checkOne.j2
   repeat' first
   | (with_reducible exact ih0 _ _ _ _ _ _)
   | (with_reducible exact ih1 _ _ _ _ _ _)
   | (with_reducible exact ih2 _ _ _ _ _ _)
   | (with_reducible exact LeO.refl _)
   | (with_reducible exact LeO.none _)
   | (with_reducible refine LeO.ite ?_ ?_)
   | (with_reducible refine LeO.bind ?_ (fun _ => ?_))
   | exact ih0 _ _ _ _ _ _
   | exact ih1 _ _ _ _ _ _
   | exact ih2 _ _ _ _ _ _
   | exact LeO.none _
   | refine LeO.ite ?_ ?_
   | refine LeO.bind ?_ (fun _ => ?_)
theorem reel_checkOne.mono : ∀ a0 a1 a2 a3 a4 k, LeO (reel_checkOne.f k a0 a1 a2 a3 a4) (reel_checkOne.f (k + 1) a0 a1 a2 a3 a4) := by
 intro a0 a1 a2 a3 a4 k
 obtain ⟨ih0, ih1, ih2⟩ := reel_checkOne.mono_l k
 unfold reel_checkOne.f
 repeat' first
   | (with_reducible exact ih0 _ _ _ _ _ _)
   | (with_reducible exact ih1 _ _ _ _ _ _)
   | (with_reducible exact ih2 _ _ _ _ _ _)
   | (with_reducible exact LeO.refl _)
   | (with_reducible exact LeO.none _)
   | (with_reducible refine LeO.ite ?_ ?_)
   | (with_reducible refine LeO.bind ?_ (fun _ => ?_))
   | exact ih0 _ _ _ _ _ _
   | exact ih1 _ _ _ _ _ _
   | exact ih2 _ _ _ _ _ _
   | exact LeO.none _
   | refine LeO.ite ?_ ?_
   | refine LeO.bind ?_ (fun _ => ?_)
set_option maxHeartbeats 8000000 in
set_option maxRecDepth 100000 in
theorem reel_checkOne.calls (k : Nat) (a0_0 : Int) (a0_1 : Int) (a0_2 : Int) (a0_3 : Int) (a0_4 : Int) (r : Int) (w : World) (h : reel_checkOne.f k a0_0 a0_1 a0_2 a0_3 a0_4 = some r) :
  Calls Try.prog 27 #[.agg #[.int .i64 a0_0, .int .i64 a0_1, .int .i64 a0_2, .int .i64 a0_3, .int .i64 a0_4]] w fun e w' => e = .returned (.int .i64 r) ∧ Below w.heap.size w w' := by
 have hu44 := Try.underlying44
 have HB := Aside0.mk (Below.refl w.heap.size w)
 have H : (if a0_0 < 0 then (reel_checkOne.j0 k true a0_0 a0_1 a0_2 a0_3 a0_4) else (if a0_0 ≥ a0_1 then (reel_checkOne.j0 k true a0_0 a0_1 a0_2 a0_3 a0_4) else (reel_checkOne.j0 k (decide (a0_1 > 17179869184)) a0_0 a0_1 a0_2 a0_3 a0_4))) = some r := h
 clear h
 have HC2 := Aside0.mk H
 clear H
 go_enter Try.func27, Try.ntmps27
 go_upto_region 1 with (first | ((with_reducible refine gate_dst (N := 1) rfl ?_); refine box_event ?hg (N := 1) ?hd (cs := #[.int .i64 a0_0, .int .i64 a0_1, .int .i64 a0_2, .int .i64 a0_3, .int .i64 a0_4]) (t := 44) ?hr ?_; (case hd => rfl); (case hg => rfl); (case hr => first | (go_simp; done) | (go_simp; rfl)); intro gb28001 hg w3 hbox hb; have n0_ := Aside0.mk (below_step (by repeat (first | (with_reducible first | exact HB.out | apply below_alloc | apply pw_below_drewN | apply below_drew1) | exact HB.out)) hb); have n1_ := Aside0.mk (hbox); have n2_ := Aside0.mk ((by rw [hg]; exact (below_size (by repeat (first | (with_reducible first | exact HB.out | apply below_alloc | apply pw_below_drewN | apply below_drew1) | exact HB.out))) : w.heap.size ≤ gb28001)); have n3_ := Aside0.mk ((by rw [hg]; exact (below_size (by repeat (first | (with_reducible first | exact HB.out | apply below_alloc | apply pw_below_drewN | apply below_drew1) | exact HB.out))) : w.heap.size ≤ gb28001)); clear HB; have HB := n0_; have BK28001 := n1_; have GW28001 := n2_; have GE28001 := n3_; clear n0_ n1_ n2_ n3_; clear hb hbox hg))
 (try simp only [Act.put, List.setIfInBounds_toArray, List.set_cons_zero, List.set_cons_succ])
 go_cut [3] (fun v3 wc => ∃ (kq : Nat) (x3_1 : Bool), v3 = .bool x3_1 ∧ Aside0 (reel_checkOne.j0 kq x3_1 a0_0 a0_1 a0_2 a0_3 a0_4 = some r) ∧ Aside0 (kq ≤ k) ∧ Aside0 (wc.heap[gb28001]? = some (.cells #[.int .i64 a0_0, .int .i64 a0_1, .int .i64 a0_2, .int .i64 a0_3, .int .i64 a0_4] 44 (0, 0))) ∧ Aside0 (Below w.heap.size w wc))
 case first =>
  have H := HC2.out
  clear HC2
  by_cases c4 : a0_0 < 0
  ·rw [if_pos c4] at H
   have c4b0 : decide (a0_0 < 0) = true := decide_eq_true c4
   clear c4
   (first | rw [c4b0] | (simp only [i64_w, i32_w]; rw [c4b0]) | skip)
   have H' := Aside0.mk H
   clear H
   have hcz5_0 : w3.cell? ⟨gb28001, 0, none⟩ = some (.int .i64 a0_0) := (blk_cell BK28001.out 0).trans rfl
   have hcz5_1 : w3.cell? ⟨gb28001, 1, none⟩ = some (.int .i64 a0_1) := (blk_cell BK28001.out 1).trans rfl
   have hcz5_2 : w3.cell? ⟨gb28001, 2, none⟩ = some (.int .i64 a0_2) := (blk_cell BK28001.out 2).trans rfl
   have hcz5_3 : w3.cell? ⟨gb28001, 3, none⟩ = some (.int .i64 a0_3) := (blk_cell BK28001.out 3).trans rfl
   have hcz5_4 : w3.cell? ⟨gb28001, 4, none⟩ = some (.int .i64 a0_4) := (blk_cell BK28001.out 4).trans rfl
   have hfz5_0 := blk_frozen BK28001.out 0
   have hfz5_1 := blk_frozen BK28001.out 1
   have hfz5_2 := blk_frozen BK28001.out 2
   have hfz5_3 := blk_frozen BK28001.out 3
   have hfz5_4 := blk_frozen BK28001.out 4
   go_wp2
   go_meet
   case rel => exact ⟨_, (true), (by first | rfl | (simp; done) | (simp [*]; done)), H', ⟨by first | omega | exact Nat.le_refl _⟩, ⟨by (with_reducible repeat (first | refine blk_drewN ?_ _ | refine blk_drew ?_ | refine blk_alloc ?_ _)); exact BK28001.out⟩, ⟨by repeat (first | (with_reducible first | exact HB.out | apply below_alloc | apply pw_below_drewN | apply below_drew1 | refine below_set ?_ GE28001.out) | exact HB.out)⟩⟩
  ·rw [if_neg c4] at H
   have c4b0 : decide (a0_0 < 0) = false := decide_eq_false c4
   clear c4
   (first | rw [c4b0] | (simp only [i64_w, i32_w]; rw [c4b0]) | skip)
   by_cases c6 : a0_0 ≥ a0_1
   ·rw [if_pos c6] at H
    have c6b0 : decide (a0_1 ≤ a0_0) = true := decide_eq_true c6
    clear c6
    have H' := Aside0.mk H
    clear H
    have hcz7_0 : w3.cell? ⟨gb28001, 0, none⟩ = some (.int .i64 a0_0) := (blk_cell BK28001.out 0).trans rfl
    have hcz7_1 : w3.cell? ⟨gb28001, 1, none⟩ = some (.int .i64 a0_1) := (blk_cell BK28001.out 1).trans rfl
    have hcz7_2 : w3.cell? ⟨gb28001, 2, none⟩ = some (.int .i64 a0_2) := (blk_cell BK28001.out 2).trans rfl
    have hcz7_3 : w3.cell? ⟨gb28001, 3, none⟩ = some (.int .i64 a0_3) := (blk_cell BK28001.out 3).trans rfl
    have hcz7_4 : w3.cell? ⟨gb28001, 4, none⟩ = some (.int .i64 a0_4) := (blk_cell BK28001.out 4).trans rfl
    have hfz7_0 := blk_frozen BK28001.out 0
    have hfz7_1 := blk_frozen BK28001.out 1
    have hfz7_2 := blk_frozen BK28001.out 2
    have hfz7_3 := blk_frozen BK28001.out 3
    have hfz7_4 := blk_frozen BK28001.out 4
    go_wp2
    go_meet
    case rel => exact ⟨_, (true), (by first | rfl | (simp; done) | (simp [*]; done)), H', ⟨by first | omega | exact Nat.le_refl _⟩, ⟨by (with_reducible repeat (first | refine blk_drewN ?_ _ | refine blk_drew ?_ | refine blk_alloc ?_ _)); exact BK28001.out⟩, ⟨by repeat (first | (with_reducible first | exact HB.out | apply below_alloc | apply pw_below_drewN | apply below_drew1 | refine below_set ?_ GE28001.out) | exact HB.out)⟩⟩
   ·rw [if_neg c6] at H
    have c6b0 : decide (a0_1 ≤ a0_0) = false := decide_eq_false c6
    clear c6
    have H' := Aside0.mk H
    clear H
    have hcz8_0 : w3.cell? ⟨gb28001, 0, none⟩ = some (.int .i64 a0_0) := (blk_cell BK28001.out 0).trans rfl
    have hcz8_1 : w3.cell? ⟨gb28001, 1, none⟩ = some (.int .i64 a0_1) := (blk_cell BK28001.out 1).trans rfl
    have hcz8_2 : w3.cell? ⟨gb28001, 2, none⟩ = some (.int .i64 a0_2) := (blk_cell BK28001.out 2).trans rfl
    have hcz8_3 : w3.cell? ⟨gb28001, 3, none⟩ = some (.int .i64 a0_3) := (blk_cell BK28001.out 3).trans rfl
    have hcz8_4 : w3.cell? ⟨gb28001, 4, none⟩ = some (.int .i64 a0_4) := (blk_cell BK28001.out 4).trans rfl
    have hfz8_0 := blk_frozen BK28001.out 0
    have hfz8_1 := blk_frozen BK28001.out 1
    have hfz8_2 := blk_frozen BK28001.out 2
    have hfz8_3 := blk_frozen BK28001.out 3
    have hfz8_4 := blk_frozen BK28001.out 4
    go_wp2
    go_meet
    case rel => exact ⟨_, (decide (a0_1 > 17179869184)), (by first | rfl | (simp; done) | (simp [*]; done)), H', ⟨by first | omega | exact Nat.le_refl _⟩, ⟨by (with_reducible repeat (first | refine blk_drewN ?_ _ | refine blk_drew ?_ | refine blk_alloc ?_ _)); exact BK28001.out⟩, ⟨by repeat (first | (with_reducible first | exact HB.out | apply below_alloc | apply pw_below_drewN | apply below_drew1 | refine below_set ?_ GE28001.out) | exact HB.out)⟩⟩
 case rest =>
  clear HC2
  try clear c2
  try clear p2
  try clear c4
  try clear c4b0
  try clear c6
  try clear c6b0
  try clear hcz5_0
  try clear hcz5_1
  try clear hcz5_2
  try clear hcz5_3
  try clear hcz5_4
  try clear hcz7_0
  try clear hcz7_1
  try clear hcz7_2
  try clear hcz7_3
  try clear hcz7_4
  try clear hcz8_0
  try clear hcz8_1
  try clear hcz8_2
  try clear hcz8_3
  try clear hcz8_4
  try clear hfz5_0
  try clear hfz5_1
  try clear hfz5_2
  try clear hfz5_3
  try clear hfz5_4
  try clear hfz7_0
  try clear hfz7_1
  try clear hfz7_2
  try clear hfz7_3
  try clear hfz7_4
  try clear hfz8_0
  try clear hfz8_1
  try clear hfz8_2
  try clear hfz8_3
  try clear hfz8_4
  obtain ⟨kq, x3_1, rfl, HA, HJ1, BK28001, HB⟩ := hcut
  cases kq with
  | zero => exact absurd HA.out (by simp [reel_checkOne.j0])
  | succ kj1 =>
   have H := HA.out
   clear HA
   simp only [reel_checkOne.j0] at H
   by_cases c9 : x3_1 = true
   ·subst c9
    have H1 : (some 1) = some r := by rw [if_pos rfl] at H; exact H
    clear H
    have H := H1
    clear H1
    obtain rfl := Option.some.inj H
    go_wp2
    go_ret
    exact ⟨by first | rfl | (simp [errW_none, errW_some] <;> rfl) | (simp [*, errW_none, errW_some] <;> rfl), by repeat (first | (with_reducible first | exact HB.out | apply below_alloc | apply pw_below_drewN | apply below_drew1 | refine below_set ?_ GE28001.out) | exact HB.out)⟩
   ·replace c9 := Bool.eq_false_iff.mpr c9
    subst c9
    have H1 : (if a0_2 < 1 then (reel_checkOne.j1 kj1 true a0_0 a0_1 a0_2 a0_3 a0_4) else (reel_checkOne.j1 kj1 (decide (a0_2 > 3)) a0_0 a0_1 a0_2 a0_3 a0_4)) = some r := by rw [if_neg (show ¬ (false = true) by decide)] at H; first | exact H | simpa using H
    clear H
    have H := H1
    clear H1
    have HC10 := Aside0.mk H
    clear H
    go_upto_region 3 with (fail)
    go_cut [19] (fun v19 wc => ∃ (kq : Nat) (x19_9 : Bool), v19 = .bool x19_9 ∧ Aside0 (reel_checkOne.j1 kq x19_9 a0_0 a0_1 a0_2 a0_3 a0_4 = some r) ∧ Aside0 (kq ≤ kj1) ∧ Aside0 (wc.heap[gb28001]? = some (.cells #[.int .i64 a0_0, .int .i64 a0_1, .int .i64 a0_2, .int .i64 a0_3, .int .i64 a0_4] 44 (0, 0))) ∧ Aside0 (Below w.heap.size w wc))
    case first =>
     have H := HC10.out
     clear HC10
     by_cases c11 : a0_2 < 1
     ·rw [if_pos c11] at H
      have c11b0 : decide (a0_2 < 1) = true := decide_eq_true c11
      clear c11
      (first | rw [c11b0] | (simp only [i64_w, i32_w]; rw [c11b0]) | skip)
      have H' := Aside0.mk H
      clear H
      have hcz12_0 : wc.cell? ⟨gb28001, 0, none⟩ = some (.int .i64 a0_0) := (blk_cell BK28001.out 0).trans rfl
      have hcz12_1 : wc.cell? ⟨gb28001, 1, none⟩ = some (.int .i64 a0_1) := (blk_cell BK28001.out 1).trans rfl
      have hcz12_2 : wc.cell? ⟨gb28001, 2, none⟩ = some (.int .i64 a0_2) := (blk_cell BK28001.out 2).trans rfl
      have hcz12_3 : wc.cell? ⟨gb28001, 3, none⟩ = some (.int .i64 a0_3) := (blk_cell BK28001.out 3).trans rfl
      have hcz12_4 : wc.cell? ⟨gb28001, 4, none⟩ = some (.int .i64 a0_4) := (blk_cell BK28001.out 4).trans rfl
      have hfz12_0 := blk_frozen BK28001.out 0
      have hfz12_1 := blk_frozen BK28001.out 1
      have hfz12_2 := blk_frozen BK28001.out 2
      have hfz12_3 := blk_frozen BK28001.out 3
      have hfz12_4 := blk_frozen BK28001.out 4
      go_wp2
      go_meet
      case rel => exact ⟨_, (true), (by first | rfl | (simp; done) | (simp [*]; done)), H', ⟨by have := HJ1.out; first | omega | exact Nat.le_refl _⟩, ⟨by (with_reducible repeat (first | refine blk_drewN ?_ _ | refine blk_drew ?_ | refine blk_alloc ?_ _)); exact BK28001.out⟩, ⟨by repeat (first | (with_reducible first | exact HB.out | apply below_alloc | apply pw_below_drewN | apply below_drew1 | refine below_set ?_ GE28001.out) | exact HB.out)⟩⟩
     ·rw [if_neg c11] at H
      have c11b0 : decide (a0_2 < 1) = false := decide_eq_false c11
      clear c11
      (first | rw [c11b0] | (simp only [i64_w, i32_w]; rw [c11b0]) | skip)
      have H' := Aside0.mk H
      clear H
      have hcz13_0 : wc.cell? ⟨gb28001, 0, none⟩ = some (.int .i64 a0_0) := (blk_cell BK28001.out 0).trans rfl
      have hcz13_1 : wc.cell? ⟨gb28001, 1, none⟩ = some (.int .i64 a0_1) := (blk_cell BK28001.out 1).trans rfl
      have hcz13_2 : wc.cell? ⟨gb28001, 2, none⟩ = some (.int .i64 a0_2) := (blk_cell BK28001.out 2).trans rfl
      have hcz13_3 : wc.cell? ⟨gb28001, 3, none⟩ = some (.int .i64 a0_3) := (blk_cell BK28001.out 3).trans rfl
      have hcz13_4 : wc.cell? ⟨gb28001, 4, none⟩ = some (.int .i64 a0_4) := (blk_cell BK28001.out 4).trans rfl
      have hfz13_0 := blk_frozen BK28001.out 0
      have hfz13_1 := blk_frozen BK28001.out 1
      have hfz13_2 := blk_frozen BK28001.out 2
      have hfz13_3 := blk_frozen BK28001.out 3
      have hfz13_4 := blk_frozen BK28001.out 4
      go_wp2
      go_meet
      case rel => exact ⟨_, (decide (a0_2 > 3)), (by first | rfl | (simp; done) | (simp [*]; done)), H', ⟨by have := HJ1.out; first | omega | exact Nat.le_refl _⟩, ⟨by (with_reducible repeat (first | refine blk_drewN ?_ _ | refine blk_drew ?_ | refine blk_alloc ?_ _)); exact BK28001.out⟩, ⟨by repeat (first | (with_reducible first | exact HB.out | apply below_alloc | apply pw_below_drewN | apply below_drew1 | refine below_set ?_ GE28001.out) | exact HB.out)⟩⟩
    case rest =>
     clear HC10
     try clear c1
     try clear c2
     try clear p2
     try clear c4
     try clear c4b0
     try clear c6
     try clear c6b0
     try clear c9
     try clear c11
     try clear c11b0
     try clear hcz12_0
     try clear hcz12_1
     try clear hcz12_2
     try clear hcz12_3
     try clear hcz12_4
     try clear hcz13_0
     try clear hcz13_1
     try clear hcz13_2
     try clear hcz13_3
     try clear hcz13_4
     try clear hcz5_0
     try clear hcz5_1
     try clear hcz5_2
     try clear hcz5_3
     try clear hcz5_4
     try clear hcz7_0
     try clear hcz7_1
     try clear hcz7_2
     try clear hcz7_3
     try clear hcz7_4
     try clear hcz8_0
     try clear hcz8_1
     try clear hcz8_2
     try clear hcz8_3
     try clear hcz8_4
     try clear hfz12_0
     try clear hfz12_1
     try clear hfz12_2
     try clear hfz12_3
     try clear hfz12_4
     try clear hfz13_0
     try clear hfz13_1
     try clear hfz13_2
     try clear hfz13_3
     try clear hfz13_4
     try clear hfz5_0
     try clear hfz5_1
     try clear hfz5_2
     try clear hfz5_3
     try clear hfz5_4
     try clear hfz7_0
     try clear hfz7_1
     try clear hfz7_2
     try clear hfz7_3
     try clear hfz7_4
     try clear hfz8_0
     try clear hfz8_1
     try clear hfz8_2
     try clear hfz8_3
     try clear hfz8_4
     try clear p2
     obtain ⟨kq, x19_9, rfl, HA, HJ9, BK28001, HB⟩ := hcut
     cases kq with
     | zero => exact absurd HA.out (by simp [reel_checkOne.j1])
     | succ kj9 =>
      have H := HA.out
      clear HA
      simp only [reel_checkOne.j1] at H
      by_cases c14 : x19_9 = true
      ·subst c14
       have H1 : (some 17) = some r := by rw [if_pos rfl] at H; exact H
       clear H
       have H := H1
       clear H1
       obtain rfl := Option.some.inj H
       go_wp2
       go_ret
       exact ⟨by first | rfl | (simp [errW_none, errW_some] <;> rfl) | (simp [*, errW_none, errW_some] <;> rfl), by repeat (first | (with_reducible first | exact HB.out | apply below_alloc | apply pw_below_drewN | apply below_drew1 | refine below_set ?_ GE28001.out) | exact HB.out)⟩
      ·replace c14 := Bool.eq_false_iff.mpr c14
       subst c14
       have H1 : (if a0_3 < (-1) then (reel_checkOne.j2 kj9 true a0_0 a0_1 a0_2 a0_3 a0_4) else (reel_checkOne.j2 kj9 (decide (a0_3 ≥ 16)) a0_0 a0_1 a0_2 a0_3 a0_4)) = some r := by rw [if_neg (show ¬ (false = true) by decide)] at H; first | exact H | simpa using H
       clear H
       have H := H1
       clear H1
       have HC15 := Aside0.mk H
       clear H
       go_upto_region 5 with (fail)
       go_cut [28] (fun v28 wc => ∃ (kq : Nat) (x28_14 : Bool), v28 = .bool x28_14 ∧ Aside0 (reel_checkOne.j2 kq x28_14 a0_0 a0_1 a0_2 a0_3 a0_4 = some r) ∧ Aside0 (kq ≤ kj9) ∧ Aside0 (wc.heap[gb28001]? = some (.cells #[.int .i64 a0_0, .int .i64 a0_1, .int .i64 a0_2, .int .i64 a0_3, .int .i64 a0_4] 44 (0, 0))) ∧ Aside0 (Below w.heap.size w wc))
       case first =>
        have H := HC15.out
        clear HC15
        by_cases c16 : a0_3 < (-1)
        ·rw [if_pos c16] at H
         have c16b0 : decide (a0_3 < (-1)) = true := decide_eq_true c16
         clear c16
         (first | rw [c16b0] | (simp only [i64_w, i32_w]; rw [c16b0]) | skip)
         have H' := Aside0.mk H
         clear H
         have hcz17_0 : wc.cell? ⟨gb28001, 0, none⟩ = some (.int .i64 a0_0) := (blk_cell BK28001.out 0).trans rfl
         have hcz17_1 : wc.cell? ⟨gb28001, 1, none⟩ = some (.int .i64 a0_1) := (blk_cell BK28001.out 1).trans rfl
         have hcz17_2 : wc.cell? ⟨gb28001, 2, none⟩ = some (.int .i64 a0_2) := (blk_cell BK28001.out 2).trans rfl
         have hcz17_3 : wc.cell? ⟨gb28001, 3, none⟩ = some (.int .i64 a0_3) := (blk_cell BK28001.out 3).trans rfl
         have hcz17_4 : wc.cell? ⟨gb28001, 4, none⟩ = some (.int .i64 a0_4) := (blk_cell BK28001.out 4).trans rfl
         have hfz17_0 := blk_frozen BK28001.out 0
         have hfz17_1 := blk_frozen BK28001.out 1
         have hfz17_2 := blk_frozen BK28001.out 2
         have hfz17_3 := blk_frozen BK28001.out 3
         have hfz17_4 := blk_frozen BK28001.out 4
         go_wp2
         go_meet
         case rel => exact ⟨_, (true), (by first | rfl | (simp; done) | (simp [*]; done)), H', ⟨by have := HJ1.out; have := HJ9.out; first | omega | exact Nat.le_refl _⟩, ⟨by (with_reducible repeat (first | refine blk_drewN ?_ _ | refine blk_drew ?_ | refine blk_alloc ?_ _)); exact BK28001.out⟩, ⟨by repeat (first | (with_reducible first | exact HB.out | apply below_alloc | apply pw_below_drewN | apply below_drew1 | refine below_set ?_ GE28001.out) | exact HB.out)⟩⟩
        ·rw [if_neg c16] at H
         have c16b0 : decide (a0_3 < (-1)) = false := decide_eq_false c16
         clear c16
         (first | rw [c16b0] | (simp only [i64_w, i32_w]; rw [c16b0]) | skip)
         have H' := Aside0.mk H
         clear H
         have hcz18_0 : wc.cell? ⟨gb28001, 0, none⟩ = some (.int .i64 a0_0) := (blk_cell BK28001.out 0).trans rfl
         have hcz18_1 : wc.cell? ⟨gb28001, 1, none⟩ = some (.int .i64 a0_1) := (blk_cell BK28001.out 1).trans rfl
         have hcz18_2 : wc.cell? ⟨gb28001, 2, none⟩ = some (.int .i64 a0_2) := (blk_cell BK28001.out 2).trans rfl
         have hcz18_3 : wc.cell? ⟨gb28001, 3, none⟩ = some (.int .i64 a0_3) := (blk_cell BK28001.out 3).trans rfl
         have hcz18_4 : wc.cell? ⟨gb28001, 4, none⟩ = some (.int .i64 a0_4) := (blk_cell BK28001.out 4).trans rfl
         have hfz18_0 := blk_frozen BK28001.out 0
         have hfz18_1 := blk_frozen BK28001.out 1
         have hfz18_2 := blk_frozen BK28001.out 2
         have hfz18_3 := blk_frozen BK28001.out 3
         have hfz18_4 := blk_frozen BK28001.out 4
         go_wp2
         go_meet
         case rel => exact ⟨_, (decide (a0_3 ≥ 16)), (by first | rfl | (simp; done) | (simp [*]; done)), H', ⟨by have := HJ1.out; have := HJ9.out; first | omega | exact Nat.le_refl _⟩, ⟨by (with_reducible repeat (first | refine blk_drewN ?_ _ | refine blk_drew ?_ | refine blk_alloc ?_ _)); exact BK28001.out⟩, ⟨by repeat (first | (with_reducible first | exact HB.out | apply below_alloc | apply pw_below_drewN | apply below_drew1 | refine below_set ?_ GE28001.out) | exact HB.out)⟩⟩
       case rest =>
        clear HC15
        try clear c1
        try clear c2
        try clear p2
        try clear c4
        try clear c4b0
        try clear c6
        try clear c6b0
        try clear c9
        try clear c11
        try clear c11b0
        try clear c14
        try clear c16
        try clear c16b0
        try clear hcz12_0
        try clear hcz12_1
        try clear hcz12_2
        try clear hcz12_3
        try clear hcz12_4
        try clear hcz13_0
        try clear hcz13_1
        try clear hcz13_2
        try clear hcz13_3
        try clear hcz13_4
        try clear hcz17_0
        try clear hcz17_1
        try clear hcz17_2
        try clear hcz17_3
        try clear hcz17_4
        try clear hcz18_0
        try clear hcz18_1
        try clear hcz18_2
        try clear hcz18_3
        try clear hcz18_4
        try clear hcz5_0
        try clear hcz5_1
        try clear hcz5_2
        try clear hcz5_3
        try clear hcz5_4
        try clear hcz7_0
        try clear hcz7_1
        try clear hcz7_2
        try clear hcz7_3
        try clear hcz7_4
        try clear hcz8_0
        try clear hcz8_1
        try clear hcz8_2
        try clear hcz8_3
        try clear hcz8_4
        try clear hfz12_0
        try clear hfz12_1
        try clear hfz12_2
        try clear hfz12_3
        try clear hfz12_4
        try clear hfz13_0
        try clear hfz13_1
        try clear hfz13_2
        try clear hfz13_3
        try clear hfz13_4
        try clear hfz17_0
        try clear hfz17_1
        try clear hfz17_2
        try clear hfz17_3
        try clear hfz17_4
        try clear hfz18_0
        try clear hfz18_1
        try clear hfz18_2
        try clear hfz18_3
        try clear hfz18_4
        try clear hfz5_0
        try clear hfz5_1
        try clear hfz5_2
        try clear hfz5_3
        try clear hfz5_4
        try clear hfz7_0
        try clear hfz7_1
        try clear hfz7_2
        try clear hfz7_3
        try clear hfz7_4
        try clear hfz8_0
        try clear hfz8_1
        try clear hfz8_2
        try clear hfz8_3
        try clear hfz8_4
        try clear p2
        obtain ⟨kq, x28_14, rfl, HA, HJ14, BK28001, HB⟩ := hcut
        cases kq with
        | zero => exact absurd HA.out (by simp [reel_checkOne.j2])
        | succ kj14 =>
         have H := HA.out
         clear HA
         simp only [reel_checkOne.j2] at H
         by_cases c19 : x28_14 = true
         ·subst c19
          have H1 : (some 22) = some r := by rw [if_pos rfl] at H; exact H
          clear H
          have H := H1
          clear H1
          obtain rfl := Option.some.inj H
          go_wp2
          go_ret
          exact ⟨by first | rfl | (simp [errW_none, errW_some] <;> rfl) | (simp [*, errW_none, errW_some] <;> rfl), by repeat (first | (with_reducible first | exact HB.out | apply below_alloc | apply pw_below_drewN | apply below_drew1 | refine below_set ?_ GE28001.out) | exact HB.out)⟩
         ·replace c19 := Bool.eq_false_iff.mpr c19
          subst c19
          have H1 : (if a0_4 < 0 then (some 1) else (if a0_4 > 2048 then (some 1) else (some 0))) = some r := by rw [if_neg (show ¬ (false = true) by decide)] at H; first | exact H | simpa using H
          clear H
          have H := H1
          clear H1
          by_cases c20 : a0_4 < 0
          ·rw [if_pos c20] at H
           have c20b0 : decide (a0_4 < 0) = true := decide_eq_true c20
           clear c20
           obtain rfl := Option.some.inj H
           have hcz21_0 : wc.cell? ⟨gb28001, 0, none⟩ = some (.int .i64 a0_0) := (blk_cell BK28001.out 0).trans rfl
           have hcz21_1 : wc.cell? ⟨gb28001, 1, none⟩ = some (.int .i64 a0_1) := (blk_cell BK28001.out 1).trans rfl
           have hcz21_2 : wc.cell? ⟨gb28001, 2, none⟩ = some (.int .i64 a0_2) := (blk_cell BK28001.out 2).trans rfl
           have hcz21_3 : wc.cell? ⟨gb28001, 3, none⟩ = some (.int .i64 a0_3) := (blk_cell BK28001.out 3).trans rfl
           have hcz21_4 : wc.cell? ⟨gb28001, 4, none⟩ = some (.int .i64 a0_4) := (blk_cell BK28001.out 4).trans rfl
           have hfz21_0 := blk_frozen BK28001.out 0
           have hfz21_1 := blk_frozen BK28001.out 1
           have hfz21_2 := blk_frozen BK28001.out 2
           have hfz21_3 := blk_frozen BK28001.out 3
           have hfz21_4 := blk_frozen BK28001.out 4
           go_wp2
           go_ret
           exact ⟨by first | rfl | (simp [errW_none, errW_some] <;> rfl) | (simp [*, errW_none, errW_some] <;> rfl), by repeat (first | (with_reducible first | exact HB.out | apply below_alloc | apply pw_below_drewN | apply below_drew1 | refine below_set ?_ GE28001.out) | exact HB.out)⟩
          ·rw [if_neg c20] at H
           have c20b0 : decide (a0_4 < 0) = false := decide_eq_false c20
           clear c20
           by_cases c22 : a0_4 > 2048
           ·rw [if_pos c22] at H
            have c22b0 : decide (2048 < a0_4) = true := decide_eq_true c22
            clear c22
            obtain rfl := Option.some.inj H
            have hcz23_0 : wc.cell? ⟨gb28001, 0, none⟩ = some (.int .i64 a0_0) := (blk_cell BK28001.out 0).trans rfl
            have hcz23_1 : wc.cell? ⟨gb28001, 1, none⟩ = some (.int .i64 a0_1) := (blk_cell BK28001.out 1).trans rfl
            have hcz23_2 : wc.cell? ⟨gb28001, 2, none⟩ = some (.int .i64 a0_2) := (blk_cell BK28001.out 2).trans rfl
            have hcz23_3 : wc.cell? ⟨gb28001, 3, none⟩ = some (.int .i64 a0_3) := (blk_cell BK28001.out 3).trans rfl
            have hcz23_4 : wc.cell? ⟨gb28001, 4, none⟩ = some (.int .i64 a0_4) := (blk_cell BK28001.out 4).trans rfl
            have hfz23_0 := blk_frozen BK28001.out 0
            have hfz23_1 := blk_frozen BK28001.out 1
            have hfz23_2 := blk_frozen BK28001.out 2
            have hfz23_3 := blk_frozen BK28001.out 3
            have hfz23_4 := blk_frozen BK28001.out 4
            go_wp2
            go_ret
            exact ⟨by first | rfl | (simp [errW_none, errW_some] <;> rfl) | (simp [*, errW_none, errW_some] <;> rfl), by repeat (first | (with_reducible first | exact HB.out | apply below_alloc | apply pw_below_drewN | apply below_drew1 | refine below_set ?_ GE28001.out) | exact HB.out)⟩
           ·rw [if_neg c22] at H
            have c22b0 : decide (2048 < a0_4) = false := decide_eq_false c22
            clear c22
            obtain rfl := Option.some.inj H
            have hcz24_0 : wc.cell? ⟨gb28001, 0, none⟩ = some (.int .i64 a0_0) := (blk_cell BK28001.out 0).trans rfl
            have hcz24_1 : wc.cell? ⟨gb28001, 1, none⟩ = some (.int .i64 a0_1) := (blk_cell BK28001.out 1).trans rfl
            have hcz24_2 : wc.cell? ⟨gb28001, 2, none⟩ = some (.int .i64 a0_2) := (blk_cell BK28001.out 2).trans rfl
            have hcz24_3 : wc.cell? ⟨gb28001, 3, none⟩ = some (.int .i64 a0_3) := (blk_cell BK28001.out 3).trans rfl
            have hcz24_4 : wc.cell? ⟨gb28001, 4, none⟩ = some (.int .i64 a0_4) := (blk_cell BK28001.out 4).trans rfl
            have hfz24_0 := blk_frozen BK28001.out 0
            have hfz24_1 := blk_frozen BK28001.out 1
            have hfz24_2 := blk_frozen BK28001.out 2
            have hfz24_3 := blk_frozen BK28001.out 3
            have hfz24_4 := blk_frozen BK28001.out 4
            go_wp2
            go_ret
            exact ⟨by first | rfl | (simp [errW_none, errW_some] <;> rfl) | (simp [*, errW_none, errW_some] <;> rfl), by repeat (first | (with_reducible first | exact HB.out | apply below_alloc | apply pw_below_drewN | apply below_drew1 | refine below_set ?_ GE28001.out) | exact HB.out)⟩

end Go.Proofs.Ytfdfpdiemeomiaa.G

namespace Go.Proofs.Ytfdfpdiemeomiaa.G
open Go.RowKit Go.Proofs.YtfdfpdiemeomiaaW.PrintWords Go.Proofs.YtfdfpdiemeomiaaW.PrintLast Go.Proofs.YtfdfpdiemeomiaaW.PrintMore
attribute [local go_sem] max2_int min2_int max_two min_two max_three min_three max_four min_four   -- for this text's walks alone
set_option linter.unusedVariables false
set_option linter.unusedSimpArgs false

mutual
def reel_Check.l0 : Nat → List (S44) → List (S44) → Int → Int → Option (Int)
 | 0, _, _, _, _ => none
 | k + 1, x0, x13, x14, x15 => if x15 < x14 then (if 0 ≤ x15 then (if x15 < (x13.length : Int) then ((reel_checkOne.f k ((rd_T44 x13 x15).f0) ((rd_T44 x13 x15).f1) ((rd_T44 x13 x15).f2) ((rd_T44 x13 x15).f3) ((rd_T44 x13 x15).f4)).bind fun t16003 => (if t16003 = 0 then (reel_Check.l0 k x0 x13 x14 (wrap64 (x15 + 1))) else (some t16003))) else (none)) else (none)) else (reel_Check.l1 k 0 0 x0 (x0.length : Int) 0)
def reel_Check.l1 : Nat → Int → Int → List (S44) → Int → Int → Option (Int)
 | 0, _, _, _, _, _ => none
 | k + 1, x6, x7, x25, x26, x27 => if x27 < x26 then (if 0 ≤ x27 then (if x27 < (x25.length : Int) then (if ((rd_T44 x25 x27).f0) = x6 then (if ((rd_T44 x25 x27).f4) < x7 then (some 9) else (reel_Check.l1 k ((rd_T44 x25 x27).f1) ((rd_T44 x25 x27).f4) x25 x26 (wrap64 (x27 + 1)))) else (some 9)) else (none)) else (none)) else (some 0)
end
def reel_Check.f (k : Nat) (l0 : List (S44)) : Option (Int) := if (l0.length : Int) > 512 then (some 8) else (reel_Check.l0 k l0 l0 (l0.length : Int) 0)
theorem reel_Check.mono_l : ∀ k, (∀ y0 y1 y2 y3, LeO (reel_Check.l0 k y0 y1 y2 y3) (reel_Check.l0 (k + 1) y0 y1 y2 y3)) ∧ (∀ y0 y1 y2 y3 y4, LeO (reel_Check.l1 k y0 y1 y2 y3 y4) (reel_Check.l1 (k + 1) y0 y1 y2 y3 y4))
 | 0 => ⟨fun _ _ _ _ r h => by simp [reel_Check.l0] at h, fun _ _ _ _ _ r h => by simp [reel_Check.l1] at h⟩
 | k + 1 => by
  obtain ⟨ih0, ih1⟩ := reel_Check.mono_l k
  refine ⟨?_, ?_⟩
  ·intro y0 y1 y2 y3
   unfold reel_Check.l0
   repeat' first
   | (with_reducible exact ih0 _ _ _ _)
   | (with_reducible exact ih1 _ _ _ _ _)
   | (with_reducible exact reel_checkOne.mono _ _ _ _ _ _)
   | (with_reducible exact LeO.refl _)
   | (with_reducible exact LeO.none _)
   | (with_reducible refine LeO.ite ?_ ?_)
   | (with_reducible refine LeO.bind ?_ (fun _ => ?_))
   | exact ih0 _ _ _ _
   | exact ih1 _ _ _ _ _
   | exact reel_checkOne.mono _ _ _ _ _ _
   | exact LeO.none _
   | refine LeO.ite ?_ ?_
   | refine LeO.bind ?_ (fun _ => ?_)
  ·intro y0 y1 y2 y3 y4
   unfold reel_Check.l1
   repeat' first
   | (with_reducible exact ih0 _ _ _ _)
   | (with_reducible exact ih1 _ _ _ _ _)
   | (with_reducible exact reel_checkOne.mono _ _ _ _ _ _)
   | (with_reducible exact LeO.refl _)
   | (with_reducible exact LeO.none _)
   | (with_reducible refine LeO.ite ?_ ?_)
   | (with_reducible refine LeO.bind ?_ (fun _ => ?_))
   | exact ih0 _ _ _ _
   | exact ih1 _ _ _ _ _
   | exact reel_checkOne.mono _ _ _ _ _ _
   | exact LeO.none _
   | refine LeO.ite ?_ ?_
   | refine LeO.bind ?_ (fun _ => ?_)
theorem reel_Check.mono : ∀ a0 k, LeO (reel_Check.f k a0) (reel_Check.f (k + 1) a0) := by
 intro a0 k
 obtain ⟨ih0, ih1⟩ := reel_Check.mono_l k
 unfold reel_Check.f
 repeat' first
   | (with_reducible exact ih0 _ _ _ _)
   | (with_reducible exact ih1 _ _ _ _ _)
   | (with_reducible exact reel_checkOne.mono _ _ _ _ _ _)
   | (with_reducible exact LeO.refl _)
   | (with_reducible exact LeO.none _)
   | (with_reducible refine LeO.ite ?_ ?_)
   | (with_reducible refine LeO.bind ?_ (fun _ => ?_))
   | exact ih0 _ _ _ _
   | exact ih1 _ _ _ _ _
   | exact reel_checkOne.mono _ _ _ _ _ _
   | exact LeO.none _
   | refine LeO.ite ?_ ?_
   | refine LeO.bind ?_ (fun _ => ?_)
set_option maxHeartbeats 8000000 in
set_option maxRecDepth 100000 in
theorem reel_Check.calls (k : Nat) (A0 : Option Addr) (c0 : Nat) (l0 : List (S44)) (r : Int) (w : World) (hr0 : Kd.C k44 w A0 l0.length l0) (hc0 : l0.length ≤ c0) (h : reel_Check.f k l0 = some r) :
  Calls Try.prog 15 #[.slice A0 l0.length c0] w fun e w' => e = .returned (.int .i64 r) ∧ Below w.heap.size w w' := by
 have hu44 := Try.underlying44
 have HR0 := Aside0.mk hr0
 have HC0 := Aside0.mk hc0
 clear hr0 hc0
 have HB := Aside0.mk (Below.refl w.heap.size w)
 have H : (if (l0.length : Int) > 512 then (some 8) else (reel_Check.l0 k l0 l0 (l0.length : Int) 0)) = some r := h
 clear h
 by_cases c2 : (l0.length : Int) > 512
 ·rw [if_pos c2] at H
  have c2b0 : decide (512 < (l0.length : Int)) = true := decide_eq_true c2
  have c2b1 : decide (512 < l0.length) = true := decide_eq_true (by omega)
  clear c2
  obtain rfl := Option.some.inj H
  go_enter Try.func15, Try.ntmps15
  go_wp2
  repeat (go_quiet (fail); try go_wp2)
  go_ret
  exact ⟨by first | rfl | (simp [errW_none, errW_some] <;> rfl) | (simp [*, errW_none, errW_some] <;> rfl), by repeat (first | (with_reducible first | exact HB.out | apply below_alloc | apply pw_below_drewN | apply below_drew1) | exact HB.out)⟩
 ·rw [if_neg c2] at H
  have c2b0 : decide (512 < (l0.length : Int)) = false := decide_eq_false c2
  have c2b1 : decide (512 < l0.length) = false := decide_eq_false (by omega)
  clear c2
  have H' := Aside0.mk H
  clear H
  go_enter Try.func15, Try.ntmps15
  go_wp2
  repeat (go_quiet (fail); try go_wp2)
  go_loopg [15] k (fun kq v15 w' => ∃ (x15_1 : Int), v15 = .int .i64 x15_1 ∧ Aside0 (reel_Check.l0 kq l0 l0 (l0.length : Int) x15_1 = some r) ∧ Aside0 (kq ≤ k) ∧ Aside0 (Below w.heap.size w w'))
  case atStart => exact ⟨(0), (by first | rfl | (simp; done) | (simp [*]; done)), H', ⟨Nat.le_refl _⟩, ⟨by repeat (first | (with_reducible first | exact HB.out | apply below_alloc | apply pw_below_drewN | apply below_drew1) | exact HB.out)⟩⟩
  case round =>
   clear H'
   try clear c1
   try clear c2
   try clear c2b0
   try clear c2b1
   try clear p2
   obtain ⟨x15_1, rfl, HA, HK1, HB⟩ := hrel
   cases gk with
   | zero => exact absurd HA.out (by simp [reel_Check.l0])
   | succ k1 =>
    have H := HA.out
    clear HA
    simp only [reel_Check.l0] at H
    by_cases c3 : x15_1 < (l0.length : Int)
    ·rw [if_pos c3] at H
     have c3b0 : decide (x15_1 < (l0.length : Int)) = true := decide_eq_true c3
     clear c3
     by_cases c4 : 0 ≤ x15_1
     ·rw [if_pos c4] at H
      have c4b0 : decide (0 ≤ x15_1) = true := decide_eq_true c4
      clear c4
      by_cases c5 : x15_1 < (l0.length : Int)
      ·rw [if_pos c5] at H
       have c5b0 : decide (x15_1 < (l0.length : Int)) = true := decide_eq_true c5
       clear c5
       replace H := Option.bind_eq_some_iff.mp H
       obtain ⟨t16003, A60, H⟩ := H
       replace H : (if t16003 = 0 then (reel_Check.l0 k1 l0 l0 (l0.length : Int) (wrap64 (x15_1 + 1))) else (some t16003)) = some r := H
       have A6 := Aside0.mk A60
       clear A60
       by_cases c7 : t16003 = 0
       ·rw [if_pos c7] at H
        have c7b0 : (t16003 == 0) = true := beq_iff_eq.mpr c7
        have c7b1 : (t16003 != 0) = false := bne_eq_false_iff_eq.mpr c7
        clear c7
        have H' := Aside0.mk H
        clear H
        have p16001 : 0 ≤ (x15_1 : Int) := of_decide_eq_true (by first | (with_reducible assumption) | assumption)
        have q16001 : x15_1 < (l0.length : Int) := of_decide_eq_true (by first | (with_reducible assumption) | assumption)
        obtain ⟨ad16001, e16001, hx16001_0, hx16001_1, hx16001_2, hx16001_3, hx16001_4⟩ := at_T44 HR0.out x15_1 p16001 q16001
        cases e16001
        replace hx16001_0 := (HB.out.cell (World.block_lt_of_cell? w _ hx16001_0)).trans hx16001_0
        replace hx16001_1 := (HB.out.cell (World.block_lt_of_cell? w _ hx16001_1)).trans hx16001_1
        replace hx16001_2 := (HB.out.cell (World.block_lt_of_cell? w _ hx16001_2)).trans hx16001_2
        replace hx16001_3 := (HB.out.cell (World.block_lt_of_cell? w _ hx16001_3)).trans hx16001_3
        replace hx16001_4 := (HB.out.cell (World.block_lt_of_cell? w _ hx16001_4)).trans hx16001_4
        replace p16001 := eq_true p16001
        replace q16001 := eq_true q16001
        go_wp2_with (first | ((with_reducible refine gate_dst (N := 4) rfl ?_); refine box_event ?hg (N := 4) ?hd (cs := #[.int .i64 0, .int .i64 0, .int .i64 0, .int .i64 0, .int .i64 0]) (t := 44) ?hr ?_; (case hd => rfl); (case hg => rfl); (case hr => first | (go_simp; done) | (go_simp; rfl)); intro gb16002 hg w8 hbox hb; have n0_ := Aside0.mk (below_step (by repeat (first | (with_reducible first | exact HB.out | apply below_alloc | apply pw_below_drewN | apply below_drew1) | exact HB.out)) hb); have n1_ := Aside0.mk (hbox); have n2_ := Aside0.mk ((by rw [hg]; exact (below_size (by repeat (first | (with_reducible first | exact HB.out | apply below_alloc | apply pw_below_drewN | apply below_drew1) | exact HB.out))) : w.heap.size ≤ gb16002)); have n3_ := Aside0.mk ((by rw [hg]; exact (below_size (by repeat (first | (with_reducible first | exact HB.out | apply below_alloc | apply pw_below_drewN | apply below_drew1) | exact HB.out))) : w.heap.size ≤ gb16002)); clear HB; have HB := n0_; have BK16002 := n1_; have GW16002 := n2_; have GE16002 := n3_; clear n0_ n1_ n2_ n3_; clear hb hbox hg; have hcz9_0 : w8.cell? ⟨gb16002, 0, none⟩ = some (.int .i64 0) := (blk_cell BK16002.out 0).trans rfl; have hcz9_1 : w8.cell? ⟨gb16002, 1, none⟩ = some (.int .i64 0) := (blk_cell BK16002.out 1).trans rfl; have hcz9_2 : w8.cell? ⟨gb16002, 2, none⟩ = some (.int .i64 0) := (blk_cell BK16002.out 2).trans rfl; have hcz9_3 : w8.cell? ⟨gb16002, 3, none⟩ = some (.int .i64 0) := (blk_cell BK16002.out 3).trans rfl; have hcz9_4 : w8.cell? ⟨gb16002, 4, none⟩ = some (.int .i64 0) := (blk_cell BK16002.out 4).trans rfl; have hfz9_0 := blk_frozen BK16002.out 0; have hfz9_1 := blk_frozen BK16002.out 1; have hfz9_2 := blk_frozen BK16002.out 2; have hfz9_3 := blk_frozen BK16002.out 3; have hfz9_4 := blk_frozen BK16002.out 4) | (go_at_call 27; (with_reducible refine (reel_checkOne.calls k1 ((rd_T44 l0 x15_1).f0) ((rd_T44 l0 x15_1).f1) ((rd_T44 l0 x15_1).f2) ((rd_T44 l0 x15_1).f3) ((rd_T44 l0 x15_1).f4) t16003 _ A6.out).mono ?_); rintro e w10 ⟨rfl, hb⟩; have n0_ := Aside0.mk (blk_below (g := gb16002) (o := .cells #[.int .i64 ((rd_T44 l0 x15_1).f0), .int .i64 ((rd_T44 l0 x15_1).f1), .int .i64 ((rd_T44 l0 x15_1).f2), .int .i64 ((rd_T44 l0 x15_1).f3), .int .i64 ((rd_T44 l0 x15_1).f4)] 44 (0, 0)) (by (with_reducible repeat (first | refine blk_drewN ?_ _ | refine blk_drew ?_ | refine blk_alloc ?_ _)); refine blk_put (cs := #[.int .i64 ((rd_T44 l0 x15_1).f0), .int .i64 ((rd_T44 l0 x15_1).f1), .int .i64 ((rd_T44 l0 x15_1).f2), .int .i64 ((rd_T44 l0 x15_1).f3), .int .i64 0]) ?_ 4 _ rfl; (with_reducible repeat (first | refine blk_drewN ?_ _ | refine blk_drew ?_ | refine blk_alloc ?_ _)); refine blk_put (cs := #[.int .i64 ((rd_T44 l0 x15_1).f0), .int .i64 ((rd_T44 l0 x15_1).f1), .int .i64 ((rd_T44 l0 x15_1).f2), .int .i64 0, .int .i64 0]) ?_ 3 _ rfl; (with_reducible repeat (first | refine blk_drewN ?_ _ | refine blk_drew ?_ | refine blk_alloc ?_ _)); refine blk_put (cs := #[.int .i64 ((rd_T44 l0 x15_1).f0), .int .i64 ((rd_T44 l0 x15_1).f1), .int .i64 0, .int .i64 0, .int .i64 0]) ?_ 2 _ rfl; (with_reducible repeat (first | refine blk_drewN ?_ _ | refine blk_drew ?_ | refine blk_alloc ?_ _)); refine blk_put (cs := #[.int .i64 ((rd_T44 l0 x15_1).f0), .int .i64 0, .int .i64 0, .int .i64 0, .int .i64 0]) ?_ 1 _ rfl; (with_reducible repeat (first | refine blk_drewN ?_ _ | refine blk_drew ?_ | refine blk_alloc ?_ _)); refine blk_put (cs := #[.int .i64 0, .int .i64 0, .int .i64 0, .int .i64 0, .int .i64 0]) ?_ 0 _ rfl; (with_reducible repeat (first | refine blk_drewN ?_ _ | refine blk_drew ?_ | refine blk_alloc ?_ _)); exact BK16002.out) hb); have n1_ := Aside0.mk (below_step (by repeat (first | (with_reducible first | exact HB.out | apply below_alloc | apply pw_below_drewN | apply below_drew1 | refine below_set ?_ GE16002.out) | exact HB.out)) hb); clear BK16002; clear HB; have BK16002 := n0_; have HB := n1_; clear n0_ n1_; (try clear hb); (try clear hb2); (try clear hk); (try clear hi)))
        repeat (go_quiet (first | ((with_reducible refine gate_dst (N := 4) rfl ?_); refine box_event ?hg (N := 4) ?hd (cs := #[.int .i64 0, .int .i64 0, .int .i64 0, .int .i64 0, .int .i64 0]) (t := 44) ?hr ?_; (case hd => rfl); (case hg => rfl); (case hr => first | (go_simp; done) | (go_simp; rfl)); intro gb16002 hg w8 hbox hb; have n0_ := Aside0.mk (below_step (by repeat (first | (with_reducible first | exact HB.out | apply below_alloc | apply pw_below_drewN | apply below_drew1) | exact HB.out)) hb); have n1_ := Aside0.mk (hbox); have n2_ := Aside0.mk ((by rw [hg]; exact (below_size (by repeat (first | (with_reducible first | exact HB.out | apply below_alloc | apply pw_below_drewN | apply below_drew1) | exact HB.out))) : w.heap.size ≤ gb16002)); have n3_ := Aside0.mk ((by rw [hg]; exact (below_size (by repeat (first | (with_reducible first | exact HB.out | apply below_alloc | apply pw_below_drewN | apply below_drew1) | exact HB.out))) : w.heap.size ≤ gb16002)); clear HB; have HB := n0_; have BK16002 := n1_; have GW16002 := n2_; have GE16002 := n3_; clear n0_ n1_ n2_ n3_; clear hb hbox hg; have hcz9_0 : w8.cell? ⟨gb16002, 0, none⟩ = some (.int .i64 0) := (blk_cell BK16002.out 0).trans rfl; have hcz9_1 : w8.cell? ⟨gb16002, 1, none⟩ = some (.int .i64 0) := (blk_cell BK16002.out 1).trans rfl; have hcz9_2 : w8.cell? ⟨gb16002, 2, none⟩ = some (.int .i64 0) := (blk_cell BK16002.out 2).trans rfl; have hcz9_3 : w8.cell? ⟨gb16002, 3, none⟩ = some (.int .i64 0) := (blk_cell BK16002.out 3).trans rfl; have hcz9_4 : w8.cell? ⟨gb16002, 4, none⟩ = some (.int .i64 0) := (blk_cell BK16002.out 4).trans rfl; have hfz9_0 := blk_frozen BK16002.out 0; have hfz9_1 := blk_frozen BK16002.out 1; have hfz9_2 := blk_frozen BK16002.out 2; have hfz9_3 := blk_frozen BK16002.out 3; have hfz9_4 := blk_frozen BK16002.out 4) | (go_at_call 27; (with_reducible refine (reel_checkOne.calls k1 ((rd_T44 l0 x15_1).f0) ((rd_T44 l0 x15_1).f1) ((rd_T44 l0 x15_1).f2) ((rd_T44 l0 x15_1).f3) ((rd_T44 l0 x15_1).f4) t16003 _ A6.out).mono ?_); rintro e w10 ⟨rfl, hb⟩; have n0_ := Aside0.mk (blk_below (g := gb16002) (o := .cells #[.int .i64 ((rd_T44 l0 x15_1).f0), .int .i64 ((rd_T44 l0 x15_1).f1), .int .i64 ((rd_T44 l0 x15_1).f2), .int .i64 ((rd_T44 l0 x15_1).f3), .int .i64 ((rd_T44 l0 x15_1).f4)] 44 (0, 0)) (by (with_reducible repeat (first | refine blk_drewN ?_ _ | refine blk_drew ?_ | refine blk_alloc ?_ _)); refine blk_put (cs := #[.int .i64 ((rd_T44 l0 x15_1).f0), .int .i64 ((rd_T44 l0 x15_1).f1), .int .i64 ((rd_T44 l0 x15_1).f2), .int .i64 ((rd_T44 l0 x15_1).f3), .int .i64 0]) ?_ 4 _ rfl; (with_reducible repeat (first | refine blk_drewN ?_ _ | refine blk_drew ?_ | refine blk_alloc ?_ _)); refine blk_put (cs := #[.int .i64 ((rd_T44 l0 x15_1).f0), .int .i64 ((rd_T44 l0 x15_1).f1), .int .i64 ((rd_T44 l0 x15_1).f2), .int .i64 0, .int .i64 0]) ?_ 3 _ rfl; (with_reducible repeat (first | refine blk_drewN ?_ _ | refine blk_drew ?_ | refine blk_alloc ?_ _)); refine blk_put (cs := #[.int .i64 ((rd_T44 l0 x15_1).f0), .int .i64 ((rd_T44 l0 x15_1).f1), .int .i64 0, .int .i64 0, .int .i64 0]) ?_ 2 _ rfl; (with_reducible repeat (first | refine blk_drewN ?_ _ | refine blk_drew ?_ | refine blk_alloc ?_ _)); refine blk_put (cs := #[.int .i64 ((rd_T44 l0 x15_1).f0), .int .i64 0, .int .i64 0, .int .i64 0, .int .i64 0]) ?_ 1 _ rfl; (with_reducible repeat (first | refine blk_drewN ?_ _ | refine blk_drew ?_ | refine blk_alloc ?_ _)); refine blk_put (cs := #[.int .i64 0, .int .i64 0, .int .i64 0, .int .i64 0, .int .i64 0]) ?_ 0 _ rfl; (with_reducible repeat (first | refine blk_drewN ?_ _ | refine blk_drew ?_ | refine blk_alloc ?_ _)); exact BK16002.out) hb); have n1_ := Aside0.mk (below_step (by repeat (first | (with_reducible first | exact HB.out | apply below_alloc | apply pw_below_drewN | apply below_drew1 | refine below_set ?_ GE16002.out) | exact HB.out)) hb); clear BK16002; clear HB; have BK16002 := n0_; have HB := n1_; clear n0_ n1_; (try clear hb); (try clear hb2); (try clear hk); (try clear hi))); try go_wp2_with (first | ((with_reducible refine gate_dst (N := 4) rfl ?_); refine box_event ?hg (N := 4) ?hd (cs := #[.int .i64 0, .int .i64 0, .int .i64 0, .int .i64 0, .int .i64 0]) (t := 44) ?hr ?_; (case hd => rfl); (case hg => rfl); (case hr => first | (go_simp; done) | (go_simp; rfl)); intro gb16002 hg w8 hbox hb; have n0_ := Aside0.mk (below_step (by repeat (first | (with_reducible first | exact HB.out | apply below_alloc | apply pw_below_drewN | apply below_drew1) | exact HB.out)) hb); have n1_ := Aside0.mk (hbox); have n2_ := Aside0.mk ((by rw [hg]; exact (below_size (by repeat (first | (with_reducible first | exact HB.out | apply below_alloc | apply pw_below_drewN | apply below_drew1) | exact HB.out))) : w.heap.size ≤ gb16002)); have n3_ := Aside0.mk ((by rw [hg]; exact (below_size (by repeat (first | (with_reducible first | exact HB.out | apply below_alloc | apply pw_below_drewN | apply below_drew1) | exact HB.out))) : w.heap.size ≤ gb16002)); clear HB; have HB := n0_; have BK16002 := n1_; have GW16002 := n2_; have GE16002 := n3_; clear n0_ n1_ n2_ n3_; clear hb hbox hg; have hcz9_0 : w8.cell? ⟨gb16002, 0, none⟩ = some (.int .i64 0) := (blk_cell BK16002.out 0).trans rfl; have hcz9_1 : w8.cell? ⟨gb16002, 1, none⟩ = some (.int .i64 0) := (blk_cell BK16002.out 1).trans rfl; have hcz9_2 : w8.cell? ⟨gb16002, 2, none⟩ = some (.int .i64 0) := (blk_cell BK16002.out 2).trans rfl; have hcz9_3 : w8.cell? ⟨gb16002, 3, none⟩ = some (.int .i64 0) := (blk_cell BK16002.out 3).trans rfl; have hcz9_4 : w8.cell? ⟨gb16002, 4, none⟩ = some (.int .i64 0) := (blk_cell BK16002.out 4).trans rfl; have hfz9_0 := blk_frozen BK16002.out 0; have hfz9_1 := blk_frozen BK16002.out 1; have hfz9_2 := blk_frozen BK16002.out 2; have hfz9_3 := blk_frozen BK16002.out 3; have hfz9_4 := blk_frozen BK16002.out 4) | (go_at_call 27; (with_reducible refine (reel_checkOne.calls k1 ((rd_T44 l0 x15_1).f0) ((rd_T44 l0 x15_1).f1) ((rd_T44 l0 x15_1).f2) ((rd_T44 l0 x15_1).f3) ((rd_T44 l0 x15_1).f4) t16003 _ A6.out).mono ?_); rintro e w10 ⟨rfl, hb⟩; have n0_ := Aside0.mk (blk_below (g := gb16002) (o := .cells #[.int .i64 ((rd_T44 l0 x15_1).f0), .int .i64 ((rd_T44 l0 x15_1).f1), .int .i64 ((rd_T44 l0 x15_1).f2), .int .i64 ((rd_T44 l0 x15_1).f3), .int .i64 ((rd_T44 l0 x15_1).f4)] 44 (0, 0)) (by (with_reducible repeat (first | refine blk_drewN ?_ _ | refine blk_drew ?_ | refine blk_alloc ?_ _)); refine blk_put (cs := #[.int .i64 ((rd_T44 l0 x15_1).f0), .int .i64 ((rd_T44 l0 x15_1).f1), .int .i64 ((rd_T44 l0 x15_1).f2), .int .i64 ((rd_T44 l0 x15_1).f3), .int .i64 0]) ?_ 4 _ rfl; (with_reducible repeat (first | refine blk_drewN ?_ _ | refine blk_drew ?_ | refine blk_alloc ?_ _)); refine blk_put (cs := #[.int .i64 ((rd_T44 l0 x15_1).f0), .int .i64 ((rd_T44 l0 x15_1).f1), .int .i64 ((rd_T44 l0 x15_1).f2), .int .i64 0, .int .i64 0]) ?_ 3 _ rfl; (with_reducible repeat (first | refine blk_drewN ?_ _ | refine blk_drew ?_ | refine blk_alloc ?_ _)); refine blk_put (cs := #[.int .i64 ((rd_T44 l0 x15_1).f0), .int .i64 ((rd_T44 l0 x15_1).f1), .int .i64 0, .int .i64 0, .int .i64 0]) ?_ 2 _ rfl; (with_reducible repeat (first | refine blk_drewN ?_ _ | refine blk_drew ?_ | refine blk_alloc ?_ _)); refine blk_put (cs := #[.int .i64 ((rd_T44 l0 x15_1).f0), .int .i64 0, .int .i64 0, .int .i64 0, .int .i64 0]) ?_ 1 _ rfl; (with_reducible repeat (first | refine blk_drewN ?_ _ | refine blk_drew ?_ | refine blk_alloc ?_ _)); refine blk_put (cs := #[.int .i64 0, .int .i64 0, .int .i64 0, .int .i64 0, .int .i64 0]) ?_ 0 _ rfl; (with_reducible repeat (first | refine blk_drewN ?_ _ | refine blk_drew ?_ | refine blk_alloc ?_ _)); exact BK16002.out) hb); have n1_ := Aside0.mk (below_step (by repeat (first | (with_reducible first | exact HB.out | apply below_alloc | apply pw_below_drewN | apply below_drew1 | refine below_set ?_ GE16002.out) | exact HB.out)) hb); clear BK16002; clear HB; have BK16002 := n0_; have HB := n1_; clear n0_ n1_; (try clear hb); (try clear hb2); (try clear hk); (try clear hi))))
        go_roundg k1
        case measure => have := HK1.out; omega
        case rel => exact ⟨(wrap64 (x15_1 + 1)), (by first | rfl | (simp; done) | (simp [*]; done)), H', ⟨by have := HK1.out; omega⟩, ⟨by repeat (first | (with_reducible first | exact HB.out | apply below_alloc | apply pw_below_drewN | apply below_drew1 | refine below_set ?_ GE16002.out) | exact HB.out)⟩⟩
       ·rw [if_neg c7] at H
        have c7b0 : (t16003 == 0) = false := beq_eq_false_iff_ne.mpr c7
        have c7b1 : (t16003 != 0) = true := bne_iff_ne.mpr c7
        obtain rfl := Option.some.inj H
        have p16001 : 0 ≤ (x15_1 : Int) := of_decide_eq_true (by first | (with_reducible assumption) | assumption)
        have q16001 : x15_1 < (l0.length : Int) := of_decide_eq_true (by first | (with_reducible assumption) | assumption)
        obtain ⟨ad16001, e16001, hx16001_0, hx16001_1, hx16001_2, hx16001_3, hx16001_4⟩ := at_T44 HR0.out x15_1 p16001 q16001
        cases e16001
        replace hx16001_0 := (HB.out.cell (World.block_lt_of_cell? w _ hx16001_0)).trans hx16001_0
        replace hx16001_1 := (HB.out.cell (World.block_lt_of_cell? w _ hx16001_1)).trans hx16001_1
        replace hx16001_2 := (HB.out.cell (World.block_lt_of_cell? w _ hx16001_2)).trans hx16001_2
        replace hx16001_3 := (HB.out.cell (World.block_lt_of_cell? w _ hx16001_3)).trans hx16001_3
        replace hx16001_4 := (HB.out.cell (World.block_lt_of_cell? w _ hx16001_4)).trans hx16001_4
        replace p16001 := eq_true p16001
        replace q16001 := eq_true q16001
        go_wp2_with (first | ((with_reducible refine gate_dst (N := 4) rfl ?_); refine box_event ?hg (N := 4) ?hd (cs := #[.int .i64 0, .int .i64 0, .int .i64 0, .int .i64 0, .int .i64 0]) (t := 44) ?hr ?_; (case hd => rfl); (case hg => rfl); (case hr => first | (go_simp; done) | (go_simp; rfl)); intro gb16002 hg w11 hbox hb; have n0_ := Aside0.mk (below_step (by repeat (first | (with_reducible first | exact HB.out | apply below_alloc | apply pw_below_drewN | apply below_drew1) | exact HB.out)) hb); have n1_ := Aside0.mk (hbox); have n2_ := Aside0.mk ((by rw [hg]; exact (below_size (by repeat (first | (with_reducible first | exact HB.out | apply below_alloc | apply pw_below_drewN | apply below_drew1) | exact HB.out))) : w.heap.size ≤ gb16002)); have n3_ := Aside0.mk ((by rw [hg]; exact (below_size (by repeat (first | (with_reducible first | exact HB.out | apply below_alloc | apply pw_below_drewN | apply below_drew1) | exact HB.out))) : w.heap.size ≤ gb16002)); clear HB; have HB := n0_; have BK16002 := n1_; have GW16002 := n2_; have GE16002 := n3_; clear n0_ n1_ n2_ n3_; clear hb hbox hg; have hcz12_0 : w11.cell? ⟨gb16002, 0, none⟩ = some (.int .i64 0) := (blk_cell BK16002.out 0).trans rfl; have hcz12_1 : w11.cell? ⟨gb16002, 1, none⟩ = some (.int .i64 0) := (blk_cell BK16002.out 1).trans rfl; have hcz12_2 : w11.cell? ⟨gb16002, 2, none⟩ = some (.int .i64 0) := (blk_cell BK16002.out 2).trans rfl; have hcz12_3 : w11.cell? ⟨gb16002, 3, none⟩ = some (.int .i64 0) := (blk_cell BK16002.out 3).trans rfl; have hcz12_4 : w11.cell? ⟨gb16002, 4, none⟩ = some (.int .i64 0) := (blk_cell BK16002.out 4).trans rfl; have hfz12_0 := blk_frozen BK16002.out 0; have hfz12_1 := blk_frozen BK16002.out 1; have hfz12_2 := blk_frozen BK16002.out 2; have hfz12_3 := blk_frozen BK16002.out 3; have hfz12_4 := blk_frozen BK16002.out 4) | (go_at_call 27; (with_reducible refine (reel_checkOne.calls k1 ((rd_T44 l0 x15_1).f0) ((rd_T44 l0 x15_1).f1) ((rd_T44 l0 x15_1).f2) ((rd_T44 l0 x15_1).f3) ((rd_T44 l0 x15_1).f4) t16003 _ A6.out).mono ?_); rintro e w13 ⟨rfl, hb⟩; have n0_ := Aside0.mk (blk_below (g := gb16002) (o := .cells #[.int .i64 ((rd_T44 l0 x15_1).f0), .int .i64 ((rd_T44 l0 x15_1).f1), .int .i64 ((rd_T44 l0 x15_1).f2), .int .i64 ((rd_T44 l0 x15_1).f3), .int .i64 ((rd_T44 l0 x15_1).f4)] 44 (0, 0)) (by (with_reducible repeat (first | refine blk_drewN ?_ _ | refine blk_drew ?_ | refine blk_alloc ?_ _)); refine blk_put (cs := #[.int .i64 ((rd_T44 l0 x15_1).f0), .int .i64 ((rd_T44 l0 x15_1).f1), .int .i64 ((rd_T44 l0 x15_1).f2), .int .i64 ((rd_T44 l0 x15_1).f3), .int .i64 0]) ?_ 4 _ rfl; (with_reducible repeat (first | refine blk_drewN ?_ _ | refine blk_drew ?_ | refine blk_alloc ?_ _)); refine blk_put (cs := #[.int .i64 ((rd_T44 l0 x15_1).f0), .int .i64 ((rd_T44 l0 x15_1).f1), .int .i64 ((rd_T44 l0 x15_1).f2), .int .i64 0, .int .i64 0]) ?_ 3 _ rfl; (with_reducible repeat (first | refine blk_drewN ?_ _ | refine blk_drew ?_ | refine blk_alloc ?_ _)); refine blk_put (cs := #[.int .i64 ((rd_T44 l0 x15_1).f0), .int .i64 ((rd_T44 l0 x15_1).f1), .int .i64 0, .int .i64 0, .int .i64 0]) ?_ 2 _ rfl; (with_reducible repeat (first | refine blk_drewN ?_ _ | refine blk_drew ?_ | refine blk_alloc ?_ _)); refine blk_put (cs := #[.int .i64 ((rd_T44 l0 x15_1).f0), .int .i64 0, .int .i64 0, .int .i64 0, .int .i64 0]) ?_ 1 _ rfl; (with_reducible repeat (first | refine blk_drewN ?_ _ | refine blk_drew ?_ | refine blk_alloc ?_ _)); refine blk_put (cs := #[.int .i64 0, .int .i64 0, .int .i64 0, .int .i64 0, .int .i64 0]) ?_ 0 _ rfl; (with_reducible repeat (first | refine blk_drewN ?_ _ | refine blk_drew ?_ | refine blk_alloc ?_ _)); exact BK16002.out) hb); have n1_ := Aside0.mk (below_step (by repeat (first | (with_reducible first | exact HB.out | apply below_alloc | apply pw_below_drewN | apply below_drew1 | refine below_set ?_ GE16002.out) | exact HB.out)) hb); clear BK16002; clear HB; have BK16002 := n0_; have HB := n1_; clear n0_ n1_; (try clear hb); (try clear hb2); (try clear hk); (try clear hi)))
        repeat (go_quiet (first | ((with_reducible refine gate_dst (N := 4) rfl ?_); refine box_event ?hg (N := 4) ?hd (cs := #[.int .i64 0, .int .i64 0, .int .i64 0, .int .i64 0, .int .i64 0]) (t := 44) ?hr ?_; (case hd => rfl); (case hg => rfl); (case hr => first | (go_simp; done) | (go_simp; rfl)); intro gb16002 hg w11 hbox hb; have n0_ := Aside0.mk (below_step (by repeat (first | (with_reducible first | exact HB.out | apply below_alloc | apply pw_below_drewN | apply below_drew1) | exact HB.out)) hb); have n1_ := Aside0.mk (hbox); have n2_ := Aside0.mk ((by rw [hg]; exact (below_size (by repeat (first | (with_reducible first | exact HB.out | apply below_alloc | apply pw_below_drewN | apply below_drew1) | exact HB.out))) : w.heap.size ≤ gb16002)); have n3_ := Aside0.mk ((by rw [hg]; exact (below_size (by repeat (first | (with_reducible first | exact HB.out | apply below_alloc | apply pw_below_drewN | apply below_drew1) | exact HB.out))) : w.heap.size ≤ gb16002)); clear HB; have HB := n0_; have BK16002 := n1_; have GW16002 := n2_; have GE16002 := n3_; clear n0_ n1_ n2_ n3_; clear hb hbox hg; have hcz12_0 : w11.cell? ⟨gb16002, 0, none⟩ = some (.int .i64 0) := (blk_cell BK16002.out 0).trans rfl; have hcz12_1 : w11.cell? ⟨gb16002, 1, none⟩ = some (.int .i64 0) := (blk_cell BK16002.out 1).trans rfl; have hcz12_2 : w11.cell? ⟨gb16002, 2, none⟩ = some (.int .i64 0) := (blk_cell BK16002.out 2).trans rfl; have hcz12_3 : w11.cell? ⟨gb16002, 3, none⟩ = some (.int .i64 0) := (blk_cell BK16002.out 3).trans rfl; have hcz12_4 : w11.cell? ⟨gb16002, 4, none⟩ = some (.int .i64 0) := (blk_cell BK16002.out 4).trans rfl; have hfz12_0 := blk_frozen BK16002.out 0; have hfz12_1 := blk_frozen BK16002.out 1; have hfz12_2 := blk_frozen BK16002.out 2; have hfz12_3 := blk_frozen BK16002.out 3; have hfz12_4 := blk_frozen BK16002.out 4) | (go_at_call 27; (with_reducible refine (reel_checkOne.calls k1 ((rd_T44 l0 x15_1).f0) ((rd_T44 l0 x15_1).f1) ((rd_T44 l0 x15_1).f2) ((rd_T44 l0 x15_1).f3) ((rd_T44 l0 x15_1).f4) t16003 _ A6.out).mono ?_); rintro e w13 ⟨rfl, hb⟩; have n0_ := Aside0.mk (blk_below (g := gb16002) (o := .cells #[.int .i64 ((rd_T44 l0 x15_1).f0), .int .i64 ((rd_T44 l0 x15_1).f1), .int .i64 ((rd_T44 l0 x15_1).f2), .int .i64 ((rd_T44 l0 x15_1).f3), .int .i64 ((rd_T44 l0 x15_1).f4)] 44 (0, 0)) (by (with_reducible repeat (first | refine blk_drewN ?_ _ | refine blk_drew ?_ | refine blk_alloc ?_ _)); refine blk_put (cs := #[.int .i64 ((rd_T44 l0 x15_1).f0), .int .i64 ((rd_T44 l0 x15_1).f1), .int .i64 ((rd_T44 l0 x15_1).f2), .int .i64 ((rd_T44 l0 x15_1).f3), .int .i64 0]) ?_ 4 _ rfl; (with_reducible repeat (first | refine blk_drewN ?_ _ | refine blk_drew ?_ | refine blk_alloc ?_ _)); refine blk_put (cs := #[.int .i64 ((rd_T44 l0 x15_1).f0), .int .i64 ((rd_T44 l0 x15_1).f1), .int .i64 ((rd_T44 l0 x15_1).f2), .int .i64 0, .int .i64 0]) ?_ 3 _ rfl; (with_reducible repeat (first | refine blk_drewN ?_ _ | refine blk_drew ?_ | refine blk_alloc ?_ _)); refine blk_put (cs := #[.int .i64 ((rd_T44 l0 x15_1).f0), .int .i64 ((rd_T44 l0 x15_1).f1), .int .i64 0, .int .i64 0, .int .i64 0]) ?_ 2 _ rfl; (with_reducible repeat (first | refine blk_drewN ?_ _ | refine blk_drew ?_ | refine blk_alloc ?_ _)); refine blk_put (cs := #[.int .i64 ((rd_T44 l0 x15_1).f0), .int .i64 0, .int .i64 0, .int .i64 0, .int .i64 0]) ?_ 1 _ rfl; (with_reducible repeat (first | refine blk_drewN ?_ _ | refine blk_drew ?_ | refine blk_alloc ?_ _)); refine blk_put (cs := #[.int .i64 0, .int .i64 0, .int .i64 0, .int .i64 0, .int .i64 0]) ?_ 0 _ rfl; (with_reducible repeat (first | refine blk_drewN ?_ _ | refine blk_drew ?_ | refine blk_alloc ?_ _)); exact BK16002.out) hb); have n1_ := Aside0.mk (below_step (by repeat (first | (with_reducible first | exact HB.out | apply below_alloc | apply pw_below_drewN | apply below_drew1 | refine below_set ?_ GE16002.out) | exact HB.out)) hb); clear BK16002; clear HB; have BK16002 := n0_; have HB := n1_; clear n0_ n1_; (try clear hb); (try clear hb2); (try clear hk); (try clear hi))); try go_wp2_with (first | ((with_reducible refine gate_dst (N := 4) rfl ?_); refine box_event ?hg (N := 4) ?hd (cs := #[.int .i64 0, .int .i64 0, .int .i64 0, .int .i64 0, .int .i64 0]) (t := 44) ?hr ?_; (case hd => rfl); (case hg => rfl); (case hr => first | (go_simp; done) | (go_simp; rfl)); intro gb16002 hg w11 hbox hb; have n0_ := Aside0.mk (below_step (by repeat (first | (with_reducible first | exact HB.out | apply below_alloc | apply pw_below_drewN | apply below_drew1) | exact HB.out)) hb); have n1_ := Aside0.mk (hbox); have n2_ := Aside0.mk ((by rw [hg]; exact (below_size (by repeat (first | (with_reducible first | exact HB.out | apply below_alloc | apply pw_below_drewN | apply below_drew1) | exact HB.out))) : w.heap.size ≤ gb16002)); have n3_ := Aside0.mk ((by rw [hg]; exact (below_size (by repeat (first | (with_reducible first | exact HB.out | apply below_alloc | apply pw_below_drewN | apply below_drew1) | exact HB.out))) : w.heap.size ≤ gb16002)); clear HB; have HB := n0_; have BK16002 := n1_; have GW16002 := n2_; have GE16002 := n3_; clear n0_ n1_ n2_ n3_; clear hb hbox hg; have hcz12_0 : w11.cell? ⟨gb16002, 0, none⟩ = some (.int .i64 0) := (blk_cell BK16002.out 0).trans rfl; have hcz12_1 : w11.cell? ⟨gb16002, 1, none⟩ = some (.int .i64 0) := (blk_cell BK16002.out 1).trans rfl; have hcz12_2 : w11.cell? ⟨gb16002, 2, none⟩ = some (.int .i64 0) := (blk_cell BK16002.out 2).trans rfl; have hcz12_3 : w11.cell? ⟨gb16002, 3, none⟩ = some (.int .i64 0) := (blk_cell BK16002.out 3).trans rfl; have hcz12_4 : w11.cell? ⟨gb16002, 4, none⟩ = some (.int .i64 0) := (blk_cell BK16002.out 4).trans rfl; have hfz12_0 := blk_frozen BK16002.out 0; have hfz12_1 := blk_frozen BK16002.out 1; have hfz12_2 := blk_frozen BK16002.out 2; have hfz12_3 := blk_frozen BK16002.out 3; have hfz12_4 := blk_frozen BK16002.out 4) | (go_at_call 27; (with_reducible refine (reel_checkOne.calls k1 ((rd_T44 l0 x15_1).f0) ((rd_T44 l0 x15_1).f1) ((rd_T44 l0 x15_1).f2) ((rd_T44 l0 x15_1).f3) ((rd_T44 l0 x15_1).f4) t16003 _ A6.out).mono ?_); rintro e w13 ⟨rfl, hb⟩; have n0_ := Aside0.mk (blk_below (g := gb16002) (o := .cells #[.int .i64 ((rd_T44 l0 x15_1).f0), .int .i64 ((rd_T44 l0 x15_1).f1), .int .i64 ((rd_T44 l0 x15_1).f2), .int .i64 ((rd_T44 l0 x15_1).f3), .int .i64 ((rd_T44 l0 x15_1).f4)] 44 (0, 0)) (by (with_reducible repeat (first | refine blk_drewN ?_ _ | refine blk_drew ?_ | refine blk_alloc ?_ _)); refine blk_put (cs := #[.int .i64 ((rd_T44 l0 x15_1).f0), .int .i64 ((rd_T44 l0 x15_1).f1), .int .i64 ((rd_T44 l0 x15_1).f2), .int .i64 ((rd_T44 l0 x15_1).f3), .int .i64 0]) ?_ 4 _ rfl; (with_reducible repeat (first | refine blk_drewN ?_ _ | refine blk_drew ?_ | refine blk_alloc ?_ _)); refine blk_put (cs := #[.int .i64 ((rd_T44 l0 x15_1).f0), .int .i64 ((rd_T44 l0 x15_1).f1), .int .i64 ((rd_T44 l0 x15_1).f2), .int .i64 0, .int .i64 0]) ?_ 3 _ rfl; (with_reducible repeat (first | refine blk_drewN ?_ _ | refine blk_drew ?_ | refine blk_alloc ?_ _)); refine blk_put (cs := #[.int .i64 ((rd_T44 l0 x15_1).f0), .int .i64 ((rd_T44 l0 x15_1).f1), .int .i64 0, .int .i64 0, .int .i64 0]) ?_ 2 _ rfl; (with_reducible repeat (first | refine blk_drewN ?_ _ | refine blk_drew ?_ | refine blk_alloc ?_ _)); refine blk_put (cs := #[.int .i64 ((rd_T44 l0 x15_1).f0), .int .i64 0, .int .i64 0, .int .i64 0, .int .i64 0]) ?_ 1 _ rfl; (with_reducible repeat (first | refine blk_drewN ?_ _ | refine blk_drew ?_ | refine blk_alloc ?_ _)); refine blk_put (cs := #[.int .i64 0, .int .i64 0, .int .i64 0, .int .i64 0, .int .i64 0]) ?_ 0 _ rfl; (with_reducible repeat (first | refine blk_drewN ?_ _ | refine blk_drew ?_ | refine blk_alloc ?_ _)); exact BK16002.out) hb); have n1_ := Aside0.mk (below_step (by repeat (first | (with_reducible first | exact HB.out | apply below_alloc | apply pw_below_drewN | apply below_drew1 | refine below_set ?_ GE16002.out) | exact HB.out)) hb); clear BK16002; clear HB; have BK16002 := n0_; have HB := n1_; clear n0_ n1_; (try clear hb); (try clear hb2); (try clear hk); (try clear hi))))
        go_ret
        exact ⟨by first | rfl | (simp [errW_none, errW_some] <;> rfl) | (simp [*, errW_none, errW_some] <;> rfl), by repeat (first | (with_reducible first | exact HB.out | apply below_alloc | apply pw_below_drewN | apply below_drew1 | refine below_set ?_ GE16002.out) | exact HB.out)⟩
      ·rw [if_neg c5] at H
       exact absurd H (by simp)
     ·rw [if_neg c4] at H
      exact absurd H (by simp)
    ·rw [if_neg c3] at H
     have c3b0 : decide (x15_1 < (l0.length : Int)) = false := decide_eq_false c3
     clear c3
     have H' := Aside0.mk H
     clear H
     go_wp2
     repeat (go_quiet (fail); try go_wp2)
     go_loopg [6, 7, 27] k1 (fun kq v6 v7 v27 w' => ∃ (x6_2 : Int) (x7_2 : Int) (x27_2 : Int), v6 = .int .i64 x6_2 ∧ v7 = .int .i64 x7_2 ∧ v27 = .int .i64 x27_2 ∧ Aside0 (reel_Check.l1 kq x6_2 x7_2 l0 (l0.length : Int) x27_2 = some r) ∧ Aside0 (kq ≤ k1) ∧ Aside0 (Below w.heap.size w w'))
     case atStart => exact ⟨(0), (0), (0), (by first | rfl | (simp; done) | (simp [*]; done)), (by first | rfl | (simp; done) | (simp [*]; done)), (by first | rfl | (simp; done) | (simp [*]; done)), H', ⟨Nat.le_refl _⟩, ⟨by repeat (first | (with_reducible first | exact HB.out | apply below_alloc | apply pw_below_drewN | apply below_drew1) | exact HB.out)⟩⟩
     case round =>
      clear H'
      try clear c1
      try clear p1
      try clear q1
      try clear hx1
      try clear c2
      try clear c2b0
      try clear c2b1
      try clear p2
      try clear c3
      try clear c3b0
      try clear c4
      try clear c4b0
      try clear c5
      try clear c5b0
      try clear p6
      try clear c7
      try clear c7b0
      try clear c7b1
      try clear hcz12_0
      try clear hcz12_1
      try clear hcz12_2
      try clear hcz12_3
      try clear hcz12_4
      try clear hcz9_0
      try clear hcz9_1
      try clear hcz9_2
      try clear hcz9_3
      try clear hcz9_4
      try clear hfz12_0
      try clear hfz12_1
      try clear hfz12_2
      try clear hfz12_3
      try clear hfz12_4
      try clear hfz9_0
      try clear hfz9_1
      try clear hfz9_2
      try clear hfz9_3
      try clear hfz9_4
      try clear hx16001_0
      try clear hx16001_1
      try clear hx16001_2
      try clear hx16001_3
      try clear hx16001_4
      try clear p16001
      try clear p2
      try clear q16001
      obtain ⟨x6_2, x7_2, x27_2, rfl, rfl, rfl, HA, HK2, HB⟩ := hrel
      cases gk with
      | zero => exact absurd HA.out (by simp [reel_Check.l1])
      | succ k2 =>
       have H := HA.out
       clear HA
       simp only [reel_Check.l1] at H
       by_cases c14 : x27_2 < (l0.length : Int)
       ·rw [if_pos c14] at H
        have c14b0 : decide (x27_2 < (l0.length : Int)) = true := decide_eq_true c14
        clear c14
        by_cases c15 : 0 ≤ x27_2
        ·rw [if_pos c15] at H
         have c15b0 : decide (0 ≤ x27_2) = true := decide_eq_true c15
         clear c15
         by_cases c16 : x27_2 < (l0.length : Int)
         ·rw [if_pos c16] at H
          have c16b0 : decide (x27_2 < (l0.length : Int)) = true := decide_eq_true c16
          clear c16
          by_cases c17 : ((rd_T44 l0 x27_2).f0) = x6_2
          ·rw [if_pos c17] at H
           have c17b0 : (((rd_T44 l0 x27_2).f0) == x6_2) = true := beq_iff_eq.mpr c17
           have c17b1 : (((rd_T44 l0 x27_2).f0) != x6_2) = false := bne_eq_false_iff_eq.mpr c17
           clear c17
           by_cases c18 : ((rd_T44 l0 x27_2).f4) < x7_2
           ·rw [if_pos c18] at H
            have c18b0 : decide (((rd_T44 l0 x27_2).f4) < x7_2) = true := decide_eq_true c18
            clear c18
            obtain rfl := Option.some.inj H
            have p16004 : 0 ≤ (x27_2 : Int) := of_decide_eq_true (by first | (with_reducible assumption) | assumption)
            have q16004 : x27_2 < (l0.length : Int) := of_decide_eq_true (by first | (with_reducible assumption) | assumption)
            obtain ⟨ad16004, e16004, hx16004_0, hx16004_1, hx16004_2, hx16004_3, hx16004_4⟩ := at_T44 HR0.out x27_2 p16004 q16004
            cases e16004
            replace hx16004_0 := (HB.out.cell (World.block_lt_of_cell? w _ hx16004_0)).trans hx16004_0
            replace hx16004_1 := (HB.out.cell (World.block_lt_of_cell? w _ hx16004_1)).trans hx16004_1
            replace hx16004_2 := (HB.out.cell (World.block_lt_of_cell? w _ hx16004_2)).trans hx16004_2
            replace hx16004_3 := (HB.out.cell (World.block_lt_of_cell? w _ hx16004_3)).trans hx16004_3
            replace hx16004_4 := (HB.out.cell (World.block_lt_of_cell? w _ hx16004_4)).trans hx16004_4
            replace p16004 := eq_true p16004
            replace q16004 := eq_true q16004
            go_wp2_with (first | ((with_reducible refine gate_dst (N := 9) rfl ?_); refine box_event ?hg (N := 9) ?hd (cs := #[.int .i64 0, .int .i64 0, .int .i64 0, .int .i64 0, .int .i64 0]) (t := 44) ?hr ?_; (case hd => rfl); (case hg => rfl); (case hr => first | (go_simp; done) | (go_simp; rfl)); intro gb16005 hg w19 hbox hb; have n0_ := Aside0.mk (below_step (by repeat (first | (with_reducible first | exact HB.out | apply below_alloc | apply pw_below_drewN | apply below_drew1) | exact HB.out)) hb); have n1_ := Aside0.mk (hbox); have n2_ := Aside0.mk ((by rw [hg]; exact (below_size (by repeat (first | (with_reducible first | exact HB.out | apply below_alloc | apply pw_below_drewN | apply below_drew1) | exact HB.out))) : w.heap.size ≤ gb16005)); have n3_ := Aside0.mk ((by rw [hg]; exact (below_size (by repeat (first | (with_reducible first | exact HB.out | apply below_alloc | apply pw_below_drewN | apply below_drew1) | exact HB.out))) : w.heap.size ≤ gb16005)); clear HB; have HB := n0_; have BK16005 := n1_; have GW16005 := n2_; have GE16005 := n3_; clear n0_ n1_ n2_ n3_; clear hb hbox hg; have hcz20_0 : w19.cell? ⟨gb16005, 0, none⟩ = some (.int .i64 0) := (blk_cell BK16005.out 0).trans rfl; have hcz20_1 : w19.cell? ⟨gb16005, 1, none⟩ = some (.int .i64 0) := (blk_cell BK16005.out 1).trans rfl; have hcz20_2 : w19.cell? ⟨gb16005, 2, none⟩ = some (.int .i64 0) := (blk_cell BK16005.out 2).trans rfl; have hcz20_3 : w19.cell? ⟨gb16005, 3, none⟩ = some (.int .i64 0) := (blk_cell BK16005.out 3).trans rfl; have hcz20_4 : w19.cell? ⟨gb16005, 4, none⟩ = some (.int .i64 0) := (blk_cell BK16005.out 4).trans rfl; have hfz20_0 := blk_frozen BK16005.out 0; have hfz20_1 := blk_frozen BK16005.out 1; have hfz20_2 := blk_frozen BK16005.out 2; have hfz20_3 := blk_frozen BK16005.out 3; have hfz20_4 := blk_frozen BK16005.out 4))
            repeat (go_quiet (first | ((with_reducible refine gate_dst (N := 9) rfl ?_); refine box_event ?hg (N := 9) ?hd (cs := #[.int .i64 0, .int .i64 0, .int .i64 0, .int .i64 0, .int .i64 0]) (t := 44) ?hr ?_; (case hd => rfl); (case hg => rfl); (case hr => first | (go_simp; done) | (go_simp; rfl)); intro gb16005 hg w19 hbox hb; have n0_ := Aside0.mk (below_step (by repeat (first | (with_reducible first | exact HB.out | apply below_alloc | apply pw_below_drewN | apply below_drew1) | exact HB.out)) hb); have n1_ := Aside0.mk (hbox); have n2_ := Aside0.mk ((by rw [hg]; exact (below_size (by repeat (first | (with_reducible first | exact HB.out | apply below_alloc | apply pw_below_drewN | apply below_drew1) | exact HB.out))) : w.heap.size ≤ gb16005)); have n3_ := Aside0.mk ((by rw [hg]; exact (below_size (by repeat (first | (with_reducible first | exact HB.out | apply below_alloc | apply pw_below_drewN | apply below_drew1) | exact HB.out))) : w.heap.size ≤ gb16005)); clear HB; have HB := n0_; have BK16005 := n1_; have GW16005 := n2_; have GE16005 := n3_; clear n0_ n1_ n2_ n3_; clear hb hbox hg; have hcz20_0 : w19.cell? ⟨gb16005, 0, none⟩ = some (.int .i64 0) := (blk_cell BK16005.out 0).trans rfl; have hcz20_1 : w19.cell? ⟨gb16005, 1, none⟩ = some (.int .i64 0) := (blk_cell BK16005.out 1).trans rfl; have hcz20_2 : w19.cell? ⟨gb16005, 2, none⟩ = some (.int .i64 0) := (blk_cell BK16005.out 2).trans rfl; have hcz20_3 : w19.cell? ⟨gb16005, 3, none⟩ = some (.int .i64 0) := (blk_cell BK16005.out 3).trans rfl; have hcz20_4 : w19.cell? ⟨gb16005, 4, none⟩ = some (.int .i64 0) := (blk_cell BK16005.out 4).trans rfl; have hfz20_0 := blk_frozen BK16005.out 0; have hfz20_1 := blk_frozen BK16005.out 1; have hfz20_2 := blk_frozen BK16005.out 2; have hfz20_3 := blk_frozen BK16005.out 3; have hfz20_4 := blk_frozen BK16005.out 4)); try go_wp2_with (first | ((with_reducible refine gate_dst (N := 9) rfl ?_); refine box_event ?hg (N := 9) ?hd (cs := #[.int .i64 0, .int .i64 0, .int .i64 0, .int .i64 0, .int .i64 0]) (t := 44) ?hr ?_; (case hd => rfl); (case hg => rfl); (case hr => first | (go_simp; done) | (go_simp; rfl)); intro gb16005 hg w19 hbox hb; have n0_ := Aside0.mk (below_step (by repeat (first | (with_reducible first | exact HB.out | apply below_alloc | apply pw_below_drewN | apply below_drew1) | exact HB.out)) hb); have n1_ := Aside0.mk (hbox); have n2_ := Aside0.mk ((by rw [hg]; exact (below_size (by repeat (first | (with_reducible first | exact HB.out | apply below_alloc | apply pw_below_drewN | apply below_drew1) | exact HB.out))) : w.heap.size ≤ gb16005)); have n3_ := Aside0.mk ((by rw [hg]; exact (below_size (by repeat (first | (with_reducible first | exact HB.out | apply below_alloc | apply pw_below_drewN | apply below_drew1) | exact HB.out))) : w.heap.size ≤ gb16005)); clear HB; have HB := n0_; have BK16005 := n1_; have GW16005 := n2_; have GE16005 := n3_; clear n0_ n1_ n2_ n3_; clear hb hbox hg; have hcz20_0 : w19.cell? ⟨gb16005, 0, none⟩ = some (.int .i64 0) := (blk_cell BK16005.out 0).trans rfl; have hcz20_1 : w19.cell? ⟨gb16005, 1, none⟩ = some (.int .i64 0) := (blk_cell BK16005.out 1).trans rfl; have hcz20_2 : w19.cell? ⟨gb16005, 2, none⟩ = some (.int .i64 0) := (blk_cell BK16005.out 2).trans rfl; have hcz20_3 : w19.cell? ⟨gb16005, 3, none⟩ = some (.int .i64 0) := (blk_cell BK16005.out 3).trans rfl; have hcz20_4 : w19.cell? ⟨gb16005, 4, none⟩ = some (.int .i64 0) := (blk_cell BK16005.out 4).trans rfl; have hfz20_0 := blk_frozen BK16005.out 0; have hfz20_1 := blk_frozen BK16005.out 1; have hfz20_2 := blk_frozen BK16005.out 2; have hfz20_3 := blk_frozen BK16005.out 3; have hfz20_4 := blk_frozen BK16005.out 4)))
            go_ret
            exact ⟨by first | rfl | (simp [errW_none, errW_some] <;> rfl) | (simp [*, errW_none, errW_some] <;> rfl), by repeat (first | (with_reducible first | exact HB.out | apply below_alloc | apply pw_below_drewN | apply below_drew1 | refine below_set ?_ GE16005.out) | exact HB.out)⟩
           ·rw [if_neg c18] at H
            have c18b0 : decide (((rd_T44 l0 x27_2).f4) < x7_2) = false := decide_eq_false c18
            clear c18
            have H' := Aside0.mk H
            clear H
            have p16004 : 0 ≤ (x27_2 : Int) := of_decide_eq_true (by first | (with_reducible assumption) | assumption)
            have q16004 : x27_2 < (l0.length : Int) := of_decide_eq_true (by first | (with_reducible assumption) | assumption)
            obtain ⟨ad16004, e16004, hx16004_0, hx16004_1, hx16004_2, hx16004_3, hx16004_4⟩ := at_T44 HR0.out x27_2 p16004 q16004
            cases e16004
            replace hx16004_0 := (HB.out.cell (World.block_lt_of_cell? w _ hx16004_0)).trans hx16004_0
            replace hx16004_1 := (HB.out.cell (World.block_lt_of_cell? w _ hx16004_1)).trans hx16004_1
            replace hx16004_2 := (HB.out.cell (World.block_lt_of_cell? w _ hx16004_2)).trans hx16004_2
            replace hx16004_3 := (HB.out.cell (World.block_lt_of_cell? w _ hx16004_3)).trans hx16004_3
            replace hx16004_4 := (HB.out.cell (World.block_lt_of_cell? w _ hx16004_4)).trans hx16004_4
            replace p16004 := eq_true p16004
            replace q16004 := eq_true q16004
            go_wp2_with (first | ((with_reducible refine gate_dst (N := 9) rfl ?_); refine box_event ?hg (N := 9) ?hd (cs := #[.int .i64 0, .int .i64 0, .int .i64 0, .int .i64 0, .int .i64 0]) (t := 44) ?hr ?_; (case hd => rfl); (case hg => rfl); (case hr => first | (go_simp; done) | (go_simp; rfl)); intro gb16005 hg w21 hbox hb; have n0_ := Aside0.mk (below_step (by repeat (first | (with_reducible first | exact HB.out | apply below_alloc | apply pw_below_drewN | apply below_drew1) | exact HB.out)) hb); have n1_ := Aside0.mk (hbox); have n2_ := Aside0.mk ((by rw [hg]; exact (below_size (by repeat (first | (with_reducible first | exact HB.out | apply below_alloc | apply pw_below_drewN | apply below_drew1) | exact HB.out))) : w.heap.size ≤ gb16005)); have n3_ := Aside0.mk ((by rw [hg]; exact (below_size (by repeat (first | (with_reducible first | exact HB.out | apply below_alloc | apply pw_below_drewN | apply below_drew1) | exact HB.out))) : w.heap.size ≤ gb16005)); clear HB; have HB := n0_; have BK16005 := n1_; have GW16005 := n2_; have GE16005 := n3_; clear n0_ n1_ n2_ n3_; clear hb hbox hg; have hcz22_0 : w21.cell? ⟨gb16005, 0, none⟩ = some (.int .i64 0) := (blk_cell BK16005.out 0).trans rfl; have hcz22_1 : w21.cell? ⟨gb16005, 1, none⟩ = some (.int .i64 0) := (blk_cell BK16005.out 1).trans rfl; have hcz22_2 : w21.cell? ⟨gb16005, 2, none⟩ = some (.int .i64 0) := (blk_cell BK16005.out 2).trans rfl; have hcz22_3 : w21.cell? ⟨gb16005, 3, none⟩ = some (.int .i64 0) := (blk_cell BK16005.out 3).trans rfl; have hcz22_4 : w21.cell? ⟨gb16005, 4, none⟩ = some (.int .i64 0) := (blk_cell BK16005.out 4).trans rfl; have hfz22_0 := blk_frozen BK16005.out 0; have hfz22_1 := blk_frozen BK16005.out 1; have hfz22_2 := blk_frozen BK16005.out 2; have hfz22_3 := blk_frozen BK16005.out 3; have hfz22_4 := blk_frozen BK16005.out 4))
            repeat (go_quiet (first | ((with_reducible refine gate_dst (N := 9) rfl ?_); refine box_event ?hg (N := 9) ?hd (cs := #[.int .i64 0, .int .i64 0, .int .i64 0, .int .i64 0, .int .i64 0]) (t := 44) ?hr ?_; (case hd => rfl); (case hg => rfl); (case hr => first | (go_simp; done) | (go_simp; rfl)); intro gb16005 hg w21 hbox hb; have n0_ := Aside0.mk (below_step (by repeat (first | (with_reducible first | exact HB.out | apply below_alloc | apply pw_below_drewN | apply below_drew1) | exact HB.out)) hb); have n1_ := Aside0.mk (hbox); have n2_ := Aside0.mk ((by rw [hg]; exact (below_size (by repeat (first | (with_reducible first | exact HB.out | apply below_alloc | apply pw_below_drewN | apply below_drew1) | exact HB.out))) : w.heap.size ≤ gb16005)); have n3_ := Aside0.mk ((by rw [hg]; exact (below_size (by repeat (first | (with_reducible first | exact HB.out | apply below_alloc | apply pw_below_drewN | apply below_drew1) | exact HB.out))) : w.heap.size ≤ gb16005)); clear HB; have HB := n0_; have BK16005 := n1_; have GW16005 := n2_; have GE16005 := n3_; clear n0_ n1_ n2_ n3_; clear hb hbox hg; have hcz22_0 : w21.cell? ⟨gb16005, 0, none⟩ = some (.int .i64 0) := (blk_cell BK16005.out 0).trans rfl; have hcz22_1 : w21.cell? ⟨gb16005, 1, none⟩ = some (.int .i64 0) := (blk_cell BK16005.out 1).trans rfl; have hcz22_2 : w21.cell? ⟨gb16005, 2, none⟩ = some (.int .i64 0) := (blk_cell BK16005.out 2).trans rfl; have hcz22_3 : w21.cell? ⟨gb16005, 3, none⟩ = some (.int .i64 0) := (blk_cell BK16005.out 3).trans rfl; have hcz22_4 : w21.cell? ⟨gb16005, 4, none⟩ = some (.int .i64 0) := (blk_cell BK16005.out 4).trans rfl; have hfz22_0 := blk_frozen BK16005.out 0; have hfz22_1 := blk_frozen BK16005.out 1; have hfz22_2 := blk_frozen BK16005.out 2; have hfz22_3 := blk_frozen BK16005.out 3; have hfz22_4 := blk_frozen BK16005.out 4)); try go_wp2_with (first | ((with_reducible refine gate_dst (N := 9) rfl ?_); refine box_event ?hg (N := 9) ?hd (cs := #[.int .i64 0, .int .i64 0, .int .i64 0, .int .i64 0, .int .i64 0]) (t := 44) ?hr ?_; (case hd => rfl); (case hg => rfl); (case hr => first | (go_simp; done) | (go_simp; rfl)); intro gb16005 hg w21 hbox hb; have n0_ := Aside0.mk (below_step (by repeat (first | (with_reducible first | exact HB.out | apply below_alloc | apply pw_below_drewN | apply below_drew1) | exact HB.out)) hb); have n1_ := Aside0.mk (hbox); have n2_ := Aside0.mk ((by rw [hg]; exact (below_size (by repeat (first | (with_reducible first | exact HB.out | apply below_alloc | apply pw_below_drewN | apply below_drew1) | exact HB.out))) : w.heap.size ≤ gb16005)); have n3_ := Aside0.mk ((by rw [hg]; exact (below_size (by repeat (first | (with_reducible first | exact HB.out | apply below_alloc | apply pw_below_drewN | apply below_drew1) | exact HB.out))) : w.heap.size ≤ gb16005)); clear HB; have HB := n0_; have BK16005 := n1_; have GW16005 := n2_; have GE16005 := n3_; clear n0_ n1_ n2_ n3_; clear hb hbox hg; have hcz22_0 : w21.cell? ⟨gb16005, 0, none⟩ = some (.int .i64 0) := (blk_cell BK16005.out 0).trans rfl; have hcz22_1 : w21.cell? ⟨gb16005, 1, none⟩ = some (.int .i64 0) := (blk_cell BK16005.out 1).trans rfl; have hcz22_2 : w21.cell? ⟨gb16005, 2, none⟩ = some (.int .i64 0) := (blk_cell BK16005.out 2).trans rfl; have hcz22_3 : w21.cell? ⟨gb16005, 3, none⟩ = some (.int .i64 0) := (blk_cell BK16005.out 3).trans rfl; have hcz22_4 : w21.cell? ⟨gb16005, 4, none⟩ = some (.int .i64 0) := (blk_cell BK16005.out 4).trans rfl; have hfz22_0 := blk_frozen BK16005.out 0; have hfz22_1 := blk_frozen BK16005.out 1; have hfz22_2 := blk_frozen BK16005.out 2; have hfz22_3 := blk_frozen BK16005.out 3; have hfz22_4 := blk_frozen BK16005.out 4)))
            go_roundg k2
            case measure => have := HK1.out; have := HK2.out; omega
            case rel => exact ⟨((rd_T44 l0 x27_2).f1), ((rd_T44 l0 x27_2).f4), (wrap64 (x27_2 + 1)), (by first | rfl | (simp; done) | (simp [*]; done)), (by first | rfl | (simp; done) | (simp [*]; done)), (by first | rfl | (simp; done) | (simp [*]; done)), H', ⟨by have := HK1.out; have := HK2.out; omega⟩, ⟨by repeat (first | (with_reducible first | exact HB.out | apply below_alloc | apply pw_below_drewN | apply below_drew1 | refine below_set ?_ GE16005.out) | exact HB.out)⟩⟩
          ·rw [if_neg c17] at H
           have c17b0 : (((rd_T44 l0 x27_2).f0) == x6_2) = false := beq_eq_false_iff_ne.mpr c17
           have c17b1 : (((rd_T44 l0 x27_2).f0) != x6_2) = true := bne_iff_ne.mpr c17
           obtain rfl := Option.some.inj H
           have p16004 : 0 ≤ (x27_2 : Int) := of_decide_eq_true (by first | (with_reducible assumption) | assumption)
           have q16004 : x27_2 < (l0.length : Int) := of_decide_eq_true (by first | (with_reducible assumption) | assumption)
           obtain ⟨ad16004, e16004, hx16004_0, hx16004_1, hx16004_2, hx16004_3, hx16004_4⟩ := at_T44 HR0.out x27_2 p16004 q16004
           cases e16004
           replace hx16004_0 := (HB.out.cell (World.block_lt_of_cell? w _ hx16004_0)).trans hx16004_0
           replace hx16004_1 := (HB.out.cell (World.block_lt_of_cell? w _ hx16004_1)).trans hx16004_1
           replace hx16004_2 := (HB.out.cell (World.block_lt_of_cell? w _ hx16004_2)).trans hx16004_2
           replace hx16004_3 := (HB.out.cell (World.block_lt_of_cell? w _ hx16004_3)).trans hx16004_3
           replace hx16004_4 := (HB.out.cell (World.block_lt_of_cell? w _ hx16004_4)).trans hx16004_4
           replace p16004 := eq_true p16004
           replace q16004 := eq_true q16004
           go_wp2_with (first | ((with_reducible refine gate_dst (N := 9) rfl ?_); refine box_event ?hg (N := 9) ?hd (cs := #[.int .i64 0, .int .i64 0, .int .i64 0, .int .i64 0, .int .i64 0]) (t := 44) ?hr ?_; (case hd => rfl); (case hg => rfl); (case hr => first | (go_simp; done) | (go_simp; rfl)); intro gb16005 hg w23 hbox hb; have n0_ := Aside0.mk (below_step (by repeat (first | (with_reducible first | exact HB.out | apply below_alloc | apply pw_below_drewN | apply below_drew1) | exact HB.out)) hb); have n1_ := Aside0.mk (hbox); have n2_ := Aside0.mk ((by rw [hg]; exact (below_size (by repeat (first | (with_reducible first | exact HB.out | apply below_alloc | apply pw_below_drewN | apply below_drew1) | exact HB.out))) : w.heap.size ≤ gb16005)); have n3_ := Aside0.mk ((by rw [hg]; exact (below_size (by repeat (first | (with_reducible first | exact HB.out | apply below_alloc | apply pw_below_drewN | apply below_drew1) | exact HB.out))) : w.heap.size ≤ gb16005)); clear HB; have HB := n0_; have BK16005 := n1_; have GW16005 := n2_; have GE16005 := n3_; clear n0_ n1_ n2_ n3_; clear hb hbox hg; have hcz24_0 : w23.cell? ⟨gb16005, 0, none⟩ = some (.int .i64 0) := (blk_cell BK16005.out 0).trans rfl; have hcz24_1 : w23.cell? ⟨gb16005, 1, none⟩ = some (.int .i64 0) := (blk_cell BK16005.out 1).trans rfl; have hcz24_2 : w23.cell? ⟨gb16005, 2, none⟩ = some (.int .i64 0) := (blk_cell BK16005.out 2).trans rfl; have hcz24_3 : w23.cell? ⟨gb16005, 3, none⟩ = some (.int .i64 0) := (blk_cell BK16005.out 3).trans rfl; have hcz24_4 : w23.cell? ⟨gb16005, 4, none⟩ = some (.int .i64 0) := (blk_cell BK16005.out 4).trans rfl; have hfz24_0 := blk_frozen BK16005.out 0; have hfz24_1 := blk_frozen BK16005.out 1; have hfz24_2 := blk_frozen BK16005.out 2; have hfz24_3 := blk_frozen BK16005.out 3; have hfz24_4 := blk_frozen BK16005.out 4))
           repeat (go_quiet (first | ((with_reducible refine gate_dst (N := 9) rfl ?_); refine box_event ?hg (N := 9) ?hd (cs := #[.int .i64 0, .int .i64 0, .int .i64 0, .int .i64 0, .int .i64 0]) (t := 44) ?hr ?_; (case hd => rfl); (case hg => rfl); (case hr => first | (go_simp; done) | (go_simp; rfl)); intro gb16005 hg w23 hbox hb; have n0_ := Aside0.mk (below_step (by repeat (first | (with_reducible first | exact HB.out | apply below_alloc | apply pw_below_drewN | apply below_drew1) | exact HB.out)) hb); have n1_ := Aside0.mk (hbox); have n2_ := Aside0.mk ((by rw [hg]; exact (below_size (by repeat (first | (with_reducible first | exact HB.out | apply below_alloc | apply pw_below_drewN | apply below_drew1) | exact HB.out))) : w.heap.size ≤ gb16005)); have n3_ := Aside0.mk ((by rw [hg]; exact (below_size (by repeat (first | (with_reducible first | exact HB.out | apply below_alloc | apply pw_below_drewN | apply below_drew1) | exact HB.out))) : w.heap.size ≤ gb16005)); clear HB; have HB := n0_; have BK16005 := n1_; have GW16005 := n2_; have GE16005 := n3_; clear n0_ n1_ n2_ n3_; clear hb hbox hg; have hcz24_0 : w23.cell? ⟨gb16005, 0, none⟩ = some (.int .i64 0) := (blk_cell BK16005.out 0).trans rfl; have hcz24_1 : w23.cell? ⟨gb16005, 1, none⟩ = some (.int .i64 0) := (blk_cell BK16005.out 1).trans rfl; have hcz24_2 : w23.cell? ⟨gb16005, 2, none⟩ = some (.int .i64 0) := (blk_cell BK16005.out 2).trans rfl; have hcz24_3 : w23.cell? ⟨gb16005, 3, none⟩ = some (.int .i64 0) := (blk_cell BK16005.out 3).trans rfl; have hcz24_4 : w23.cell? ⟨gb16005, 4, none⟩ = some (.int .i64 0) := (blk_cell BK16005.out 4).trans rfl; have hfz24_0 := blk_frozen BK16005.out 0; have hfz24_1 := blk_frozen BK16005.out 1; have hfz24_2 := blk_frozen BK16005.out 2; have hfz24_3 := blk_frozen BK16005.out 3; have hfz24_4 := blk_frozen BK16005.out 4)); try go_wp2_with (first | ((with_reducible refine gate_dst (N := 9) rfl ?_); refine box_event ?hg (N := 9) ?hd (cs := #[.int .i64 0, .int .i64 0, .int .i64 0, .int .i64 0, .int .i64 0]) (t := 44) ?hr ?_; (case hd => rfl); (case hg => rfl); (case hr => first | (go_simp; done) | (go_simp; rfl)); intro gb16005 hg w23 hbox hb; have n0_ := Aside0.mk (below_step (by repeat (first | (with_reducible first | exact HB.out | apply below_alloc | apply pw_below_drewN | apply below_drew1) | exact HB.out)) hb); have n1_ := Aside0.mk (hbox); have n2_ := Aside0.mk ((by rw [hg]; exact (below_size (by repeat (first | (with_reducible first | exact HB.out | apply below_alloc | apply pw_below_drewN | apply below_drew1) | exact HB.out))) : w.heap.size ≤ gb16005)); have n3_ := Aside0.mk ((by rw [hg]; exact (below_size (by repeat (first | (with_reducible first | exact HB.out | apply below_alloc | apply pw_below_drewN | apply below_drew1) | exact HB.out))) : w.heap.size ≤ gb16005)); clear HB; have HB := n0_; have BK16005 := n1_; have GW16005 := n2_; have GE16005 := n3_; clear n0_ n1_ n2_ n3_; clear hb hbox hg; have hcz24_0 : w23.cell? ⟨gb16005, 0, none⟩ = some (.int .i64 0) := (blk_cell BK16005.out 0).trans rfl; have hcz24_1 : w23.cell? ⟨gb16005, 1, none⟩ = some (.int .i64 0) := (blk_cell BK16005.out 1).trans rfl; have hcz24_2 : w23.cell? ⟨gb16005, 2, none⟩ = some (.int .i64 0) := (blk_cell BK16005.out 2).trans rfl; have hcz24_3 : w23.cell? ⟨gb16005, 3, none⟩ = some (.int .i64 0) := (blk_cell BK16005.out 3).trans rfl; have hcz24_4 : w23.cell? ⟨gb16005, 4, none⟩ = some (.int .i64 0) := (blk_cell BK16005.out 4).trans rfl; have hfz24_0 := blk_frozen BK16005.out 0; have hfz24_1 := blk_frozen BK16005.out 1; have hfz24_2 := blk_frozen BK16005.out 2; have hfz24_3 := blk_frozen BK16005.out 3; have hfz24_4 := blk_frozen BK16005.out 4)))
           go_ret
           exact ⟨by first | rfl | (simp [errW_none, errW_some] <;> rfl) | (simp [*, errW_none, errW_some] <;> rfl), by repeat (first | (with_reducible first | exact HB.out | apply below_alloc | apply pw_below_drewN | apply below_drew1 | refine below_set ?_ GE16005.out) | exact HB.out)⟩
         ·rw [if_neg c16] at H
          exact absurd H (by simp)
        ·rw [if_neg c15] at H
         exact absurd H (by simp)
       ·rw [if_neg c14] at H
        have c14b0 : decide (x27_2 < (l0.length : Int)) = false := decide_eq_false c14
        clear c14
        obtain rfl := Option.some.inj H
        go_wp2
        repeat (go_quiet (fail); try go_wp2)
        go_ret
        exact ⟨by first | rfl | (simp [errW_none, errW_some] <;> rfl) | (simp [*, errW_none, errW_some] <;> rfl), by repeat (first | (with_reducible first | exact HB.out | apply below_alloc | apply pw_below_drewN | apply below_drew1) | exact HB.out)⟩

end Go.Proofs.Ytfdfpdiemeomiaa.G

namespace Go.Proofs.Ytfdfpdiemeomiaa.G
open Go.RowKit Go.Proofs.YtfdfpdiemeomiaaW.PrintWords Go.Proofs.YtfdfpdiemeomiaaW.PrintLast Go.Proofs.YtfdfpdiemeomiaaW.PrintMore
attribute [local go_sem] max2_int min2_int max_two min_two max_three min_three max_four min_four   -- for this text's walks alone
set_option linter.unusedVariables false
set_option linter.unusedSimpArgs false

def reel_Lost.l0 : Nat → List (S36) → List (S44) → Int → Int → Option ((List (S36)) × Int)
 | 0, _, _, _, _ => none
 | k + 1, x5, x14, x15, x16 => if x16 < x15 then (if 0 ≤ x16 then (if x16 < (x14.length : Int) then (if ((rd_T44 x14 x16).f2) = 3 then (if (x5.length : Int) > 0 then (if 0 ≤ (wrap64 ((x5.length : Int) - 1)) then (if (wrap64 ((x5.length : Int) - 1)) < (x5.length : Int) then (if ((rd_T36 x5 (wrap64 ((x5.length : Int) - 1))).f1) = ((rd_T44 x14 x16).f0) then (reel_Lost.l0 k (x5.set ((wrap64 ((x5.length : Int) - 1)) : Int).toNat (⟨(rd_T36 x5 (wrap64 ((x5.length : Int) - 1))).f0, (rd_T44 x14 x16).f1⟩ : S36)) x14 x15 (wrap64 (x16 + 1))) else (if x5.length < 8796093022208 then (reel_Lost.l0 k (x5 ++ [(⟨(rd_T44 x14 x16).f0, (rd_T44 x14 x16).f1⟩ : S36)]) x14 x15 (wrap64 (x16 + 1))) else (none))) else (none)) else (none)) else (if x5.length < 8796093022208 then (reel_Lost.l0 k (x5 ++ [(⟨(rd_T44 x14 x16).f0, (rd_T44 x14 x16).f1⟩ : S36)]) x14 x15 (wrap64 (x16 + 1))) else (none))) else (reel_Lost.l0 k x5 x14 x15 (wrap64 (x16 + 1)))) else (none)) else (none)) else (some (x5, 0))
def reel_Lost.f (k : Nat) (l0 : List (S44)) : Option ((List (S36)) × Int) := (reel_Check.f k l0).bind fun t14001 => (if t14001 = 0 then (reel_Lost.l0 k ([] : List (S36)) l0 (l0.length : Int) 0) else (some (([] : List (S36)), t14001)))
theorem reel_Lost.mono_l : ∀ k, (∀ y0 y1 y2 y3, LeO (reel_Lost.l0 k y0 y1 y2 y3) (reel_Lost.l0 (k + 1) y0 y1 y2 y3))
 | 0 => fun _ _ _ _ r h => by simp [reel_Lost.l0] at h
 | k + 1 => by
  have ih0 := reel_Lost.mono_l k
  ·intro y0 y1 y2 y3
   unfold reel_Lost.l0
   repeat' first
   | (with_reducible exact ih0 _ _ _ _)
   | (with_reducible exact reel_Check.mono _ _)
   | (with_reducible exact LeO.refl _)
   | (with_reducible exact LeO.none _)
   | (with_reducible refine LeO.ite ?_ ?_)
   | (with_reducible refine LeO.bind ?_ (fun _ => ?_))
   | exact ih0 _ _ _ _
   | exact reel_Check.mono _ _
   | exact LeO.none _
   | refine LeO.ite ?_ ?_
   | refine LeO.bind ?_ (fun _ => ?_)
theorem reel_Lost.mono : ∀ a0 k, LeO (reel_Lost.f k a0) (reel_Lost.f (k + 1) a0) := by
 intro a0 k
 have ih0 := reel_Lost.mono_l k
 unfold reel_Lost.f
 repeat' first
   | (with_reducible exact ih0 _ _ _ _)
   | (with_reducible exact reel_Check.mono _ _)
   | (with_reducible exact LeO.refl _)
   | (with_reducible exact LeO.none _)
   | (with_reducible refine LeO.ite ?_ ?_)
   | (with_reducible refine LeO.bind ?_ (fun _ => ?_))
   | exact ih0 _ _ _ _
   | exact reel_Check.mono _ _
   | exact LeO.none _
   | refine LeO.ite ?_ ?_
   | refine LeO.bind ?_ (fun _ => ?_)
set_option maxHeartbeats 8000000 in
set_option maxRecDepth 100000 in
theorem reel_Lost.calls (k : Nat) (A0 : Option Addr) (c0 : Nat) (l0 : List (S44)) (r1 : List (S36)) (r2 : Int) (w : World) (hr0 : Kd.C k44 w A0 l0.length l0) (hc0 : l0.length ≤ c0) (h : reel_Lost.f k l0 = some (r1, r2)) :
  Calls Try.prog 13 #[.slice A0 l0.length c0] w fun e w' => ∃ v0_ : Value, e = .returned (.tuple #[v0_, .int .i64 r2]) ∧ Kd.R k36 36 w' w.heap.size (fun _ => True) v0_ r1 ∧ Below w.heap.size w w' := by
 have hu44 := Try.underlying44
 have hu36 := Try.underlying36
 have HR0 := Aside0.mk hr0
 have HC0 := Aside0.mk hc0
 clear hr0 hc0
 have HB := Aside0.mk (Below.refl w.heap.size w)
 have H : ((reel_Check.f k l0).bind fun t14001 => (if t14001 = 0 then (reel_Lost.l0 k ([] : List (S36)) l0 (l0.length : Int) 0) else (some (([] : List (S36)), t14001)))) = some (r1, r2) := h
 clear h
 replace H := Option.bind_eq_some_iff.mp H
 obtain ⟨t14001, A20, H⟩ := H
 replace H : (if t14001 = 0 then (reel_Lost.l0 k ([] : List (S36)) l0 (l0.length : Int) 0) else (some (([] : List (S36)), t14001))) = some (r1, r2) := H
 have A2 := Aside0.mk A20
 clear A20
 by_cases c3 : t14001 = 0
 ·rw [if_pos c3] at H
  have c3b0 : (t14001 == 0) = true := beq_iff_eq.mpr c3
  have c3b1 : (t14001 != 0) = false := bne_eq_false_iff_eq.mpr c3
  clear c3
  have H' := Aside0.mk H
  clear H
  go_enter Try.func13, Try.ntmps13
  go_wp2_with (first | (go_at_call 15; (with_reducible refine (reel_Check.calls k _ _ l0 t14001 _ ?side1 ?side2 A2.out).mono ?_); (case side1 => repeat (first | exact HR0.out | (with_reducible refine Kd.C_alloc ?_ _) | (with_reducible refine Kd.C_drewN ?_ _) | (with_reducible refine Kd.C_drew ?_))); (case side2 => exact HC0.out); rintro e w4 ⟨rfl, hb⟩; have n0_ := Aside0.mk (below_step (by repeat (first | (with_reducible first | exact HB.out | apply below_alloc | apply pw_below_drewN | apply below_drew1) | exact HB.out)) hb); clear HB; have HB := n0_; clear n0_; (try clear hb); (try clear hb2); (try clear hk); (try clear hi)))
  repeat (go_quiet (first | (go_at_call 15; (with_reducible refine (reel_Check.calls k _ _ l0 t14001 _ ?side1 ?side2 A2.out).mono ?_); (case side1 => repeat (first | exact HR0.out | (with_reducible refine Kd.C_alloc ?_ _) | (with_reducible refine Kd.C_drewN ?_ _) | (with_reducible refine Kd.C_drew ?_))); (case side2 => exact HC0.out); rintro e w4 ⟨rfl, hb⟩; have n0_ := Aside0.mk (below_step (by repeat (first | (with_reducible first | exact HB.out | apply below_alloc | apply pw_below_drewN | apply below_drew1) | exact HB.out)) hb); clear HB; have HB := n0_; clear n0_; (try clear hb); (try clear hb2); (try clear hk); (try clear hi))); try go_wp2_with (first | (go_at_call 15; (with_reducible refine (reel_Check.calls k _ _ l0 t14001 _ ?side1 ?side2 A2.out).mono ?_); (case side1 => repeat (first | exact HR0.out | (with_reducible refine Kd.C_alloc ?_ _) | (with_reducible refine Kd.C_drewN ?_ _) | (with_reducible refine Kd.C_drew ?_))); (case side2 => exact HC0.out); rintro e w4 ⟨rfl, hb⟩; have n0_ := Aside0.mk (below_step (by repeat (first | (with_reducible first | exact HB.out | apply below_alloc | apply pw_below_drewN | apply below_drew1) | exact HB.out)) hb); clear HB; have HB := n0_; clear n0_; (try clear hb); (try clear hb2); (try clear hk); (try clear hi))))
  go_loopg [5, 16] k (fun kq v5 v16 w' => ∃ (x5_1 : List (S36)) (x16_1 : Int), v16 = .int .i64 x16_1 ∧ Aside0 (reel_Lost.l0 kq x5_1 l0 (l0.length : Int) x16_1 = some (r1, r2)) ∧ Aside0 (kq ≤ k) ∧ Aside0 (Kd.R k36 36 w' w.heap.size (fun _ => True) v5 x5_1) ∧ Aside0 (Below w.heap.size w w'))
  case atStart => exact ⟨(([] : List (S36))), (0), (by first | rfl | (simp; done) | (simp [*]; done)), H', ⟨Nat.le_refl _⟩, ⟨by first | exact Kd.R_nil _ _ _ _ _ | exact Kd.N_nil _ _ _ _ _ | exact Kd.V_nil _ _ _ _ _ | exact Kd.Q_nil _ _ _ _ _ | exact Kd.S_nil _ _ _ _ _⟩, ⟨by repeat (first | (with_reducible first | exact HB.out | apply below_alloc | apply pw_below_drewN | apply below_drew1) | exact HB.out)⟩⟩
  case round =>
   clear H'
   try clear c1
   try clear p2
   try clear c3
   try clear c3b0
   try clear c3b1
   obtain ⟨x5_1, x16_1, rfl, HA, HK1, HO_5, HB⟩ := hrel
   cases gk with
   | zero => exact absurd HA.out (by simp [reel_Lost.l0])
   | succ k1 =>
    have H := HA.out
    clear HA
    simp only [reel_Lost.l0] at H
    by_cases c5 : x16_1 < (l0.length : Int)
    ·rw [if_pos c5] at H
     have c5b0 : decide (x16_1 < (l0.length : Int)) = true := decide_eq_true c5
     clear c5
     by_cases c6 : 0 ≤ x16_1
     ·rw [if_pos c6] at H
      have c6b0 : decide (0 ≤ x16_1) = true := decide_eq_true c6
      clear c6
      by_cases c7 : x16_1 < (l0.length : Int)
      ·rw [if_pos c7] at H
       have c7b0 : decide (x16_1 < (l0.length : Int)) = true := decide_eq_true c7
       clear c7
       by_cases c8 : ((rd_T44 l0 x16_1).f2) = 3
       ·rw [if_pos c8] at H
        have c8b0 : (((rd_T44 l0 x16_1).f2) == 3) = true := beq_iff_eq.mpr c8
        have c8b1 : (((rd_T44 l0 x16_1).f2) != 3) = false := bne_eq_false_iff_eq.mpr c8
        clear c8
        by_cases c9 : (x5_1.length : Int) > 0
        ·rw [if_pos c9] at H
         have c9b0 : decide (0 < (x5_1.length : Int)) = true := decide_eq_true c9
         have c9b1 : decide (0 < x5_1.length) = true := decide_eq_true (by omega)
         clear c9
         obtain ⟨ji10, hji10⟩ : ∃ j_ : Int, (wrap64 ((x5_1.length : Int) - 1)) = j_ := ⟨_, rfl⟩
         replace H : (if 0 ≤ (ji10) then (if (ji10) < (x5_1.length : Int) then (if ((rd_T36 x5_1 (ji10)).f1) = ((rd_T44 l0 x16_1).f0) then (reel_Lost.l0 k1 (x5_1.set ((ji10) : Int).toNat (⟨(rd_T36 x5_1 (ji10)).f0, (rd_T44 l0 x16_1).f1⟩ : S36)) l0 (l0.length : Int) (wrap64 (x16_1 + 1))) else (if x5_1.length < 8796093022208 then (reel_Lost.l0 k1 (x5_1 ++ [(⟨(rd_T44 l0 x16_1).f0, (rd_T44 l0 x16_1).f1⟩ : S36)]) l0 (l0.length : Int) (wrap64 (x16_1 + 1))) else (none))) else (none)) else (none)) = some (r1, r2) := by first | (rw [hji10] at H; exact H) | (simp only [hji10] at H ⊢; exact H)
         have hji10w : (IntKind.i64.wrap ((x5_1.length : Int) - 1)) = ji10 := (i64_w _).trans hji10
         by_cases c11 : 0 ≤ (ji10)
         ·rw [if_pos c11] at H
          have c11b0 : decide (0 ≤ (ji10)) = true := decide_eq_true c11
          clear c11
          by_cases c12 : (ji10) < (x5_1.length : Int)
          ·rw [if_pos c12] at H
           have c12b0 : decide ((ji10) < (x5_1.length : Int)) = true := decide_eq_true c12
           clear c12
           by_cases c13 : ((rd_T36 x5_1 (ji10)).f1) = ((rd_T44 l0 x16_1).f0)
           ·rw [if_pos c13] at H
            have c13b0 : (((rd_T36 x5_1 (ji10)).f1) == ((rd_T44 l0 x16_1).f0)) = true := beq_iff_eq.mpr c13
            have c13b1 : (((rd_T36 x5_1 (ji10)).f1) != ((rd_T44 l0 x16_1).f0)) = false := bne_eq_false_iff_eq.mpr c13
            clear c13
            obtain ⟨y14005, hy14005⟩ : ∃ y_ : List (S36), y_ = (x5_1.set ((ji10) : Int).toNat (⟨(rd_T36 x5_1 (ji10)).f0, (rd_T44 l0 x16_1).f1⟩ : S36)) := ⟨_, rfl⟩
            replace H : (reel_Lost.l0 k1 y14005 l0 (l0.length : Int) (wrap64 (x16_1 + 1))) = some (r1, r2) := by first | (rw [hy14005]; with_reducible exact H) | (have H2_ := (Option.bind_some _ _).symm.trans H; rw [hy14005]; with_reducible exact H2_) | (have H2_ := (Option.bind_some _ _).symm.trans H; with_reducible exact H2_) | with_reducible exact H | (rw [hy14005]; exact H) | exact H
            have Ny14005 := Aside0.mk hy14005
            clear hy14005
            have H' := Aside0.mk H
            clear H
            have p14002 : 0 ≤ (x16_1 : Int) := of_decide_eq_true (by first | (with_reducible assumption) | assumption)
            have q14002 : x16_1 < (l0.length : Int) := of_decide_eq_true (by first | (with_reducible assumption) | assumption)
            obtain ⟨ad14002, e14002, hx14002_0, hx14002_1, hx14002_2, hx14002_3, hx14002_4⟩ := at_T44 HR0.out x16_1 p14002 q14002
            cases e14002
            replace hx14002_0 := (HB.out.cell (World.block_lt_of_cell? w _ hx14002_0)).trans hx14002_0
            replace hx14002_1 := (HB.out.cell (World.block_lt_of_cell? w _ hx14002_1)).trans hx14002_1
            replace hx14002_2 := (HB.out.cell (World.block_lt_of_cell? w _ hx14002_2)).trans hx14002_2
            replace hx14002_3 := (HB.out.cell (World.block_lt_of_cell? w _ hx14002_3)).trans hx14002_3
            replace hx14002_4 := (HB.out.cell (World.block_lt_of_cell? w _ hx14002_4)).trans hx14002_4
            replace p14002 := eq_true p14002
            replace q14002 := eq_true q14002
            go_wp2_with (first | ((with_reducible refine gate_dst (N := 7) rfl ?_); refine box_event ?hg (N := 7) ?hd (cs := #[.int .i64 0, .int .i64 0, .int .i64 0, .int .i64 0, .int .i64 0]) (t := 44) ?hr ?_; (case hd => rfl); (case hg => rfl); (case hr => first | (go_simp; done) | (go_simp; rfl)); intro gb14003 hg w15 hbox hb; have n0_ := Aside0.mk (Kd.R_below (by (with_reducible repeat (first | apply Kd.R_alloc | apply Kd.R_drewN | apply Kd.R_drew)); exact HO_5.out) hb); have n1_ := Aside0.mk (below_step (by repeat (first | (with_reducible first | exact HB.out | apply below_alloc | apply pw_below_drewN | apply below_drew1) | exact HB.out)) hb); have n2_ := Aside0.mk (hbox); have n3_ := Aside0.mk ((by rw [hg]; exact (below_size (by repeat (first | (with_reducible first | exact HB.out | apply below_alloc | apply pw_below_drewN | apply below_drew1) | exact HB.out))) : w.heap.size ≤ gb14003)); have n4_ := Aside0.mk ((by rw [hg]; exact (below_size (by repeat (first | (with_reducible first | exact HB.out | apply below_alloc | apply pw_below_drewN | apply below_drew1) | exact HB.out))) : w.heap.size ≤ gb14003)); clear HO_5; clear HB; have HO_5 := n0_; have HB := n1_; have BK14003 := n2_; have GW14003 := n3_; have GE14003 := n4_; clear n0_ n1_ n2_ n3_ n4_; clear hb hbox hg; have hcz16_0 : w15.cell? ⟨gb14003, 0, none⟩ = some (.int .i64 0) := (blk_cell BK14003.out 0).trans rfl; have hcz16_1 : w15.cell? ⟨gb14003, 1, none⟩ = some (.int .i64 0) := (blk_cell BK14003.out 1).trans rfl; have hcz16_2 : w15.cell? ⟨gb14003, 2, none⟩ = some (.int .i64 0) := (blk_cell BK14003.out 2).trans rfl; have hcz16_3 : w15.cell? ⟨gb14003, 3, none⟩ = some (.int .i64 0) := (blk_cell BK14003.out 3).trans rfl; have hcz16_4 : w15.cell? ⟨gb14003, 4, none⟩ = some (.int .i64 0) := (blk_cell BK14003.out 4).trans rfl; have hfz16_0 := blk_frozen BK14003.out 0; have hfz16_1 := blk_frozen BK14003.out 1; have hfz16_2 := blk_frozen BK14003.out 2; have hfz16_3 := blk_frozen BK14003.out 3; have hfz16_4 := blk_frozen BK14003.out 4) | ((with_reducible refine gate_store (t := 44) (p := 7) rfl ?_); (try (rw [drewN_self w15]; generalize hq_ : World.drewN w15 _ = w15; have n0_ := Aside0.mk (Kd.R_at hq_ HO_5.out); have n1_ := Aside0.mk (blk_at hq_ BK14003.out); have n2_ := Aside0.mk (below_at hq_ HB.out); clear hq_ HO_5 BK14003 HB; have HO_5 := n0_; have BK14003 := n1_; have HB := n2_; clear n0_ n1_ n2_)); refine store_event (t := 44) (p := 7) (v := ?vo_w17) (w1 := (((((w15.setCell ⟨gb14003, 0, none⟩ (.int .i64 ((rd_T44 l0 x16_1).f0))).setCell ⟨gb14003, 1, none⟩ (.int .i64 ((rd_T44 l0 x16_1).f1))).setCell ⟨gb14003, 2, none⟩ (.int .i64 ((rd_T44 l0 x16_1).f2))).setCell ⟨gb14003, 3, none⟩ (.int .i64 ((rd_T44 l0 x16_1).f3))).setCell ⟨gb14003, 4, none⟩ (.int .i64 ((rd_T44 l0 x16_1).f4)))) ?hg ?ho ?hn ?hr ?_; (case ho => rfl); (case hg => rfl); (case hn => rfl); (case hr => first | (go_simp; done) | (go_simp; rfl)); intro w17 hw; have n0_ : Aside0 (Kd.R k36 36 w17 w.heap.size (fun _ => True) u5 x5_1) := ⟨(by rw [hw]; exact (by (with_reducible repeat (first | apply Kd.R_alloc | apply Kd.R_drewN | apply Kd.R_drew)); exact Kd.R_mono (Kd.R_far (p := ⟨gb14003, 4, none⟩) (Kd.R_far (p := ⟨gb14003, 3, none⟩) (Kd.R_far (p := ⟨gb14003, 2, none⟩) (Kd.R_far (p := ⟨gb14003, 1, none⟩) (Kd.R_far (p := ⟨gb14003, 0, none⟩) (Kd.R_types HO_5.out BK14003.out (by decide)) (fun _ hk => hk.2) (.int .i64 ((rd_T44 l0 x16_1).f0))) (fun _ hk => hk.2) (.int .i64 ((rd_T44 l0 x16_1).f1))) (fun _ hk => hk.2) (.int .i64 ((rd_T44 l0 x16_1).f2))) (fun _ hk => hk.2) (.int .i64 ((rd_T44 l0 x16_1).f3))) (fun _ hk => hk.2) (.int .i64 ((rd_T44 l0 x16_1).f4))) (fun _ hk => trivial)))⟩; have n1_ : Aside0 (w17.heap[gb14003]? = some (.cells #[.int .i64 ((rd_T44 l0 x16_1).f0), .int .i64 ((rd_T44 l0 x16_1).f1), .int .i64 ((rd_T44 l0 x16_1).f2), .int .i64 ((rd_T44 l0 x16_1).f3), .int .i64 ((rd_T44 l0 x16_1).f4)] 44 (0, 0))) := ⟨(by rw [hw]; exact (by (with_reducible repeat (first | refine blk_drewN ?_ _ | refine blk_drew ?_ | refine blk_alloc ?_ _)); refine blk_put (cs := #[.int .i64 ((rd_T44 l0 x16_1).f0), .int .i64 ((rd_T44 l0 x16_1).f1), .int .i64 ((rd_T44 l0 x16_1).f2), .int .i64 ((rd_T44 l0 x16_1).f3), .int .i64 0]) ?_ 4 _ rfl; (with_reducible repeat (first | refine blk_drewN ?_ _ | refine blk_drew ?_ | refine blk_alloc ?_ _)); refine blk_put (cs := #[.int .i64 ((rd_T44 l0 x16_1).f0), .int .i64 ((rd_T44 l0 x16_1).f1), .int .i64 ((rd_T44 l0 x16_1).f2), .int .i64 0, .int .i64 0]) ?_ 3 _ rfl; (with_reducible repeat (first | refine blk_drewN ?_ _ | refine blk_drew ?_ | refine blk_alloc ?_ _)); refine blk_put (cs := #[.int .i64 ((rd_T44 l0 x16_1).f0), .int .i64 ((rd_T44 l0 x16_1).f1), .int .i64 0, .int .i64 0, .int .i64 0]) ?_ 2 _ rfl; (with_reducible repeat (first | refine blk_drewN ?_ _ | refine blk_drew ?_ | refine blk_alloc ?_ _)); refine blk_put (cs := #[.int .i64 ((rd_T44 l0 x16_1).f0), .int .i64 0, .int .i64 0, .int .i64 0, .int .i64 0]) ?_ 1 _ rfl; (with_reducible repeat (first | refine blk_drewN ?_ _ | refine blk_drew ?_ | refine blk_alloc ?_ _)); refine blk_put (cs := #[.int .i64 0, .int .i64 0, .int .i64 0, .int .i64 0, .int .i64 0]) ?_ 0 _ rfl; (with_reducible repeat (first | refine blk_drewN ?_ _ | refine blk_drew ?_ | refine blk_alloc ?_ _)); exact BK14003.out))⟩; have n2_ : Aside0 (Below w.heap.size w w17) := ⟨(by rw [hw]; exact (by repeat (first | (with_reducible first | exact HB.out | apply below_alloc | apply pw_below_drewN | apply below_drew1 | refine below_set ?_ GE14003.out) | exact HB.out)))⟩; clear hw; clear HO_5; clear BK14003; clear HB; have HO_5 := n0_; have BK14003 := n1_; have HB := n2_; clear n0_ n1_ n2_; obtain ⟨Ao18, co18, eo18⟩ := Kd.R_slice HO_5.out; subst eo18; have hcz19_0 : w17.cell? ⟨gb14003, 0, none⟩ = some (.int .i64 ((rd_T44 l0 x16_1).f0)) := (blk_cell BK14003.out 0).trans rfl; have hcz19_1 : w17.cell? ⟨gb14003, 1, none⟩ = some (.int .i64 ((rd_T44 l0 x16_1).f1)) := (blk_cell BK14003.out 1).trans rfl; have hcz19_2 : w17.cell? ⟨gb14003, 2, none⟩ = some (.int .i64 ((rd_T44 l0 x16_1).f2)) := (blk_cell BK14003.out 2).trans rfl; have hcz19_3 : w17.cell? ⟨gb14003, 3, none⟩ = some (.int .i64 ((rd_T44 l0 x16_1).f3)) := (blk_cell BK14003.out 3).trans rfl; have hcz19_4 : w17.cell? ⟨gb14003, 4, none⟩ = some (.int .i64 ((rd_T44 l0 x16_1).f4)) := (blk_cell BK14003.out 4).trans rfl; have hfz19_0 := blk_frozen BK14003.out 0; have hfz19_1 := blk_frozen BK14003.out 1; have hfz19_2 := blk_frozen BK14003.out 2; have hfz19_3 := blk_frozen BK14003.out 3; have hfz19_4 := blk_frozen BK14003.out 4; have p14004 : 0 ≤ ((ji10) : Int) := of_decide_eq_true (by first | (with_reducible assumption) | assumption); have q14004 : (ji10) < (x5_1.length : Int) := of_decide_eq_true (by first | (with_reducible assumption) | assumption); obtain ⟨ad14004, e14004, hx14004_0, hx14004_1⟩ := at_T36 (Kd.R_reads' HO_5.out).2.2 (ji10) p14004 q14004; cases e14004; replace p14004 := eq_true p14004; replace q14004 := eq_true q14004; have p14 : 0 ≤ ((ji10) : Int) := of_decide_eq_true (by first | (with_reducible assumption) | assumption); have q14 : ((ji10) : Int) < ((x5_1.length : Int) : Int) := of_decide_eq_true (by first | (with_reducible assumption) | assumption); obtain ⟨go14, co14, eo14, gb14, gl14, cl14, HG14⟩ := Kd.R_form HO_5.out (by omega); (first | cases eo14 | (injection eo14 with ea_ en_ ec_; (first | subst ea_ | (injection ea_ with ea_; subst ea_)); subst ec_; clear en_)); have GB14 := Aside0.mk gb14; have GG14 := Aside0.mk HG14; clear gb14 gl14 HG14; (first | simp only [add_plain] at hx14004_0 | skip); (first | simp only [add_plain] at hx14004_1 | skip); obtain ⟨ce14, hcl14, hM14, hcc14, hfr14⟩ := Kd.R_elem HO_5.out z36 ((ji10) : Int) p14 q14; obtain rfl := k36_openM hM14; have hx14_0 : w17.cell? ⟨go14, ((ji10) : Int).toNat * 2, none⟩ = some (.int .i64 ((rd_T36 x5_1 (ji10)).f0)) := hcc14 0 _ rfl; have hx14_1 : w17.cell? ⟨go14, ((ji10) : Int).toNat * 2 + 1, none⟩ = some (.int .i64 ((rd_T36 x5_1 (ji10)).f1)) := hcc14 1 _ rfl; have hf14_0 : w17.frozen? ⟨go14, ((ji10) : Int).toNat * 2, none⟩ = false := hfr14 0; have hf14_1 : w17.frozen? ⟨go14, ((ji10) : Int).toNat * 2 + 1, none⟩ = false := hfr14 1; clear hcl14 hcc14 hfr14 hM14; replace p14 := eq_true p14; replace q14 := eq_true q14; have HX20 := Aside0.mk (show Kd.R k36 36 w17 w.heap.size (fun _ => True) (.slice (some ⟨go14, 0, none⟩) x5_1.length co18) x5_1 from (by (with_reducible repeat (first | apply Kd.R_alloc | apply Kd.R_drewN | apply Kd.R_drew)); exact HO_5.out)); obtain ⟨ce20, hcl20, hM20, hcc20, hfr20⟩ := Kd.R_elem HX20.out z36 ((ji10) : Int) (of_decide_eq_true (by first | (with_reducible assumption) | assumption)) (by have h_ : ((ji10) : Int) < ((x5_1.length : Int) : Int) := of_decide_eq_true (by first | (with_reducible assumption) | assumption); first | exact h_ | (have e_ := (Kd.R_reads' HO_5.out).1; omega) | simpa using h_); obtain rfl := k36_openM hM20; have HP20 := Kd.R_seg HX20.out ((ji10) : Int) (of_decide_eq_true (by first | (with_reducible assumption) | assumption)) (by have h_ : ((ji10) : Int) < ((x5_1.length : Int) : Int) := of_decide_eq_true (by first | (with_reducible assumption) | assumption); first | exact h_ | (have e_ := (Kd.R_reads' HO_5.out).1; omega) | simpa using h_) (seg := [.int .i64 ((rd_T44 l0 x16_1).f1)]) (j := 1) hcl20 hcc20 (show 2 ≤ 2 from by decide) (x' := (⟨(rd_T36 x5_1 (ji10)).f0, (rd_T44 l0 x16_1).f1⟩ : S36)) (k36_mkM _ _ _ (⟨(rd_T36 x5_1 (ji10)).f0, (rd_T44 l0 x16_1).f1⟩ : S36) ) (fun _ hk => hk); have hx20_1 := hcc20 1 _ rfl; (try simp only [show (k36).sz = 2 from rfl, Nat.mul_one, Nat.add_zero] at hx20_1); have hf20_1 := hfr20 1; (try simp only [show (k36).sz = 2 from rfl, Nat.mul_one, Nat.add_zero] at hf20_1); clear hcl20 hcc20 hfr20 hM20) | ((with_reducible refine gate_store (t := 3) (p := 54) rfl ?_); (try (rw [drewN_self w17]; generalize hq_ : World.drewN w17 _ = w17; have n0_ := Aside0.mk (Kd.R_at hq_ HO_5.out); have n1_ := Aside0.mk (blk_at hq_ BK14003.out); have n2_ := Aside0.mk (below_at hq_ HB.out); clear hq_ HO_5 BK14003 HB; have HO_5 := n0_; have BK14003 := n1_; have HB := n2_; clear n0_ n1_ n2_; (try (have HX20 := Aside0.mk (show Kd.R k36 36 w17 w.heap.size (fun _ => True) (.slice (some ⟨go14, 0, none⟩) x5_1.length co18) x5_1 from (by (with_reducible repeat (first | apply Kd.R_alloc | apply Kd.R_drewN | apply Kd.R_drew)); exact HO_5.out)))); (try (obtain ⟨ce20, hcl20, hM20, hcc20, hfr20⟩ := Kd.R_elem HX20.out z36 ((ji10) : Int) (of_decide_eq_true (by first | (with_reducible assumption) | assumption)) (by have h_ : ((ji10) : Int) < ((x5_1.length : Int) : Int) := of_decide_eq_true (by first | (with_reducible assumption) | assumption); first | exact h_ | (have e_ := (Kd.R_reads' HO_5.out).1; omega) | simpa using h_))); (try (obtain rfl := k36_openM hM20)); (try (have HP20 := Kd.R_seg HX20.out ((ji10) : Int) (of_decide_eq_true (by first | (with_reducible assumption) | assumption)) (by have h_ : ((ji10) : Int) < ((x5_1.length : Int) : Int) := of_decide_eq_true (by first | (with_reducible assumption) | assumption); first | exact h_ | (have e_ := (Kd.R_reads' HO_5.out).1; omega) | simpa using h_) (seg := [.int .i64 ((rd_T44 l0 x16_1).f1)]) (j := 1) hcl20 hcc20 (show 2 ≤ 2 from by decide) (x' := (⟨(rd_T36 x5_1 (ji10)).f0, (rd_T44 l0 x16_1).f1⟩ : S36)) (k36_mkM _ _ _ (⟨(rd_T36 x5_1 (ji10)).f0, (rd_T44 l0 x16_1).f1⟩ : S36) ) (fun _ hk => hk))); (try (have hx20_1 := hcc20 1 _ rfl)); (try (try simp only [show (k36).sz = 2 from rfl, Nat.mul_one, Nat.add_zero] at hx20_1)); (try (have hf20_1 := hfr20 1)); (try (try simp only [show (k36).sz = 2 from rfl, Nat.mul_one, Nat.add_zero] at hf20_1)); (try (clear hcl20 hcc20 hfr20 hM20)))); refine store_event (t := 3) (p := 54) (v := ?vo_w21) (w1 := (w17.setCell ⟨go14, ((ji10) : Int).toNat * 2 + 1, none⟩ (.int .i64 ((rd_T44 l0 x16_1).f1)))) ?hg ?ho ?hn ?hr ?_; (case ho => rfl); (case hg => rfl); (case hn => rfl); (case hr => first | (go_simp; done) | (go_simp; rfl)); intro w21 hw; have hg : w17.grownBy w21 (some go14) := (by rw [hw]; exact HP20.2); have hp_ : Kd.R k36 36 w21 w.heap.size (fun _ => True) (.slice (some ⟨go14, 0, none⟩) x5_1.length co18) y14005 := (by rw [hw, Ny14005.out]; exact HP20.1); clear HP20; have n0_ := Aside0.mk (hp_); have n1_ := Aside0.mk (blk_grown (g := gb14003) (o := .cells #[.int .i64 ((rd_T44 l0 x16_1).f0), .int .i64 ((rd_T44 l0 x16_1).f1), .int .i64 ((rd_T44 l0 x16_1).f2), .int .i64 ((rd_T44 l0 x16_1).f3), .int .i64 ((rd_T44 l0 x16_1).f4)] 44 (0, 0)) (by (with_reducible repeat (first | refine blk_drewN ?_ _ | refine blk_drew ?_ | refine blk_alloc ?_ _)); exact BK14003.out) hg (Kd.R_ne HO_5.out BK14003.out (by decide))); have n2_ := Aside0.mk ((by rw [hw]; exact below_set (HB.out) GB14.out : Below w.heap.size w w21)); clear HO_5; clear BK14003; clear HB; have HO_5 := n0_; have BK14003 := n1_; have HB := n2_; clear n0_ n1_ n2_; clear hg hw hp_))
            repeat (go_quiet (first | ((with_reducible refine gate_dst (N := 7) rfl ?_); refine box_event ?hg (N := 7) ?hd (cs := #[.int .i64 0, .int .i64 0, .int .i64 0, .int .i64 0, .int .i64 0]) (t := 44) ?hr ?_; (case hd => rfl); (case hg => rfl); (case hr => first | (go_simp; done) | (go_simp; rfl)); intro gb14003 hg w15 hbox hb; have n0_ := Aside0.mk (Kd.R_below (by (with_reducible repeat (first | apply Kd.R_alloc | apply Kd.R_drewN | apply Kd.R_drew)); exact HO_5.out) hb); have n1_ := Aside0.mk (below_step (by repeat (first | (with_reducible first | exact HB.out | apply below_alloc | apply pw_below_drewN | apply below_drew1) | exact HB.out)) hb); have n2_ := Aside0.mk (hbox); have n3_ := Aside0.mk ((by rw [hg]; exact (below_size (by repeat (first | (with_reducible first | exact HB.out | apply below_alloc | apply pw_below_drewN | apply below_drew1) | exact HB.out))) : w.heap.size ≤ gb14003)); have n4_ := Aside0.mk ((by rw [hg]; exact (below_size (by repeat (first | (with_reducible first | exact HB.out | apply below_alloc | apply pw_below_drewN | apply below_drew1) | exact HB.out))) : w.heap.size ≤ gb14003)); clear HO_5; clear HB; have HO_5 := n0_; have HB := n1_; have BK14003 := n2_; have GW14003 := n3_; have GE14003 := n4_; clear n0_ n1_ n2_ n3_ n4_; clear hb hbox hg; have hcz16_0 : w15.cell? ⟨gb14003, 0, none⟩ = some (.int .i64 0) := (blk_cell BK14003.out 0).trans rfl; have hcz16_1 : w15.cell? ⟨gb14003, 1, none⟩ = some (.int .i64 0) := (blk_cell BK14003.out 1).trans rfl; have hcz16_2 : w15.cell? ⟨gb14003, 2, none⟩ = some (.int .i64 0) := (blk_cell BK14003.out 2).trans rfl; have hcz16_3 : w15.cell? ⟨gb14003, 3, none⟩ = some (.int .i64 0) := (blk_cell BK14003.out 3).trans rfl; have hcz16_4 : w15.cell? ⟨gb14003, 4, none⟩ = some (.int .i64 0) := (blk_cell BK14003.out 4).trans rfl; have hfz16_0 := blk_frozen BK14003.out 0; have hfz16_1 := blk_frozen BK14003.out 1; have hfz16_2 := blk_frozen BK14003.out 2; have hfz16_3 := blk_frozen BK14003.out 3; have hfz16_4 := blk_frozen BK14003.out 4) | ((with_reducible refine gate_store (t := 44) (p := 7) rfl ?_); (try (rw [drewN_self w15]; generalize hq_ : World.drewN w15 _ = w15; have n0_ := Aside0.mk (Kd.R_at hq_ HO_5.out); have n1_ := Aside0.mk (blk_at hq_ BK14003.out); have n2_ := Aside0.mk (below_at hq_ HB.out); clear hq_ HO_5 BK14003 HB; have HO_5 := n0_; have BK14003 := n1_; have HB := n2_; clear n0_ n1_ n2_)); refine store_event (t := 44) (p := 7) (v := ?vo_w17) (w1 := (((((w15.setCell ⟨gb14003, 0, none⟩ (.int .i64 ((rd_T44 l0 x16_1).f0))).setCell ⟨gb14003, 1, none⟩ (.int .i64 ((rd_T44 l0 x16_1).f1))).setCell ⟨gb14003, 2, none⟩ (.int .i64 ((rd_T44 l0 x16_1).f2))).setCell ⟨gb14003, 3, none⟩ (.int .i64 ((rd_T44 l0 x16_1).f3))).setCell ⟨gb14003, 4, none⟩ (.int .i64 ((rd_T44 l0 x16_1).f4)))) ?hg ?ho ?hn ?hr ?_; (case ho => rfl); (case hg => rfl); (case hn => rfl); (case hr => first | (go_simp; done) | (go_simp; rfl)); intro w17 hw; have n0_ : Aside0 (Kd.R k36 36 w17 w.heap.size (fun _ => True) u5 x5_1) := ⟨(by rw [hw]; exact (by (with_reducible repeat (first | apply Kd.R_alloc | apply Kd.R_drewN | apply Kd.R_drew)); exact Kd.R_mono (Kd.R_far (p := ⟨gb14003, 4, none⟩) (Kd.R_far (p := ⟨gb14003, 3, none⟩) (Kd.R_far (p := ⟨gb14003, 2, none⟩) (Kd.R_far (p := ⟨gb14003, 1, none⟩) (Kd.R_far (p := ⟨gb14003, 0, none⟩) (Kd.R_types HO_5.out BK14003.out (by decide)) (fun _ hk => hk.2) (.int .i64 ((rd_T44 l0 x16_1).f0))) (fun _ hk => hk.2) (.int .i64 ((rd_T44 l0 x16_1).f1))) (fun _ hk => hk.2) (.int .i64 ((rd_T44 l0 x16_1).f2))) (fun _ hk => hk.2) (.int .i64 ((rd_T44 l0 x16_1).f3))) (fun _ hk => hk.2) (.int .i64 ((rd_T44 l0 x16_1).f4))) (fun _ hk => trivial)))⟩; have n1_ : Aside0 (w17.heap[gb14003]? = some (.cells #[.int .i64 ((rd_T44 l0 x16_1).f0), .int .i64 ((rd_T44 l0 x16_1).f1), .int .i64 ((rd_T44 l0 x16_1).f2), .int .i64 ((rd_T44 l0 x16_1).f3), .int .i64 ((rd_T44 l0 x16_1).f4)] 44 (0, 0))) := ⟨(by rw [hw]; exact (by (with_reducible repeat (first | refine blk_drewN ?_ _ | refine blk_drew ?_ | refine blk_alloc ?_ _)); refine blk_put (cs := #[.int .i64 ((rd_T44 l0 x16_1).f0), .int .i64 ((rd_T44 l0 x16_1).f1), .int .i64 ((rd_T44 l0 x16_1).f2), .int .i64 ((rd_T44 l0 x16_1).f3), .int .i64 0]) ?_ 4 _ rfl; (with_reducible repeat (first | refine blk_drewN ?_ _ | refine blk_drew ?_ | refine blk_alloc ?_ _)); refine blk_put (cs := #[.int .i64 ((rd_T44 l0 x16_1).f0), .int .i64 ((rd_T44 l0 x16_1).f1), .int .i64 ((rd_T44 l0 x16_1).f2), .int .i64 0, .int .i64 0]) ?_ 3 _ rfl; (with_reducible repeat (first | refine blk_drewN ?_ _ | refine blk_drew ?_ | refine blk_alloc ?_ _)); refine blk_put (cs := #[.int .i64 ((rd_T44 l0 x16_1).f0), .int .i64 ((rd_T44 l0 x16_1).f1), .int .i64 0, .int .i64 0, .int .i64 0]) ?_ 2 _ rfl; (with_reducible repeat (first | refine blk_drewN ?_ _ | refine blk_drew ?_ | refine blk_alloc ?_ _)); refine blk_put (cs := #[.int .i64 ((rd_T44 l0 x16_1).f0), .int .i64 0, .int .i64 0, .int .i64 0, .int .i64 0]) ?_ 1 _ rfl; (with_reducible repeat (first | refine blk_drewN ?_ _ | refine blk_drew ?_ | refine blk_alloc ?_ _)); refine blk_put (cs := #[.int .i64 0, .int .i64 0, .int .i64 0, .int .i64 0, .int .i64 0]) ?_ 0 _ rfl; (with_reducible repeat (first | refine blk_drewN ?_ _ | refine blk_drew ?_ | refine blk_alloc ?_ _)); exact BK14003.out))⟩; have n2_ : Aside0 (Below w.heap.size w w17) := ⟨(by rw [hw]; exact (by repeat (first | (with_reducible first | exact HB.out | apply below_alloc | apply pw_below_drewN | apply below_drew1 | refine below_set ?_ GE14003.out) | exact HB.out)))⟩; clear hw; clear HO_5; clear BK14003; clear HB; have HO_5 := n0_; have BK14003 := n1_; have HB := n2_; clear n0_ n1_ n2_; obtain ⟨Ao18, co18, eo18⟩ := Kd.R_slice HO_5.out; subst eo18; have hcz19_0 : w17.cell? ⟨gb14003, 0, none⟩ = some (.int .i64 ((rd_T44 l0 x16_1).f0)) := (blk_cell BK14003.out 0).trans rfl; have hcz19_1 : w17.cell? ⟨gb14003, 1, none⟩ = some (.int .i64 ((rd_T44 l0 x16_1).f1)) := (blk_cell BK14003.out 1).trans rfl; have hcz19_2 : w17.cell? ⟨gb14003, 2, none⟩ = some (.int .i64 ((rd_T44 l0 x16_1).f2)) := (blk_cell BK14003.out 2).trans rfl; have hcz19_3 : w17.cell? ⟨gb14003, 3, none⟩ = some (.int .i64 ((rd_T44 l0 x16_1).f3)) := (blk_cell BK14003.out 3).trans rfl; have hcz19_4 : w17.cell? ⟨gb14003, 4, none⟩ = some (.int .i64 ((rd_T44 l0 x16_1).f4)) := (blk_cell BK14003.out 4).trans rfl; have hfz19_0 := blk_frozen BK14003.out 0; have hfz19_1 := blk_frozen BK14003.out 1; have hfz19_2 := blk_frozen BK14003.out 2; have hfz19_3 := blk_frozen BK14003.out 3; have hfz19_4 := blk_frozen BK14003.out 4; have p14004 : 0 ≤ ((ji10) : Int) := of_decide_eq_true (by first | (with_reducible assumption) | assumption); have q14004 : (ji10) < (x5_1.length : Int) := of_decide_eq_true (by first | (with_reducible assumption) | assumption); obtain ⟨ad14004, e14004, hx14004_0, hx14004_1⟩ := at_T36 (Kd.R_reads' HO_5.out).2.2 (ji10) p14004 q14004; cases e14004; replace p14004 := eq_true p14004; replace q14004 := eq_true q14004; have p14 : 0 ≤ ((ji10) : Int) := of_decide_eq_true (by first | (with_reducible assumption) | assumption); have q14 : ((ji10) : Int) < ((x5_1.length : Int) : Int) := of_decide_eq_true (by first | (with_reducible assumption) | assumption); obtain ⟨go14, co14, eo14, gb14, gl14, cl14, HG14⟩ := Kd.R_form HO_5.out (by omega); (first | cases eo14 | (injection eo14 with ea_ en_ ec_; (first | subst ea_ | (injection ea_ with ea_; subst ea_)); subst ec_; clear en_)); have GB14 := Aside0.mk gb14; have GG14 := Aside0.mk HG14; clear gb14 gl14 HG14; (first | simp only [add_plain] at hx14004_0 | skip); (first | simp only [add_plain] at hx14004_1 | skip); obtain ⟨ce14, hcl14, hM14, hcc14, hfr14⟩ := Kd.R_elem HO_5.out z36 ((ji10) : Int) p14 q14; obtain rfl := k36_openM hM14; have hx14_0 : w17.cell? ⟨go14, ((ji10) : Int).toNat * 2, none⟩ = some (.int .i64 ((rd_T36 x5_1 (ji10)).f0)) := hcc14 0 _ rfl; have hx14_1 : w17.cell? ⟨go14, ((ji10) : Int).toNat * 2 + 1, none⟩ = some (.int .i64 ((rd_T36 x5_1 (ji10)).f1)) := hcc14 1 _ rfl; have hf14_0 : w17.frozen? ⟨go14, ((ji10) : Int).toNat * 2, none⟩ = false := hfr14 0; have hf14_1 : w17.frozen? ⟨go14, ((ji10) : Int).toNat * 2 + 1, none⟩ = false := hfr14 1; clear hcl14 hcc14 hfr14 hM14; replace p14 := eq_true p14; replace q14 := eq_true q14; have HX20 := Aside0.mk (show Kd.R k36 36 w17 w.heap.size (fun _ => True) (.slice (some ⟨go14, 0, none⟩) x5_1.length co18) x5_1 from (by (with_reducible repeat (first | apply Kd.R_alloc | apply Kd.R_drewN | apply Kd.R_drew)); exact HO_5.out)); obtain ⟨ce20, hcl20, hM20, hcc20, hfr20⟩ := Kd.R_elem HX20.out z36 ((ji10) : Int) (of_decide_eq_true (by first | (with_reducible assumption) | assumption)) (by have h_ : ((ji10) : Int) < ((x5_1.length : Int) : Int) := of_decide_eq_true (by first | (with_reducible assumption) | assumption); first | exact h_ | (have e_ := (Kd.R_reads' HO_5.out).1; omega) | simpa using h_); obtain rfl := k36_openM hM20; have HP20 := Kd.R_seg HX20.out ((ji10) : Int) (of_decide_eq_true (by first | (with_reducible assumption) | assumption)) (by have h_ : ((ji10) : Int) < ((x5_1.length : Int) : Int) := of_decide_eq_true (by first | (with_reducible assumption) | assumption); first | exact h_ | (have e_ := (Kd.R_reads' HO_5.out).1; omega) | simpa using h_) (seg := [.int .i64 ((rd_T44 l0 x16_1).f1)]) (j := 1) hcl20 hcc20 (show 2 ≤ 2 from by decide) (x' := (⟨(rd_T36 x5_1 (ji10)).f0, (rd_T44 l0 x16_1).f1⟩ : S36)) (k36_mkM _ _ _ (⟨(rd_T36 x5_1 (ji10)).f0, (rd_T44 l0 x16_1).f1⟩ : S36) ) (fun _ hk => hk); have hx20_1 := hcc20 1 _ rfl; (try simp only [show (k36).sz = 2 from rfl, Nat.mul_one, Nat.add_zero] at hx20_1); have hf20_1 := hfr20 1; (try simp only [show (k36).sz = 2 from rfl, Nat.mul_one, Nat.add_zero] at hf20_1); clear hcl20 hcc20 hfr20 hM20) | ((with_reducible refine gate_store (t := 3) (p := 54) rfl ?_); (try (rw [drewN_self w17]; generalize hq_ : World.drewN w17 _ = w17; have n0_ := Aside0.mk (Kd.R_at hq_ HO_5.out); have n1_ := Aside0.mk (blk_at hq_ BK14003.out); have n2_ := Aside0.mk (below_at hq_ HB.out); clear hq_ HO_5 BK14003 HB; have HO_5 := n0_; have BK14003 := n1_; have HB := n2_; clear n0_ n1_ n2_; (try (have HX20 := Aside0.mk (show Kd.R k36 36 w17 w.heap.size (fun _ => True) (.slice (some ⟨go14, 0, none⟩) x5_1.length co18) x5_1 from (by (with_reducible repeat (first | apply Kd.R_alloc | apply Kd.R_drewN | apply Kd.R_drew)); exact HO_5.out)))); (try (obtain ⟨ce20, hcl20, hM20, hcc20, hfr20⟩ := Kd.R_elem HX20.out z36 ((ji10) : Int) (of_decide_eq_true (by first | (with_reducible assumption) | assumption)) (by have h_ : ((ji10) : Int) < ((x5_1.length : Int) : Int) := of_decide_eq_true (by first | (with_reducible assumption) | assumption); first | exact h_ | (have e_ := (Kd.R_reads' HO_5.out).1; omega) | simpa using h_))); (try (obtain rfl := k36_openM hM20)); (try (have HP20 := Kd.R_seg HX20.out ((ji10) : Int) (of_decide_eq_true (by first | (with_reducible assumption) | assumption)) (by have h_ : ((ji10) : Int) < ((x5_1.length : Int) : Int) := of_decide_eq_true (by first | (with_reducible assumption) | assumption); first | exact h_ | (have e_ := (Kd.R_reads' HO_5.out).1; omega) | simpa using h_) (seg := [.int .i64 ((rd_T44 l0 x16_1).f1)]) (j := 1) hcl20 hcc20 (show 2 ≤ 2 from by decide) (x' := (⟨(rd_T36 x5_1 (ji10)).f0, (rd_T44 l0 x16_1).f1⟩ : S36)) (k36_mkM _ _ _ (⟨(rd_T36 x5_1 (ji10)).f0, (rd_T44 l0 x16_1).f1⟩ : S36) ) (fun _ hk => hk))); (try (have hx20_1 := hcc20 1 _ rfl)); (try (try simp only [show (k36).sz = 2 from rfl, Nat.mul_one, Nat.add_zero] at hx20_1)); (try (have hf20_1 := hfr20 1)); (try (try simp only [show (k36).sz = 2 from rfl, Nat.mul_one, Nat.add_zero] at hf20_1)); (try (clear hcl20 hcc20 hfr20 hM20)))); refine store_event (t := 3) (p := 54) (v := ?vo_w21) (w1 := (w17.setCell ⟨go14, ((ji10) : Int).toNat * 2 + 1, none⟩ (.int .i64 ((rd_T44 l0 x16_1).f1)))) ?hg ?ho ?hn ?hr ?_; (case ho => rfl); (case hg => rfl); (case hn => rfl); (case hr => first | (go_simp; done) | (go_simp; rfl)); intro w21 hw; have hg : w17.grownBy w21 (some go14) := (by rw [hw]; exact HP20.2); have hp_ : Kd.R k36 36 w21 w.heap.size (fun _ => True) (.slice (some ⟨go14, 0, none⟩) x5_1.length co18) y14005 := (by rw [hw, Ny14005.out]; exact HP20.1); clear HP20; have n0_ := Aside0.mk (hp_); have n1_ := Aside0.mk (blk_grown (g := gb14003) (o := .cells #[.int .i64 ((rd_T44 l0 x16_1).f0), .int .i64 ((rd_T44 l0 x16_1).f1), .int .i64 ((rd_T44 l0 x16_1).f2), .int .i64 ((rd_T44 l0 x16_1).f3), .int .i64 ((rd_T44 l0 x16_1).f4)] 44 (0, 0)) (by (with_reducible repeat (first | refine blk_drewN ?_ _ | refine blk_drew ?_ | refine blk_alloc ?_ _)); exact BK14003.out) hg (Kd.R_ne HO_5.out BK14003.out (by decide))); have n2_ := Aside0.mk ((by rw [hw]; exact below_set (HB.out) GB14.out : Below w.heap.size w w21)); clear HO_5; clear BK14003; clear HB; have HO_5 := n0_; have BK14003 := n1_; have HB := n2_; clear n0_ n1_ n2_; clear hg hw hp_)); try go_wp2_with (first | ((with_reducible refine gate_dst (N := 7) rfl ?_); refine box_event ?hg (N := 7) ?hd (cs := #[.int .i64 0, .int .i64 0, .int .i64 0, .int .i64 0, .int .i64 0]) (t := 44) ?hr ?_; (case hd => rfl); (case hg => rfl); (case hr => first | (go_simp; done) | (go_simp; rfl)); intro gb14003 hg w15 hbox hb; have n0_ := Aside0.mk (Kd.R_below (by (with_reducible repeat (first | apply Kd.R_alloc | apply Kd.R_drewN | apply Kd.R_drew)); exact HO_5.out) hb); have n1_ := Aside0.mk (below_step (by repeat (first | (with_reducible first | exact HB.out | apply below_alloc | apply pw_below_drewN | apply below_drew1) | exact HB.out)) hb); have n2_ := Aside0.mk (hbox); have n3_ := Aside0.mk ((by rw [hg]; exact (below_size (by repeat (first | (with_reducible first | exact HB.out | apply below_alloc | apply pw_below_drewN | apply below_drew1) | exact HB.out))) : w.heap.size ≤ gb14003)); have n4_ := Aside0.mk ((by rw [hg]; exact (below_size (by repeat (first | (with_reducible first | exact HB.out | apply below_alloc | apply pw_below_drewN | apply below_drew1) | exact HB.out))) : w.heap.size ≤ gb14003)); clear HO_5; clear HB; have HO_5 := n0_; have HB := n1_; have BK14003 := n2_; have GW14003 := n3_; have GE14003 := n4_; clear n0_ n1_ n2_ n3_ n4_; clear hb hbox hg; have hcz16_0 : w15.cell? ⟨gb14003, 0, none⟩ = some (.int .i64 0) := (blk_cell BK14003.out 0).trans rfl; have hcz16_1 : w15.cell? ⟨gb14003, 1, none⟩ = some (.int .i64 0) := (blk_cell BK14003.out 1).trans rfl; have hcz16_2 : w15.cell? ⟨gb14003, 2, none⟩ = some (.int .i64 0) := (blk_cell BK14003.out 2).trans rfl; have hcz16_3 : w15.cell? ⟨gb14003, 3, none⟩ = some (.int .i64 0) := (blk_cell BK14003.out 3).trans rfl; have hcz16_4 : w15.cell? ⟨gb14003, 4, none⟩ = some (.int .i64 0) := (blk_cell BK14003.out 4).trans rfl; have hfz16_0 := blk_frozen BK14003.out 0; have hfz16_1 := blk_frozen BK14003.out 1; have hfz16_2 := blk_frozen BK14003.out 2; have hfz16_3 := blk_frozen BK14003.out 3; have hfz16_4 := blk_frozen BK14003.out 4) | ((with_reducible refine gate_store (t := 44) (p := 7) rfl ?_); (try (rw [drewN_self w15]; generalize hq_ : World.drewN w15 _ = w15; have n0_ := Aside0.mk (Kd.R_at hq_ HO_5.out); have n1_ := Aside0.mk (blk_at hq_ BK14003.out); have n2_ := Aside0.mk (below_at hq_ HB.out); clear hq_ HO_5 BK14003 HB; have HO_5 := n0_; have BK14003 := n1_; have HB := n2_; clear n0_ n1_ n2_)); refine store_event (t := 44) (p := 7) (v := ?vo_w17) (w1 := (((((w15.setCell ⟨gb14003, 0, none⟩ (.int .i64 ((rd_T44 l0 x16_1).f0))).setCell ⟨gb14003, 1, none⟩ (.int .i64 ((rd_T44 l0 x16_1).f1))).setCell ⟨gb14003, 2, none⟩ (.int .i64 ((rd_T44 l0 x16_1).f2))).setCell ⟨gb14003, 3, none⟩ (.int .i64 ((rd_T44 l0 x16_1).f3))).setCell ⟨gb14003, 4, none⟩ (.int .i64 ((rd_T44 l0 x16_1).f4)))) ?hg ?ho ?hn ?hr ?_; (case ho => rfl); (case hg => rfl); (case hn => rfl); (case hr => first | (go_simp; done) | (go_simp; rfl)); intro w17 hw; have n0_ : Aside0 (Kd.R k36 36 w17 w.heap.size (fun _ => True) u5 x5_1) := ⟨(by rw [hw]; exact (by (with_reducible repeat (first | apply Kd.R_alloc | apply Kd.R_drewN | apply Kd.R_drew)); exact Kd.R_mono (Kd.R_far (p := ⟨gb14003, 4, none⟩) (Kd.R_far (p := ⟨gb14003, 3, none⟩) (Kd.R_far (p := ⟨gb14003, 2, none⟩) (Kd.R_far (p := ⟨gb14003, 1, none⟩) (Kd.R_far (p := ⟨gb14003, 0, none⟩) (Kd.R_types HO_5.out BK14003.out (by decide)) (fun _ hk => hk.2) (.int .i64 ((rd_T44 l0 x16_1).f0))) (fun _ hk => hk.2) (.int .i64 ((rd_T44 l0 x16_1).f1))) (fun _ hk => hk.2) (.int .i64 ((rd_T44 l0 x16_1).f2))) (fun _ hk => hk.2) (.int .i64 ((rd_T44 l0 x16_1).f3))) (fun _ hk => hk.2) (.int .i64 ((rd_T44 l0 x16_1).f4))) (fun _ hk => trivial)))⟩; have n1_ : Aside0 (w17.heap[gb14003]? = some (.cells #[.int .i64 ((rd_T44 l0 x16_1).f0), .int .i64 ((rd_T44 l0 x16_1).f1), .int .i64 ((rd_T44 l0 x16_1).f2), .int .i64 ((rd_T44 l0 x16_1).f3), .int .i64 ((rd_T44 l0 x16_1).f4)] 44 (0, 0))) := ⟨(by rw [hw]; exact (by (with_reducible repeat (first | refine blk_drewN ?_ _ | refine blk_drew ?_ | refine blk_alloc ?_ _)); refine blk_put (cs := #[.int .i64 ((rd_T44 l0 x16_1).f0), .int .i64 ((rd_T44 l0 x16_1).f1), .int .i64 ((rd_T44 l0 x16_1).f2), .int .i64 ((rd_T44 l0 x16_1).f3), .int .i64 0]) ?_ 4 _ rfl; (with_reducible repeat (first | refine blk_drewN ?_ _ | refine blk_drew ?_ | refine blk_alloc ?_ _)); refine blk_put (cs := #[.int .i64 ((rd_T44 l0 x16_1).f0), .int .i64 ((rd_T44 l0 x16_1).f1), .int .i64 ((rd_T44 l0 x16_1).f2), .int .i64 0, .int .i64 0]) ?_ 3 _ rfl; (with_reducible repeat (first | refine blk_drewN ?_ _ | refine blk_drew ?_ | refine blk_alloc ?_ _)); refine blk_put (cs := #[.int .i64 ((rd_T44 l0 x16_1).f0), .int .i64 ((rd_T44 l0 x16_1).f1), .int .i64 0, .int .i64 0, .int .i64 0]) ?_ 2 _ rfl; (with_reducible repeat (first | refine blk_drewN ?_ _ | refine blk_drew ?_ | refine blk_alloc ?_ _)); refine blk_put (cs := #[.int .i64 ((rd_T44 l0 x16_1).f0), .int .i64 0, .int .i64 0, .int .i64 0, .int .i64 0]) ?_ 1 _ rfl; (with_reducible repeat (first | refine blk_drewN ?_ _ | refine blk_drew ?_ | refine blk_alloc ?_ _)); refine blk_put (cs := #[.int .i64 0, .int .i64 0, .int .i64 0, .int .i64 0, .int .i64 0]) ?_ 0 _ rfl; (with_reducible repeat (first | refine blk_drewN ?_ _ | refine blk_drew ?_ | refine blk_alloc ?_ _)); exact BK14003.out))⟩; have n2_ : Aside0 (Below w.heap.size w w17) := ⟨(by rw [hw]; exact (by repeat (first | (with_reducible first | exact HB.out | apply below_alloc | apply pw_below_drewN | apply below_drew1 | refine below_set ?_ GE14003.out) | exact HB.out)))⟩; clear hw; clear HO_5; clear BK14003; clear HB; have HO_5 := n0_; have BK14003 := n1_; have HB := n2_; clear n0_ n1_ n2_; obtain ⟨Ao18, co18, eo18⟩ := Kd.R_slice HO_5.out; subst eo18; have hcz19_0 : w17.cell? ⟨gb14003, 0, none⟩ = some (.int .i64 ((rd_T44 l0 x16_1).f0)) := (blk_cell BK14003.out 0).trans rfl; have hcz19_1 : w17.cell? ⟨gb14003, 1, none⟩ = some (.int .i64 ((rd_T44 l0 x16_1).f1)) := (blk_cell BK14003.out 1).trans rfl; have hcz19_2 : w17.cell? ⟨gb14003, 2, none⟩ = some (.int .i64 ((rd_T44 l0 x16_1).f2)) := (blk_cell BK14003.out 2).trans rfl; have hcz19_3 : w17.cell? ⟨gb14003, 3, none⟩ = some (.int .i64 ((rd_T44 l0 x16_1).f3)) := (blk_cell BK14003.out 3).trans rfl; have hcz19_4 : w17.cell? ⟨gb14003, 4, none⟩ = some (.int .i64 ((rd_T44 l0 x16_1).f4)) := (blk_cell BK14003.out 4).trans rfl; have hfz19_0 := blk_frozen BK14003.out 0; have hfz19_1 := blk_frozen BK14003.out 1; have hfz19_2 := blk_frozen BK14003.out 2; have hfz19_3 := blk_frozen BK14003.out 3; have hfz19_4 := blk_frozen BK14003.out 4; have p14004 : 0 ≤ ((ji10) : Int) := of_decide_eq_true (by first | (with_reducible assumption) | assumption); have q14004 : (ji10) < (x5_1.length : Int) := of_decide_eq_true (by first | (with_reducible assumption) | assumption); obtain ⟨ad14004, e14004, hx14004_0, hx14004_1⟩ := at_T36 (Kd.R_reads' HO_5.out).2.2 (ji10) p14004 q14004; cases e14004; replace p14004 := eq_true p14004; replace q14004 := eq_true q14004; have p14 : 0 ≤ ((ji10) : Int) := of_decide_eq_true (by first | (with_reducible assumption) | assumption); have q14 : ((ji10) : Int) < ((x5_1.length : Int) : Int) := of_decide_eq_true (by first | (with_reducible assumption) | assumption); obtain ⟨go14, co14, eo14, gb14, gl14, cl14, HG14⟩ := Kd.R_form HO_5.out (by omega); (first | cases eo14 | (injection eo14 with ea_ en_ ec_; (first | subst ea_ | (injection ea_ with ea_; subst ea_)); subst ec_; clear en_)); have GB14 := Aside0.mk gb14; have GG14 := Aside0.mk HG14; clear gb14 gl14 HG14; (first | simp only [add_plain] at hx14004_0 | skip); (first | simp only [add_plain] at hx14004_1 | skip); obtain ⟨ce14, hcl14, hM14, hcc14, hfr14⟩ := Kd.R_elem HO_5.out z36 ((ji10) : Int) p14 q14; obtain rfl := k36_openM hM14; have hx14_0 : w17.cell? ⟨go14, ((ji10) : Int).toNat * 2, none⟩ = some (.int .i64 ((rd_T36 x5_1 (ji10)).f0)) := hcc14 0 _ rfl; have hx14_1 : w17.cell? ⟨go14, ((ji10) : Int).toNat * 2 + 1, none⟩ = some (.int .i64 ((rd_T36 x5_1 (ji10)).f1)) := hcc14 1 _ rfl; have hf14_0 : w17.frozen? ⟨go14, ((ji10) : Int).toNat * 2, none⟩ = false := hfr14 0; have hf14_1 : w17.frozen? ⟨go14, ((ji10) : Int).toNat * 2 + 1, none⟩ = false := hfr14 1; clear hcl14 hcc14 hfr14 hM14; replace p14 := eq_true p14; replace q14 := eq_true q14; have HX20 := Aside0.mk (show Kd.R k36 36 w17 w.heap.size (fun _ => True) (.slice (some ⟨go14, 0, none⟩) x5_1.length co18) x5_1 from (by (with_reducible repeat (first | apply Kd.R_alloc | apply Kd.R_drewN | apply Kd.R_drew)); exact HO_5.out)); obtain ⟨ce20, hcl20, hM20, hcc20, hfr20⟩ := Kd.R_elem HX20.out z36 ((ji10) : Int) (of_decide_eq_true (by first | (with_reducible assumption) | assumption)) (by have h_ : ((ji10) : Int) < ((x5_1.length : Int) : Int) := of_decide_eq_true (by first | (with_reducible assumption) | assumption); first | exact h_ | (have e_ := (Kd.R_reads' HO_5.out).1; omega) | simpa using h_); obtain rfl := k36_openM hM20; have HP20 := Kd.R_seg HX20.out ((ji10) : Int) (of_decide_eq_true (by first | (with_reducible assumption) | assumption)) (by have h_ : ((ji10) : Int) < ((x5_1.length : Int) : Int) := of_decide_eq_true (by first | (with_reducible assumption) | assumption); first | exact h_ | (have e_ := (Kd.R_reads' HO_5.out).1; omega) | simpa using h_) (seg := [.int .i64 ((rd_T44 l0 x16_1).f1)]) (j := 1) hcl20 hcc20 (show 2 ≤ 2 from by decide) (x' := (⟨(rd_T36 x5_1 (ji10)).f0, (rd_T44 l0 x16_1).f1⟩ : S36)) (k36_mkM _ _ _ (⟨(rd_T36 x5_1 (ji10)).f0, (rd_T44 l0 x16_1).f1⟩ : S36) ) (fun _ hk => hk); have hx20_1 := hcc20 1 _ rfl; (try simp only [show (k36).sz = 2 from rfl, Nat.mul_one, Nat.add_zero] at hx20_1); have hf20_1 := hfr20 1; (try simp only [show (k36).sz = 2 from rfl, Nat.mul_one, Nat.add_zero] at hf20_1); clear hcl20 hcc20 hfr20 hM20) | ((with_reducible refine gate_store (t := 3) (p := 54) rfl ?_); (try (rw [drewN_self w17]; generalize hq_ : World.drewN w17 _ = w17; have n0_ := Aside0.mk (Kd.R_at hq_ HO_5.out); have n1_ := Aside0.mk (blk_at hq_ BK14003.out); have n2_ := Aside0.mk (below_at hq_ HB.out); clear hq_ HO_5 BK14003 HB; have HO_5 := n0_; have BK14003 := n1_; have HB := n2_; clear n0_ n1_ n2_; (try (have HX20 := Aside0.mk (show Kd.R k36 36 w17 w.heap.size (fun _ => True) (.slice (some ⟨go14, 0, none⟩) x5_1.length co18) x5_1 from (by (with_reducible repeat (first | apply Kd.R_alloc | apply Kd.R_drewN | apply Kd.R_drew)); exact HO_5.out)))); (try (obtain ⟨ce20, hcl20, hM20, hcc20, hfr20⟩ := Kd.R_elem HX20.out z36 ((ji10) : Int) (of_decide_eq_true (by first | (with_reducible assumption) | assumption)) (by have h_ : ((ji10) : Int) < ((x5_1.length : Int) : Int) := of_decide_eq_true (by first | (with_reducible assumption) | assumption); first | exact h_ | (have e_ := (Kd.R_reads' HO_5.out).1; omega) | simpa using h_))); (try (obtain rfl := k36_openM hM20)); (try (have HP20 := Kd.R_seg HX20.out ((ji10) : Int) (of_decide_eq_true (by first | (with_reducible assumption) | assumption)) (by have h_ : ((ji10) : Int) < ((x5_1.length : Int) : Int) := of_decide_eq_true (by first | (with_reducible assumption) | assumption); first | exact h_ | (have e_ := (Kd.R_reads' HO_5.out).1; omega) | simpa using h_) (seg := [.int .i64 ((rd_T44 l0 x16_1).f1)]) (j := 1) hcl20 hcc20 (show 2 ≤ 2 from by decide) (x' := (⟨(rd_T36 x5_1 (ji10)).f0, (rd_T44 l0 x16_1).f1⟩ : S36)) (k36_mkM _ _ _ (⟨(rd_T36 x5_1 (ji10)).f0, (rd_T44 l0 x16_1).f1⟩ : S36) ) (fun _ hk => hk))); (try (have hx20_1 := hcc20 1 _ rfl)); (try (try simp only [show (k36).sz = 2 from rfl, Nat.mul_one, Nat.add_zero] at hx20_1)); (try (have hf20_1 := hfr20 1)); (try (try simp only [show (k36).sz = 2 from rfl, Nat.mul_one, Nat.add_zero] at hf20_1)); (try (clear hcl20 hcc20 hfr20 hM20)))); refine store_event (t := 3) (p := 54) (v := ?vo_w21) (w1 := (w17.setCell ⟨go14, ((ji10) : Int).toNat * 2 + 1, none⟩ (.int .i64 ((rd_T44 l0 x16_1).f1)))) ?hg ?ho ?hn ?hr ?_; (case ho => rfl); (case hg => rfl); (case hn => rfl); (case hr => first | (go_simp; done) | (go_simp; rfl)); intro w21 hw; have hg : w17.grownBy w21 (some go14) := (by rw [hw]; exact HP20.2); have hp_ : Kd.R k36 36 w21 w.heap.size (fun _ => True) (.slice (some ⟨go14, 0, none⟩) x5_1.length co18) y14005 := (by rw [hw, Ny14005.out]; exact HP20.1); clear HP20; have n0_ := Aside0.mk (hp_); have n1_ := Aside0.mk (blk_grown (g := gb14003) (o := .cells #[.int .i64 ((rd_T44 l0 x16_1).f0), .int .i64 ((rd_T44 l0 x16_1).f1), .int .i64 ((rd_T44 l0 x16_1).f2), .int .i64 ((rd_T44 l0 x16_1).f3), .int .i64 ((rd_T44 l0 x16_1).f4)] 44 (0, 0)) (by (with_reducible repeat (first | refine blk_drewN ?_ _ | refine blk_drew ?_ | refine blk_alloc ?_ _)); exact BK14003.out) hg (Kd.R_ne HO_5.out BK14003.out (by decide))); have n2_ := Aside0.mk ((by rw [hw]; exact below_set (HB.out) GB14.out : Below w.heap.size w w21)); clear HO_5; clear BK14003; clear HB; have HO_5 := n0_; have BK14003 := n1_; have HB := n2_; clear n0_ n1_ n2_; clear hg hw hp_)))
            go_roundg k1
            case measure => have := HK1.out; omega
            case rel => exact ⟨(y14005), (wrap64 (x16_1 + 1)), (by first | rfl | (simp; done) | (simp [*]; done)), H', ⟨by have := HK1.out; omega⟩, ⟨by (with_reducible repeat (first | apply Kd.R_alloc | apply Kd.R_drewN | apply Kd.R_drew)); exact HO_5.out⟩, ⟨by repeat (first | (with_reducible first | exact HB.out | apply below_alloc | apply pw_below_drewN | apply below_drew1 | refine below_set ?_ GE14003.out) | exact HB.out)⟩⟩
           ·rw [if_neg c13] at H
            have c13b0 : (((rd_T36 x5_1 (ji10)).f1) == ((rd_T44 l0 x16_1).f0)) = false := beq_eq_false_iff_ne.mpr c13
            have c13b1 : (((rd_T36 x5_1 (ji10)).f1) != ((rd_T44 l0 x16_1).f0)) = true := bne_iff_ne.mpr c13
            by_cases c22 : x5_1.length < 8796093022208
            ·rw [if_pos c22] at H
             have LMc22 := Aside0.mk c22
             clear c22
             obtain ⟨y14006, hy14006⟩ : ∃ y_ : List (S36), y_ = (x5_1 ++ [(⟨(rd_T44 l0 x16_1).f0, (rd_T44 l0 x16_1).f1⟩ : S36)]) := ⟨_, rfl⟩
             replace H : (reel_Lost.l0 k1 y14006 l0 (l0.length : Int) (wrap64 (x16_1 + 1))) = some (r1, r2) := by first | (rw [hy14006]; with_reducible exact H) | (have H2_ := (Option.bind_some _ _).symm.trans H; rw [hy14006]; with_reducible exact H2_) | (have H2_ := (Option.bind_some _ _).symm.trans H; with_reducible exact H2_) | with_reducible exact H | (rw [hy14006]; exact H) | exact H
             have Ny14006 := Aside0.mk hy14006
             clear hy14006
             have H' := Aside0.mk H
             clear H
             have p14002 : 0 ≤ (x16_1 : Int) := of_decide_eq_true (by first | (with_reducible assumption) | assumption)
             have q14002 : x16_1 < (l0.length : Int) := of_decide_eq_true (by first | (with_reducible assumption) | assumption)
             obtain ⟨ad14002, e14002, hx14002_0, hx14002_1, hx14002_2, hx14002_3, hx14002_4⟩ := at_T44 HR0.out x16_1 p14002 q14002
             cases e14002
             replace hx14002_0 := (HB.out.cell (World.block_lt_of_cell? w _ hx14002_0)).trans hx14002_0
             replace hx14002_1 := (HB.out.cell (World.block_lt_of_cell? w _ hx14002_1)).trans hx14002_1
             replace hx14002_2 := (HB.out.cell (World.block_lt_of_cell? w _ hx14002_2)).trans hx14002_2
             replace hx14002_3 := (HB.out.cell (World.block_lt_of_cell? w _ hx14002_3)).trans hx14002_3
             replace hx14002_4 := (HB.out.cell (World.block_lt_of_cell? w _ hx14002_4)).trans hx14002_4
             replace p14002 := eq_true p14002
             replace q14002 := eq_true q14002
             go_wp2_with (first | ((with_reducible refine gate_dst (N := 7) rfl ?_); refine box_event ?hg (N := 7) ?hd (cs := #[.int .i64 0, .int .i64 0, .int .i64 0, .int .i64 0, .int .i64 0]) (t := 44) ?hr ?_; (case hd => rfl); (case hg => rfl); (case hr => first | (go_simp; done) | (go_simp; rfl)); intro gb14003 hg w23 hbox hb; have n0_ := Aside0.mk (Kd.R_below (by (with_reducible repeat (first | apply Kd.R_alloc | apply Kd.R_drewN | apply Kd.R_drew)); exact HO_5.out) hb); have n1_ := Aside0.mk (below_step (by repeat (first | (with_reducible first | exact HB.out | apply below_alloc | apply pw_below_drewN | apply below_drew1) | exact HB.out)) hb); have n2_ := Aside0.mk (hbox); have n3_ := Aside0.mk ((by rw [hg]; exact (below_size (by repeat (first | (with_reducible first | exact HB.out | apply below_alloc | apply pw_below_drewN | apply below_drew1) | exact HB.out))) : w.heap.size ≤ gb14003)); have n4_ := Aside0.mk ((by rw [hg]; exact (below_size (by repeat (first | (with_reducible first | exact HB.out | apply below_alloc | apply pw_below_drewN | apply below_drew1) | exact HB.out))) : w.heap.size ≤ gb14003)); clear HO_5; clear HB; have HO_5 := n0_; have HB := n1_; have BK14003 := n2_; have GW14003 := n3_; have GE14003 := n4_; clear n0_ n1_ n2_ n3_ n4_; clear hb hbox hg; have hcz24_0 : w23.cell? ⟨gb14003, 0, none⟩ = some (.int .i64 0) := (blk_cell BK14003.out 0).trans rfl; have hcz24_1 : w23.cell? ⟨gb14003, 1, none⟩ = some (.int .i64 0) := (blk_cell BK14003.out 1).trans rfl; have hcz24_2 : w23.cell? ⟨gb14003, 2, none⟩ = some (.int .i64 0) := (blk_cell BK14003.out 2).trans rfl; have hcz24_3 : w23.cell? ⟨gb14003, 3, none⟩ = some (.int .i64 0) := (blk_cell BK14003.out 3).trans rfl; have hcz24_4 : w23.cell? ⟨gb14003, 4, none⟩ = some (.int .i64 0) := (blk_cell BK14003.out 4).trans rfl; have hfz24_0 := blk_frozen BK14003.out 0; have hfz24_1 := blk_frozen BK14003.out 1; have hfz24_2 := blk_frozen BK14003.out 2; have hfz24_3 := blk_frozen BK14003.out 3; have hfz24_4 := blk_frozen BK14003.out 4; obtain ⟨Ao25, co25, eo25⟩ := Kd.R_slice HO_5.out; subst eo25; have p14004 : 0 ≤ ((ji10) : Int) := of_decide_eq_true (by first | (with_reducible assumption) | assumption); have q14004 : (ji10) < (x5_1.length : Int) := of_decide_eq_true (by first | (with_reducible assumption) | assumption); obtain ⟨ad14004, e14004, hx14004_0, hx14004_1⟩ := at_T36 (Kd.R_reads' HO_5.out).2.2 (ji10) p14004 q14004; cases e14004; have hn14004_0 : ad14004.block ≠ gb14003 := Kd.own_blk (Kd.R_ne HO_5.out BK14003.out (by decide)); have hn14004_1 : ad14004.block ≠ gb14003 := Kd.own_blk (Kd.R_ne HO_5.out BK14003.out (by decide)); have hn14004_2 : ad14004.block ≠ gb14003 := Kd.own_blk (Kd.R_ne HO_5.out BK14003.out (by decide)); have hn14004_3 : ad14004.block ≠ gb14003 := Kd.own_blk (Kd.R_ne HO_5.out BK14003.out (by decide)); have hn14004_4 : ad14004.block ≠ gb14003 := Kd.own_blk (Kd.R_ne HO_5.out BK14003.out (by decide)); replace hx14004_0 := (cell_far (p := ⟨gb14003, 0, none⟩) (by first | (rw [add_block]; exact hn14004_0) | (show (Addr.add _ _).block ≠ _; rw [add_block]; exact hn14004_0) | exact hn14004_0) (.int .i64 ((rd_T44 l0 x16_1).f0))).trans hx14004_0; replace hx14004_1 := (cell_far (p := ⟨gb14003, 0, none⟩) (by first | (rw [add_block]; exact hn14004_0) | (show (Addr.add _ _).block ≠ _; rw [add_block]; exact hn14004_0) | exact hn14004_0) (.int .i64 ((rd_T44 l0 x16_1).f0))).trans hx14004_1; replace hx14004_0 := (cell_far (p := ⟨gb14003, 1, none⟩) (by first | (rw [add_block]; exact hn14004_1) | (show (Addr.add _ _).block ≠ _; rw [add_block]; exact hn14004_1) | exact hn14004_1) (.int .i64 ((rd_T44 l0 x16_1).f1))).trans hx14004_0; replace hx14004_1 := (cell_far (p := ⟨gb14003, 1, none⟩) (by first | (rw [add_block]; exact hn14004_1) | (show (Addr.add _ _).block ≠ _; rw [add_block]; exact hn14004_1) | exact hn14004_1) (.int .i64 ((rd_T44 l0 x16_1).f1))).trans hx14004_1; replace hx14004_0 := (cell_far (p := ⟨gb14003, 2, none⟩) (by first | (rw [add_block]; exact hn14004_2) | (show (Addr.add _ _).block ≠ _; rw [add_block]; exact hn14004_2) | exact hn14004_2) (.int .i64 ((rd_T44 l0 x16_1).f2))).trans hx14004_0; replace hx14004_1 := (cell_far (p := ⟨gb14003, 2, none⟩) (by first | (rw [add_block]; exact hn14004_2) | (show (Addr.add _ _).block ≠ _; rw [add_block]; exact hn14004_2) | exact hn14004_2) (.int .i64 ((rd_T44 l0 x16_1).f2))).trans hx14004_1; replace hx14004_0 := (cell_far (p := ⟨gb14003, 3, none⟩) (by first | (rw [add_block]; exact hn14004_3) | (show (Addr.add _ _).block ≠ _; rw [add_block]; exact hn14004_3) | exact hn14004_3) (.int .i64 ((rd_T44 l0 x16_1).f3))).trans hx14004_0; replace hx14004_1 := (cell_far (p := ⟨gb14003, 3, none⟩) (by first | (rw [add_block]; exact hn14004_3) | (show (Addr.add _ _).block ≠ _; rw [add_block]; exact hn14004_3) | exact hn14004_3) (.int .i64 ((rd_T44 l0 x16_1).f3))).trans hx14004_1; replace hx14004_0 := (cell_far (p := ⟨gb14003, 4, none⟩) (by first | (rw [add_block]; exact hn14004_4) | (show (Addr.add _ _).block ≠ _; rw [add_block]; exact hn14004_4) | exact hn14004_4) (.int .i64 ((rd_T44 l0 x16_1).f4))).trans hx14004_0; replace hx14004_1 := (cell_far (p := ⟨gb14003, 4, none⟩) (by first | (rw [add_block]; exact hn14004_4) | (show (Addr.add _ _).block ≠ _; rw [add_block]; exact hn14004_4) | exact hn14004_4) (.int .i64 ((rd_T44 l0 x16_1).f4))).trans hx14004_1; (try have hy14004_0 := fun (n_ : Nat) => (show (((((((w23.drewN n_).setCell ⟨gb14003, 0, none⟩ (.int .i64 ((rd_T44 l0 x16_1).f0))).setCell ⟨gb14003, 1, none⟩ (.int .i64 ((rd_T44 l0 x16_1).f1))).setCell ⟨gb14003, 2, none⟩ (.int .i64 ((rd_T44 l0 x16_1).f2))).setCell ⟨gb14003, 3, none⟩ (.int .i64 ((rd_T44 l0 x16_1).f3))).setCell ⟨gb14003, 4, none⟩ (.int .i64 ((rd_T44 l0 x16_1).f4)))).cell? _ = some _ from hx14004_0)); (try have hy14004_1 := fun (n_ : Nat) => (show (((((((w23.drewN n_).setCell ⟨gb14003, 0, none⟩ (.int .i64 ((rd_T44 l0 x16_1).f0))).setCell ⟨gb14003, 1, none⟩ (.int .i64 ((rd_T44 l0 x16_1).f1))).setCell ⟨gb14003, 2, none⟩ (.int .i64 ((rd_T44 l0 x16_1).f2))).setCell ⟨gb14003, 3, none⟩ (.int .i64 ((rd_T44 l0 x16_1).f3))).setCell ⟨gb14003, 4, none⟩ (.int .i64 ((rd_T44 l0 x16_1).f4)))).cell? _ = some _ from hx14004_1)); clear hn14004_0; clear hn14004_1; clear hn14004_2; clear hn14004_3; clear hn14004_4; replace p14004 := eq_true p14004; replace q14004 := eq_true q14004) | ((with_reducible refine gate_builtin (b := .append) (xs := #[.tmp 22, .tmp 28]) rfl ?_); at_builtin; refine Kd.R_append k36 (w0 := w) w.heap.size rfl (.tmp 22) (.tmp 28) 25 36 (.agg #[(.int .i64 0), (.int .i64 0)]) 16 rfl Try.underlying25 info36 rfl (by decide) (by omega) (.slice (some ad14004) x5_1.length co25) x5_1 (⟨(rd_T44 l0 x16_1).f0, (rd_T44 l0 x16_1).f1⟩ : S36) [.int .i64 ((rd_T44 l0 x16_1).f0), .int .i64 ((rd_T44 l0 x16_1).f1)] (fun _ => True) (fun _ => False) rfl (by first | (go_simp; done) | (go_simp; rfl)) ?aP (fun _ hk => hk.elim) ?aF ?aO ?aB ?aS ?aL ?_; (case aP => exact k36_mkM _ _ _ (⟨(rd_T44 l0 x16_1).f0, (rd_T44 l0 x16_1).f1⟩ : S36)); (case aB => exact (by repeat (first | (with_reducible first | exact HB.out | apply below_alloc | apply pw_below_drewN | apply below_drew1 | refine below_set ?_ GE14003.out) | exact HB.out))); (case aF => exact (fun _ _ => trivial)); (case aO => exact (by (with_reducible repeat (first | apply Kd.R_alloc | apply Kd.R_drewN | apply Kd.R_drew)); exact Kd.R_mono (Kd.R_far (p := ⟨gb14003, 4, none⟩) (Kd.R_far (p := ⟨gb14003, 3, none⟩) (Kd.R_far (p := ⟨gb14003, 2, none⟩) (Kd.R_far (p := ⟨gb14003, 1, none⟩) (Kd.R_far (p := ⟨gb14003, 0, none⟩) (Kd.R_types HO_5.out BK14003.out (by decide)) (fun _ hk => hk.2) (.int .i64 ((rd_T44 l0 x16_1).f0))) (fun _ hk => hk.2) (.int .i64 ((rd_T44 l0 x16_1).f1))) (fun _ hk => hk.2) (.int .i64 ((rd_T44 l0 x16_1).f2))) (fun _ hk => hk.2) (.int .i64 ((rd_T44 l0 x16_1).f3))) (fun _ hk => hk.2) (.int .i64 ((rd_T44 l0 x16_1).f4))) (fun _ hk => trivial))); (case aS => exact (below_size (by repeat (first | (with_reducible first | exact HB.out | apply below_alloc | apply pw_below_drewN | apply below_drew1 | refine below_set ?_ GE14003.out) | exact HB.out)))); (case aL => have := LMc22.out; omega); intro v14007 w26 ho hb hg hat; rw [← Ny14006.out] at ho; have n0_ := Aside0.mk (blk_grown (g := gb14003) (o := .cells #[.int .i64 ((rd_T44 l0 x16_1).f0), .int .i64 ((rd_T44 l0 x16_1).f1), .int .i64 ((rd_T44 l0 x16_1).f2), .int .i64 ((rd_T44 l0 x16_1).f3), .int .i64 ((rd_T44 l0 x16_1).f4)] 44 (0, 0)) (by (with_reducible repeat (first | refine blk_drewN ?_ _ | refine blk_drew ?_ | refine blk_alloc ?_ _)); refine blk_put (cs := #[.int .i64 ((rd_T44 l0 x16_1).f0), .int .i64 ((rd_T44 l0 x16_1).f1), .int .i64 ((rd_T44 l0 x16_1).f2), .int .i64 ((rd_T44 l0 x16_1).f3), .int .i64 0]) ?_ 4 _ rfl; (with_reducible repeat (first | refine blk_drewN ?_ _ | refine blk_drew ?_ | refine blk_alloc ?_ _)); refine blk_put (cs := #[.int .i64 ((rd_T44 l0 x16_1).f0), .int .i64 ((rd_T44 l0 x16_1).f1), .int .i64 ((rd_T44 l0 x16_1).f2), .int .i64 0, .int .i64 0]) ?_ 3 _ rfl; (with_reducible repeat (first | refine blk_drewN ?_ _ | refine blk_drew ?_ | refine blk_alloc ?_ _)); refine blk_put (cs := #[.int .i64 ((rd_T44 l0 x16_1).f0), .int .i64 ((rd_T44 l0 x16_1).f1), .int .i64 0, .int .i64 0, .int .i64 0]) ?_ 2 _ rfl; (with_reducible repeat (first | refine blk_drewN ?_ _ | refine blk_drew ?_ | refine blk_alloc ?_ _)); refine blk_put (cs := #[.int .i64 ((rd_T44 l0 x16_1).f0), .int .i64 0, .int .i64 0, .int .i64 0, .int .i64 0]) ?_ 1 _ rfl; (with_reducible repeat (first | refine blk_drewN ?_ _ | refine blk_drew ?_ | refine blk_alloc ?_ _)); refine blk_put (cs := #[.int .i64 0, .int .i64 0, .int .i64 0, .int .i64 0, .int .i64 0]) ?_ 0 _ rfl; (with_reducible repeat (first | refine blk_drewN ?_ _ | refine blk_drew ?_ | refine blk_alloc ?_ _)); exact BK14003.out) hg (Kd.R_ne HO_5.out BK14003.out (by decide))); have n1_ := Aside0.mk (hb); have n2_ := Aside0.mk (ho); clear BK14003; clear HB; clear HO_5; have BK14003 := n0_; have HB := n1_; have HO14008 := n2_; clear n0_ n1_ n2_; clear ho hb hg hat))
             repeat (go_quiet (first | ((with_reducible refine gate_dst (N := 7) rfl ?_); refine box_event ?hg (N := 7) ?hd (cs := #[.int .i64 0, .int .i64 0, .int .i64 0, .int .i64 0, .int .i64 0]) (t := 44) ?hr ?_; (case hd => rfl); (case hg => rfl); (case hr => first | (go_simp; done) | (go_simp; rfl)); intro gb14003 hg w23 hbox hb; have n0_ := Aside0.mk (Kd.R_below (by (with_reducible repeat (first | apply Kd.R_alloc | apply Kd.R_drewN | apply Kd.R_drew)); exact HO_5.out) hb); have n1_ := Aside0.mk (below_step (by repeat (first | (with_reducible first | exact HB.out | apply below_alloc | apply pw_below_drewN | apply below_drew1) | exact HB.out)) hb); have n2_ := Aside0.mk (hbox); have n3_ := Aside0.mk ((by rw [hg]; exact (below_size (by repeat (first | (with_reducible first | exact HB.out | apply below_alloc | apply pw_below_drewN | apply below_drew1) | exact HB.out))) : w.heap.size ≤ gb14003)); have n4_ := Aside0.mk ((by rw [hg]; exact (below_size (by repeat (first | (with_reducible first | exact HB.out | apply below_alloc | apply pw_below_drewN | apply below_drew1) | exact HB.out))) : w.heap.size ≤ gb14003)); clear HO_5; clear HB; have HO_5 := n0_; have HB := n1_; have BK14003 := n2_; have GW14003 := n3_; have GE14003 := n4_; clear n0_ n1_ n2_ n3_ n4_; clear hb hbox hg; have hcz24_0 : w23.cell? ⟨gb14003, 0, none⟩ = some (.int .i64 0) := (blk_cell BK14003.out 0).trans rfl; have hcz24_1 : w23.cell? ⟨gb14003, 1, none⟩ = some (.int .i64 0) := (blk_cell BK14003.out 1).trans rfl; have hcz24_2 : w23.cell? ⟨gb14003, 2, none⟩ = some (.int .i64 0) := (blk_cell BK14003.out 2).trans rfl; have hcz24_3 : w23.cell? ⟨gb14003, 3, none⟩ = some (.int .i64 0) := (blk_cell BK14003.out 3).trans rfl; have hcz24_4 : w23.cell? ⟨gb14003, 4, none⟩ = some (.int .i64 0) := (blk_cell BK14003.out 4).trans rfl; have hfz24_0 := blk_frozen BK14003.out 0; have hfz24_1 := blk_frozen BK14003.out 1; have hfz24_2 := blk_frozen BK14003.out 2; have hfz24_3 := blk_frozen BK14003.out 3; have hfz24_4 := blk_frozen BK14003.out 4; obtain ⟨Ao25, co25, eo25⟩ := Kd.R_slice HO_5.out; subst eo25; have p14004 : 0 ≤ ((ji10) : Int) := of_decide_eq_true (by first | (with_reducible assumption) | assumption); have q14004 : (ji10) < (x5_1.length : Int) := of_decide_eq_true (by first | (with_reducible assumption) | assumption); obtain ⟨ad14004, e14004, hx14004_0, hx14004_1⟩ := at_T36 (Kd.R_reads' HO_5.out).2.2 (ji10) p14004 q14004; cases e14004; have hn14004_0 : ad14004.block ≠ gb14003 := Kd.own_blk (Kd.R_ne HO_5.out BK14003.out (by decide)); have hn14004_1 : ad14004.block ≠ gb14003 := Kd.own_blk (Kd.R_ne HO_5.out BK14003.out (by decide)); have hn14004_2 : ad14004.block ≠ gb14003 := Kd.own_blk (Kd.R_ne HO_5.out BK14003.out (by decide)); have hn14004_3 : ad14004.block ≠ gb14003 := Kd.own_blk (Kd.R_ne HO_5.out BK14003.out (by decide)); have hn14004_4 : ad14004.block ≠ gb14003 := Kd.own_blk (Kd.R_ne HO_5.out BK14003.out (by decide)); replace hx14004_0 := (cell_far (p := ⟨gb14003, 0, none⟩) (by first | (rw [add_block]; exact hn14004_0) | (show (Addr.add _ _).block ≠ _; rw [add_block]; exact hn14004_0) | exact hn14004_0) (.int .i64 ((rd_T44 l0 x16_1).f0))).trans hx14004_0; replace hx14004_1 := (cell_far (p := ⟨gb14003, 0, none⟩) (by first | (rw [add_block]; exact hn14004_0) | (show (Addr.add _ _).block ≠ _; rw [add_block]; exact hn14004_0) | exact hn14004_0) (.int .i64 ((rd_T44 l0 x16_1).f0))).trans hx14004_1; replace hx14004_0 := (cell_far (p := ⟨gb14003, 1, none⟩) (by first | (rw [add_block]; exact hn14004_1) | (show (Addr.add _ _).block ≠ _; rw [add_block]; exact hn14004_1) | exact hn14004_1) (.int .i64 ((rd_T44 l0 x16_1).f1))).trans hx14004_0; replace hx14004_1 := (cell_far (p := ⟨gb14003, 1, none⟩) (by first | (rw [add_block]; exact hn14004_1) | (show (Addr.add _ _).block ≠ _; rw [add_block]; exact hn14004_1) | exact hn14004_1) (.int .i64 ((rd_T44 l0 x16_1).f1))).trans hx14004_1; replace hx14004_0 := (cell_far (p := ⟨gb14003, 2, none⟩) (by first | (rw [add_block]; exact hn14004_2) | (show (Addr.add _ _).block ≠ _; rw [add_block]; exact hn14004_2) | exact hn14004_2) (.int .i64 ((rd_T44 l0 x16_1).f2))).trans hx14004_0; replace hx14004_1 := (cell_far (p := ⟨gb14003, 2, none⟩) (by first | (rw [add_block]; exact hn14004_2) | (show (Addr.add _ _).block ≠ _; rw [add_block]; exact hn14004_2) | exact hn14004_2) (.int .i64 ((rd_T44 l0 x16_1).f2))).trans hx14004_1; replace hx14004_0 := (cell_far (p := ⟨gb14003, 3, none⟩) (by first | (rw [add_block]; exact hn14004_3) | (show (Addr.add _ _).block ≠ _; rw [add_block]; exact hn14004_3) | exact hn14004_3) (.int .i64 ((rd_T44 l0 x16_1).f3))).trans hx14004_0; replace hx14004_1 := (cell_far (p := ⟨gb14003, 3, none⟩) (by first | (rw [add_block]; exact hn14004_3) | (show (Addr.add _ _).block ≠ _; rw [add_block]; exact hn14004_3) | exact hn14004_3) (.int .i64 ((rd_T44 l0 x16_1).f3))).trans hx14004_1; replace hx14004_0 := (cell_far (p := ⟨gb14003, 4, none⟩) (by first | (rw [add_block]; exact hn14004_4) | (show (Addr.add _ _).block ≠ _; rw [add_block]; exact hn14004_4) | exact hn14004_4) (.int .i64 ((rd_T44 l0 x16_1).f4))).trans hx14004_0; replace hx14004_1 := (cell_far (p := ⟨gb14003, 4, none⟩) (by first | (rw [add_block]; exact hn14004_4) | (show (Addr.add _ _).block ≠ _; rw [add_block]; exact hn14004_4) | exact hn14004_4) (.int .i64 ((rd_T44 l0 x16_1).f4))).trans hx14004_1; (try have hy14004_0 := fun (n_ : Nat) => (show (((((((w23.drewN n_).setCell ⟨gb14003, 0, none⟩ (.int .i64 ((rd_T44 l0 x16_1).f0))).setCell ⟨gb14003, 1, none⟩ (.int .i64 ((rd_T44 l0 x16_1).f1))).setCell ⟨gb14003, 2, none⟩ (.int .i64 ((rd_T44 l0 x16_1).f2))).setCell ⟨gb14003, 3, none⟩ (.int .i64 ((rd_T44 l0 x16_1).f3))).setCell ⟨gb14003, 4, none⟩ (.int .i64 ((rd_T44 l0 x16_1).f4)))).cell? _ = some _ from hx14004_0)); (try have hy14004_1 := fun (n_ : Nat) => (show (((((((w23.drewN n_).setCell ⟨gb14003, 0, none⟩ (.int .i64 ((rd_T44 l0 x16_1).f0))).setCell ⟨gb14003, 1, none⟩ (.int .i64 ((rd_T44 l0 x16_1).f1))).setCell ⟨gb14003, 2, none⟩ (.int .i64 ((rd_T44 l0 x16_1).f2))).setCell ⟨gb14003, 3, none⟩ (.int .i64 ((rd_T44 l0 x16_1).f3))).setCell ⟨gb14003, 4, none⟩ (.int .i64 ((rd_T44 l0 x16_1).f4)))).cell? _ = some _ from hx14004_1)); clear hn14004_0; clear hn14004_1; clear hn14004_2; clear hn14004_3; clear hn14004_4; replace p14004 := eq_true p14004; replace q14004 := eq_true q14004) | ((with_reducible refine gate_builtin (b := .append) (xs := #[.tmp 22, .tmp 28]) rfl ?_); at_builtin; refine Kd.R_append k36 (w0 := w) w.heap.size rfl (.tmp 22) (.tmp 28) 25 36 (.agg #[(.int .i64 0), (.int .i64 0)]) 16 rfl Try.underlying25 info36 rfl (by decide) (by omega) (.slice (some ad14004) x5_1.length co25) x5_1 (⟨(rd_T44 l0 x16_1).f0, (rd_T44 l0 x16_1).f1⟩ : S36) [.int .i64 ((rd_T44 l0 x16_1).f0), .int .i64 ((rd_T44 l0 x16_1).f1)] (fun _ => True) (fun _ => False) rfl (by first | (go_simp; done) | (go_simp; rfl)) ?aP (fun _ hk => hk.elim) ?aF ?aO ?aB ?aS ?aL ?_; (case aP => exact k36_mkM _ _ _ (⟨(rd_T44 l0 x16_1).f0, (rd_T44 l0 x16_1).f1⟩ : S36)); (case aB => exact (by repeat (first | (with_reducible first | exact HB.out | apply below_alloc | apply pw_below_drewN | apply below_drew1 | refine below_set ?_ GE14003.out) | exact HB.out))); (case aF => exact (fun _ _ => trivial)); (case aO => exact (by (with_reducible repeat (first | apply Kd.R_alloc | apply Kd.R_drewN | apply Kd.R_drew)); exact Kd.R_mono (Kd.R_far (p := ⟨gb14003, 4, none⟩) (Kd.R_far (p := ⟨gb14003, 3, none⟩) (Kd.R_far (p := ⟨gb14003, 2, none⟩) (Kd.R_far (p := ⟨gb14003, 1, none⟩) (Kd.R_far (p := ⟨gb14003, 0, none⟩) (Kd.R_types HO_5.out BK14003.out (by decide)) (fun _ hk => hk.2) (.int .i64 ((rd_T44 l0 x16_1).f0))) (fun _ hk => hk.2) (.int .i64 ((rd_T44 l0 x16_1).f1))) (fun _ hk => hk.2) (.int .i64 ((rd_T44 l0 x16_1).f2))) (fun _ hk => hk.2) (.int .i64 ((rd_T44 l0 x16_1).f3))) (fun _ hk => hk.2) (.int .i64 ((rd_T44 l0 x16_1).f4))) (fun _ hk => trivial))); (case aS => exact (below_size (by repeat (first | (with_reducible first | exact HB.out | apply below_alloc | apply pw_below_drewN | apply below_drew1 | refine below_set ?_ GE14003.out) | exact HB.out)))); (case aL => have := LMc22.out; omega); intro v14007 w26 ho hb hg hat; rw [← Ny14006.out] at ho; have n0_ := Aside0.mk (blk_grown (g := gb14003) (o := .cells #[.int .i64 ((rd_T44 l0 x16_1).f0), .int .i64 ((rd_T44 l0 x16_1).f1), .int .i64 ((rd_T44 l0 x16_1).f2), .int .i64 ((rd_T44 l0 x16_1).f3), .int .i64 ((rd_T44 l0 x16_1).f4)] 44 (0, 0)) (by (with_reducible repeat (first | refine blk_drewN ?_ _ | refine blk_drew ?_ | refine blk_alloc ?_ _)); refine blk_put (cs := #[.int .i64 ((rd_T44 l0 x16_1).f0), .int .i64 ((rd_T44 l0 x16_1).f1), .int .i64 ((rd_T44 l0 x16_1).f2), .int .i64 ((rd_T44 l0 x16_1).f3), .int .i64 0]) ?_ 4 _ rfl; (with_reducible repeat (first | refine blk_drewN ?_ _ | refine blk_drew ?_ | refine blk_alloc ?_ _)); refine blk_put (cs := #[.int .i64 ((rd_T44 l0 x16_1).f0), .int .i64 ((rd_T44 l0 x16_1).f1), .int .i64 ((rd_T44 l0 x16_1).f2), .int .i64 0, .int .i64 0]) ?_ 3 _ rfl; (with_reducible repeat (first | refine blk_drewN ?_ _ | refine blk_drew ?_ | refine blk_alloc ?_ _)); refine blk_put (cs := #[.int .i64 ((rd_T44 l0 x16_1).f0), .int .i64 ((rd_T44 l0 x16_1).f1), .int .i64 0, .int .i64 0, .int .i64 0]) ?_ 2 _ rfl; (with_reducible repeat (first | refine blk_drewN ?_ _ | refine blk_drew ?_ | refine blk_alloc ?_ _)); refine blk_put (cs := #[.int .i64 ((rd_T44 l0 x16_1).f0), .int .i64 0, .int .i64 0, .int .i64 0, .int .i64 0]) ?_ 1 _ rfl; (with_reducible repeat (first | refine blk_drewN ?_ _ | refine blk_drew ?_ | refine blk_alloc ?_ _)); refine blk_put (cs := #[.int .i64 0, .int .i64 0, .int .i64 0, .int .i64 0, .int .i64 0]) ?_ 0 _ rfl; (with_reducible repeat (first | refine blk_drewN ?_ _ | refine blk_drew ?_ | refine blk_alloc ?_ _)); exact BK14003.out) hg (Kd.R_ne HO_5.out BK14003.out (by decide))); have n1_ := Aside0.mk (hb); have n2_ := Aside0.mk (ho); clear BK14003; clear HB; clear HO_5; have BK14003 := n0_; have HB := n1_; have HO14008 := n2_; clear n0_ n1_ n2_; clear ho hb hg hat)); try go_wp2_with (first | ((with_reducible refine gate_dst (N := 7) rfl ?_); refine box_event ?hg (N := 7) ?hd (cs := #[.int .i64 0, .int .i64 0, .int .i64 0, .int .i64 0, .int .i64 0]) (t := 44) ?hr ?_; (case hd => rfl); (case hg => rfl); (case hr => first | (go_simp; done) | (go_simp; rfl)); intro gb14003 hg w23 hbox hb; have n0_ := Aside0.mk (Kd.R_below (by (with_reducible repeat (first | apply Kd.R_alloc | apply Kd.R_drewN | apply Kd.R_drew)); exact HO_5.out) hb); have n1_ := Aside0.mk (below_step (by repeat (first | (with_reducible first | exact HB.out | apply below_alloc | apply pw_below_drewN | apply below_drew1) | exact HB.out)) hb); have n2_ := Aside0.mk (hbox); have n3_ := Aside0.mk ((by rw [hg]; exact (below_size (by repeat (first | (with_reducible first | exact HB.out | apply below_alloc | apply pw_below_drewN | apply below_drew1) | exact HB.out))) : w.heap.size ≤ gb14003)); have n4_ := Aside0.mk ((by rw [hg]; exact (below_size (by repeat (first | (with_reducible first | exact HB.out | apply below_alloc | apply pw_below_drewN | apply below_drew1) | exact HB.out))) : w.heap.size ≤ gb14003)); clear HO_5; clear HB; have HO_5 := n0_; have HB := n1_; have BK14003 := n2_; have GW14003 := n3_; have GE14003 := n4_; clear n0_ n1_ n2_ n3_ n4_; clear hb hbox hg; have hcz24_0 : w23.cell? ⟨gb14003, 0, none⟩ = some (.int .i64 0) := (blk_cell BK14003.out 0).trans rfl; have hcz24_1 : w23.cell? ⟨gb14003, 1, none⟩ = some (.int .i64 0) := (blk_cell BK14003.out 1).trans rfl; have hcz24_2 : w23.cell? ⟨gb14003, 2, none⟩ = some (.int .i64 0) := (blk_cell BK14003.out 2).trans rfl; have hcz24_3 : w23.cell? ⟨gb14003, 3, none⟩ = some (.int .i64 0) := (blk_cell BK14003.out 3).trans rfl; have hcz24_4 : w23.cell? ⟨gb14003, 4, none⟩ = some (.int .i64 0) := (blk_cell BK14003.out 4).trans rfl; have hfz24_0 := blk_frozen BK14003.out 0; have hfz24_1 := blk_frozen BK14003.out 1; have hfz24_2 := blk_frozen BK14003.out 2; have hfz24_3 := blk_frozen BK14003.out 3; have hfz24_4 := blk_frozen BK14003.out 4; obtain ⟨Ao25, co25, eo25⟩ := Kd.R_slice HO_5.out; subst eo25; have p14004 : 0 ≤ ((ji10) : Int) := of_decide_eq_true (by first | (with_reducible assumption) | assumption); have q14004 : (ji10) < (x5_1.length : Int) := of_decide_eq_true (by first | (with_reducible assumption) | assumption); obtain ⟨ad14004, e14004, hx14004_0, hx14004_1⟩ := at_T36 (Kd.R_reads' HO_5.out).2.2 (ji10) p14004 q14004; cases e14004; have hn14004_0 : ad14004.block ≠ gb14003 := Kd.own_blk (Kd.R_ne HO_5.out BK14003.out (by decide)); have hn14004_1 : ad14004.block ≠ gb14003 := Kd.own_blk (Kd.R_ne HO_5.out BK14003.out (by decide)); have hn14004_2 : ad14004.block ≠ gb14003 := Kd.own_blk (Kd.R_ne HO_5.out BK14003.out (by decide)); have hn14004_3 : ad14004.block ≠ gb14003 := Kd.own_blk (Kd.R_ne HO_5.out BK14003.out (by decide)); have hn14004_4 : ad14004.block ≠ gb14003 := Kd.own_blk (Kd.R_ne HO_5.out BK14003.out (by decide)); replace hx14004_0 := (cell_far (p := ⟨gb14003, 0, none⟩) (by first | (rw [add_block]; exact hn14004_0) | (show (Addr.add _ _).block ≠ _; rw [add_block]; exact hn14004_0) | exact hn14004_0) (.int .i64 ((rd_T44 l0 x16_1).f0))).trans hx14004_0; replace hx14004_1 := (cell_far (p := ⟨gb14003, 0, none⟩) (by first | (rw [add_block]; exact hn14004_0) | (show (Addr.add _ _).block ≠ _; rw [add_block]; exact hn14004_0) | exact hn14004_0) (.int .i64 ((rd_T44 l0 x16_1).f0))).trans hx14004_1; replace hx14004_0 := (cell_far (p := ⟨gb14003, 1, none⟩) (by first | (rw [add_block]; exact hn14004_1) | (show (Addr.add _ _).block ≠ _; rw [add_block]; exact hn14004_1) | exact hn14004_1) (.int .i64 ((rd_T44 l0 x16_1).f1))).trans hx14004_0; replace hx14004_1 := (cell_far (p := ⟨gb14003, 1, none⟩) (by first | (rw [add_block]; exact hn14004_1) | (show (Addr.add _ _).block ≠ _; rw [add_block]; exact hn14004_1) | exact hn14004_1) (.int .i64 ((rd_T44 l0 x16_1).f1))).trans hx14004_1; replace hx14004_0 := (cell_far (p := ⟨gb14003, 2, none⟩) (by first | (rw [add_block]; exact hn14004_2) | (show (Addr.add _ _).block ≠ _; rw [add_block]; exact hn14004_2) | exact hn14004_2) (.int .i64 ((rd_T44 l0 x16_1).f2))).trans hx14004_0; replace hx14004_1 := (cell_far (p := ⟨gb14003, 2, none⟩) (by first | (rw [add_block]; exact hn14004_2) | (show (Addr.add _ _).block ≠ _; rw [add_block]; exact hn14004_2) | exact hn14004_2) (.int .i64 ((rd_T44 l0 x16_1).f2))).trans hx14004_1; replace hx14004_0 := (cell_far (p := ⟨gb14003, 3, none⟩) (by first | (rw [add_block]; exact hn14004_3) | (show (Addr.add _ _).block ≠ _; rw [add_block]; exact hn14004_3) | exact hn14004_3) (.int .i64 ((rd_T44 l0 x16_1).f3))).trans hx14004_0; replace hx14004_1 := (cell_far (p := ⟨gb14003, 3, none⟩) (by first | (rw [add_block]; exact hn14004_3) | (show (Addr.add _ _).block ≠ _; rw [add_block]; exact hn14004_3) | exact hn14004_3) (.int .i64 ((rd_T44 l0 x16_1).f3))).trans hx14004_1; replace hx14004_0 := (cell_far (p := ⟨gb14003, 4, none⟩) (by first | (rw [add_block]; exact hn14004_4) | (show (Addr.add _ _).block ≠ _; rw [add_block]; exact hn14004_4) | exact hn14004_4) (.int .i64 ((rd_T44 l0 x16_1).f4))).trans hx14004_0; replace hx14004_1 := (cell_far (p := ⟨gb14003, 4, none⟩) (by first | (rw [add_block]; exact hn14004_4) | (show (Addr.add _ _).block ≠ _; rw [add_block]; exact hn14004_4) | exact hn14004_4) (.int .i64 ((rd_T44 l0 x16_1).f4))).trans hx14004_1; (try have hy14004_0 := fun (n_ : Nat) => (show (((((((w23.drewN n_).setCell ⟨gb14003, 0, none⟩ (.int .i64 ((rd_T44 l0 x16_1).f0))).setCell ⟨gb14003, 1, none⟩ (.int .i64 ((rd_T44 l0 x16_1).f1))).setCell ⟨gb14003, 2, none⟩ (.int .i64 ((rd_T44 l0 x16_1).f2))).setCell ⟨gb14003, 3, none⟩ (.int .i64 ((rd_T44 l0 x16_1).f3))).setCell ⟨gb14003, 4, none⟩ (.int .i64 ((rd_T44 l0 x16_1).f4)))).cell? _ = some _ from hx14004_0)); (try have hy14004_1 := fun (n_ : Nat) => (show (((((((w23.drewN n_).setCell ⟨gb14003, 0, none⟩ (.int .i64 ((rd_T44 l0 x16_1).f0))).setCell ⟨gb14003, 1, none⟩ (.int .i64 ((rd_T44 l0 x16_1).f1))).setCell ⟨gb14003, 2, none⟩ (.int .i64 ((rd_T44 l0 x16_1).f2))).setCell ⟨gb14003, 3, none⟩ (.int .i64 ((rd_T44 l0 x16_1).f3))).setCell ⟨gb14003, 4, none⟩ (.int .i64 ((rd_T44 l0 x16_1).f4)))).cell? _ = some _ from hx14004_1)); clear hn14004_0; clear hn14004_1; clear hn14004_2; clear hn14004_3; clear hn14004_4; replace p14004 := eq_true p14004; replace q14004 := eq_true q14004) | ((with_reducible refine gate_builtin (b := .append) (xs := #[.tmp 22, .tmp 28]) rfl ?_); at_builtin; refine Kd.R_append k36 (w0 := w) w.heap.size rfl (.tmp 22) (.tmp 28) 25 36 (.agg #[(.int .i64 0), (.int .i64 0)]) 16 rfl Try.underlying25 info36 rfl (by decide) (by omega) (.slice (some ad14004) x5_1.length co25) x5_1 (⟨(rd_T44 l0 x16_1).f0, (rd_T44 l0 x16_1).f1⟩ : S36) [.int .i64 ((rd_T44 l0 x16_1).f0), .int .i64 ((rd_T44 l0 x16_1).f1)] (fun _ => True) (fun _ => False) rfl (by first | (go_simp; done) | (go_simp; rfl)) ?aP (fun _ hk => hk.elim) ?aF ?aO ?aB ?aS ?aL ?_; (case aP => exact k36_mkM _ _ _ (⟨(rd_T44 l0 x16_1).f0, (rd_T44 l0 x16_1).f1⟩ : S36)); (case aB => exact (by repeat (first | (with_reducible first | exact HB.out | apply below_alloc | apply pw_below_drewN | apply below_drew1 | refine below_set ?_ GE14003.out) | exact HB.out))); (case aF => exact (fun _ _ => trivial)); (case aO => exact (by (with_reducible repeat (first | apply Kd.R_alloc | apply Kd.R_drewN | apply Kd.R_drew)); exact Kd.R_mono (Kd.R_far (p := ⟨gb14003, 4, none⟩) (Kd.R_far (p := ⟨gb14003, 3, none⟩) (Kd.R_far (p := ⟨gb14003, 2, none⟩) (Kd.R_far (p := ⟨gb14003, 1, none⟩) (Kd.R_far (p := ⟨gb14003, 0, none⟩) (Kd.R_types HO_5.out BK14003.out (by decide)) (fun _ hk => hk.2) (.int .i64 ((rd_T44 l0 x16_1).f0))) (fun _ hk => hk.2) (.int .i64 ((rd_T44 l0 x16_1).f1))) (fun _ hk => hk.2) (.int .i64 ((rd_T44 l0 x16_1).f2))) (fun _ hk => hk.2) (.int .i64 ((rd_T44 l0 x16_1).f3))) (fun _ hk => hk.2) (.int .i64 ((rd_T44 l0 x16_1).f4))) (fun _ hk => trivial))); (case aS => exact (below_size (by repeat (first | (with_reducible first | exact HB.out | apply below_alloc | apply pw_below_drewN | apply below_drew1 | refine below_set ?_ GE14003.out) | exact HB.out)))); (case aL => have := LMc22.out; omega); intro v14007 w26 ho hb hg hat; rw [← Ny14006.out] at ho; have n0_ := Aside0.mk (blk_grown (g := gb14003) (o := .cells #[.int .i64 ((rd_T44 l0 x16_1).f0), .int .i64 ((rd_T44 l0 x16_1).f1), .int .i64 ((rd_T44 l0 x16_1).f2), .int .i64 ((rd_T44 l0 x16_1).f3), .int .i64 ((rd_T44 l0 x16_1).f4)] 44 (0, 0)) (by (with_reducible repeat (first | refine blk_drewN ?_ _ | refine blk_drew ?_ | refine blk_alloc ?_ _)); refine blk_put (cs := #[.int .i64 ((rd_T44 l0 x16_1).f0), .int .i64 ((rd_T44 l0 x16_1).f1), .int .i64 ((rd_T44 l0 x16_1).f2), .int .i64 ((rd_T44 l0 x16_1).f3), .int .i64 0]) ?_ 4 _ rfl; (with_reducible repeat (first | refine blk_drewN ?_ _ | refine blk_drew ?_ | refine blk_alloc ?_ _)); refine blk_put (cs := #[.int .i64 ((rd_T44 l0 x16_1).f0), .int .i64 ((rd_T44 l0 x16_1).f1), .int .i64 ((rd_T44 l0 x16_1).f2), .int .i64 0, .int .i64 0]) ?_ 3 _ rfl; (with_reducible repeat (first | refine blk_drewN ?_ _ | refine blk_drew ?_ | refine blk_alloc ?_ _)); refine blk_put (cs := #[.int .i64 ((rd_T44 l0 x16_1).f0), .int .i64 ((rd_T44 l0 x16_1).f1), .int .i64 0, .int .i64 0, .int .i64 0]) ?_ 2 _ rfl; (with_reducible repeat (first | refine blk_drewN ?_ _ | refine blk_drew ?_ | refine blk_alloc ?_ _)); refine blk_put (cs := #[.int .i64 ((rd_T44 l0 x16_1).f0), .int .i64 0, .int .i64 0, .int .i64 0, .int .i64 0]) ?_ 1 _ rfl; (with_reducible repeat (first | refine blk_drewN ?_ _ | refine blk_drew ?_ | refine blk_alloc ?_ _)); refine blk_put (cs := #[.int .i64 0, .int .i64 0, .int .i64 0, .int .i64 0, .int .i64 0]) ?_ 0 _ rfl; (with_reducible repeat (first | refine blk_drewN ?_ _ | refine blk_drew ?_ | refine blk_alloc ?_ _)); exact BK14003.out) hg (Kd.R_ne HO_5.out BK14003.out (by decide))); have n1_ := Aside0.mk (hb); have n2_ := Aside0.mk (ho); clear BK14003; clear HB; clear HO_5; have BK14003 := n0_; have HB := n1_; have HO14008 := n2_; clear n0_ n1_ n2_; clear ho hb hg hat)))
             go_roundg k1
             case measure => have := HK1.out; omega
             case rel => exact ⟨(y14006), (wrap64 (x16_1 + 1)), (by first | rfl | (simp; done) | (simp [*]; done)), H', ⟨by have := HK1.out; omega⟩, ⟨by (with_reducible repeat (first | apply Kd.R_alloc | apply Kd.R_drewN | apply Kd.R_drew)); exact HO14008.out⟩, ⟨by repeat (first | (with_reducible first | exact HB.out | apply below_alloc | apply pw_below_drewN | apply below_drew1 | refine below_set ?_ GE14003.out) | exact HB.out)⟩⟩
            ·rw [if_neg c22] at H
             exact absurd H (by simp)
          ·rw [if_neg c12] at H
           exact absurd H (by simp)
         ·rw [if_neg c11] at H
          exact absurd H (by simp)
        ·rw [if_neg c9] at H
         have c9b0 : decide (0 < (x5_1.length : Int)) = false := decide_eq_false c9
         have c9b1 : decide (0 < x5_1.length) = false := decide_eq_false (by omega)
         clear c9
         by_cases c27 : x5_1.length < 8796093022208
         ·rw [if_pos c27] at H
          have LMc27 := Aside0.mk c27
          clear c27
          obtain ⟨y14009, hy14009⟩ : ∃ y_ : List (S36), y_ = (x5_1 ++ [(⟨(rd_T44 l0 x16_1).f0, (rd_T44 l0 x16_1).f1⟩ : S36)]) := ⟨_, rfl⟩
          replace H : (reel_Lost.l0 k1 y14009 l0 (l0.length : Int) (wrap64 (x16_1 + 1))) = some (r1, r2) := by first | (rw [hy14009]; with_reducible exact H) | (have H2_ := (Option.bind_some _ _).symm.trans H; rw [hy14009]; with_reducible exact H2_) | (have H2_ := (Option.bind_some _ _).symm.trans H; with_reducible exact H2_) | with_reducible exact H | (rw [hy14009]; exact H) | exact H
          have Ny14009 := Aside0.mk hy14009
          clear hy14009
          have H' := Aside0.mk H
          clear H
          have p14002 : 0 ≤ (x16_1 : Int) := of_decide_eq_true (by first | (with_reducible assumption) | assumption)
          have q14002 : x16_1 < (l0.length : Int) := of_decide_eq_true (by first | (with_reducible assumption) | assumption)
          obtain ⟨ad14002, e14002, hx14002_0, hx14002_1, hx14002_2, hx14002_3, hx14002_4⟩ := at_T44 HR0.out x16_1 p14002 q14002
          cases e14002
          replace hx14002_0 := (HB.out.cell (World.block_lt_of_cell? w _ hx14002_0)).trans hx14002_0
          replace hx14002_1 := (HB.out.cell (World.block_lt_of_cell? w _ hx14002_1)).trans hx14002_1
          replace hx14002_2 := (HB.out.cell (World.block_lt_of_cell? w _ hx14002_2)).trans hx14002_2
          replace hx14002_3 := (HB.out.cell (World.block_lt_of_cell? w _ hx14002_3)).trans hx14002_3
          replace hx14002_4 := (HB.out.cell (World.block_lt_of_cell? w _ hx14002_4)).trans hx14002_4
          replace p14002 := eq_true p14002
          replace q14002 := eq_true q14002
          go_wp2_with (first | ((with_reducible refine gate_dst (N := 7) rfl ?_); refine box_event ?hg (N := 7) ?hd (cs := #[.int .i64 0, .int .i64 0, .int .i64 0, .int .i64 0, .int .i64 0]) (t := 44) ?hr ?_; (case hd => rfl); (case hg => rfl); (case hr => first | (go_simp; done) | (go_simp; rfl)); intro gb14003 hg w28 hbox hb; have n0_ := Aside0.mk (Kd.R_below (by (with_reducible repeat (first | apply Kd.R_alloc | apply Kd.R_drewN | apply Kd.R_drew)); exact HO_5.out) hb); have n1_ := Aside0.mk (below_step (by repeat (first | (with_reducible first | exact HB.out | apply below_alloc | apply pw_below_drewN | apply below_drew1) | exact HB.out)) hb); have n2_ := Aside0.mk (hbox); have n3_ := Aside0.mk ((by rw [hg]; exact (below_size (by repeat (first | (with_reducible first | exact HB.out | apply below_alloc | apply pw_below_drewN | apply below_drew1) | exact HB.out))) : w.heap.size ≤ gb14003)); have n4_ := Aside0.mk ((by rw [hg]; exact (below_size (by repeat (first | (with_reducible first | exact HB.out | apply below_alloc | apply pw_below_drewN | apply below_drew1) | exact HB.out))) : w.heap.size ≤ gb14003)); clear HO_5; clear HB; have HO_5 := n0_; have HB := n1_; have BK14003 := n2_; have GW14003 := n3_; have GE14003 := n4_; clear n0_ n1_ n2_ n3_ n4_; clear hb hbox hg; have hcz29_0 : w28.cell? ⟨gb14003, 0, none⟩ = some (.int .i64 0) := (blk_cell BK14003.out 0).trans rfl; have hcz29_1 : w28.cell? ⟨gb14003, 1, none⟩ = some (.int .i64 0) := (blk_cell BK14003.out 1).trans rfl; have hcz29_2 : w28.cell? ⟨gb14003, 2, none⟩ = some (.int .i64 0) := (blk_cell BK14003.out 2).trans rfl; have hcz29_3 : w28.cell? ⟨gb14003, 3, none⟩ = some (.int .i64 0) := (blk_cell BK14003.out 3).trans rfl; have hcz29_4 : w28.cell? ⟨gb14003, 4, none⟩ = some (.int .i64 0) := (blk_cell BK14003.out 4).trans rfl; have hfz29_0 := blk_frozen BK14003.out 0; have hfz29_1 := blk_frozen BK14003.out 1; have hfz29_2 := blk_frozen BK14003.out 2; have hfz29_3 := blk_frozen BK14003.out 3; have hfz29_4 := blk_frozen BK14003.out 4; obtain ⟨Ao30, co30, eo30⟩ := Kd.R_slice HO_5.out; subst eo30) | ((with_reducible refine gate_builtin (b := .append) (xs := #[.tmp 22, .tmp 28]) rfl ?_); at_builtin; refine Kd.R_append k36 (w0 := w) w.heap.size rfl (.tmp 22) (.tmp 28) 25 36 (.agg #[(.int .i64 0), (.int .i64 0)]) 16 rfl Try.underlying25 info36 rfl (by decide) (by omega) (.slice Ao30 x5_1.length co30) x5_1 (⟨(rd_T44 l0 x16_1).f0, (rd_T44 l0 x16_1).f1⟩ : S36) [.int .i64 ((rd_T44 l0 x16_1).f0), .int .i64 ((rd_T44 l0 x16_1).f1)] (fun _ => True) (fun _ => False) rfl (by first | (go_simp; done) | (go_simp; rfl)) ?aP (fun _ hk => hk.elim) ?aF ?aO ?aB ?aS ?aL ?_; (case aP => exact k36_mkM _ _ _ (⟨(rd_T44 l0 x16_1).f0, (rd_T44 l0 x16_1).f1⟩ : S36)); (case aB => exact (by repeat (first | (with_reducible first | exact HB.out | apply below_alloc | apply pw_below_drewN | apply below_drew1 | refine below_set ?_ GE14003.out) | exact HB.out))); (case aF => exact (fun _ _ => trivial)); (case aO => exact (by (with_reducible repeat (first | apply Kd.R_alloc | apply Kd.R_drewN | apply Kd.R_drew)); exact Kd.R_mono (Kd.R_far (p := ⟨gb14003, 4, none⟩) (Kd.R_far (p := ⟨gb14003, 3, none⟩) (Kd.R_far (p := ⟨gb14003, 2, none⟩) (Kd.R_far (p := ⟨gb14003, 1, none⟩) (Kd.R_far (p := ⟨gb14003, 0, none⟩) (Kd.R_types HO_5.out BK14003.out (by decide)) (fun _ hk => hk.2) (.int .i64 ((rd_T44 l0 x16_1).f0))) (fun _ hk => hk.2) (.int .i64 ((rd_T44 l0 x16_1).f1))) (fun _ hk => hk.2) (.int .i64 ((rd_T44 l0 x16_1).f2))) (fun _ hk => hk.2) (.int .i64 ((rd_T44 l0 x16_1).f3))) (fun _ hk => hk.2) (.int .i64 ((rd_T44 l0 x16_1).f4))) (fun _ hk => trivial))); (case aS => exact (below_size (by repeat (first | (with_reducible first | exact HB.out | apply below_alloc | apply pw_below_drewN | apply below_drew1 | refine below_set ?_ GE14003.out) | exact HB.out)))); (case aL => have := LMc27.out; omega); intro v14010 w31 ho hb hg hat; rw [← Ny14009.out] at ho; have n0_ := Aside0.mk (blk_grown (g := gb14003) (o := .cells #[.int .i64 ((rd_T44 l0 x16_1).f0), .int .i64 ((rd_T44 l0 x16_1).f1), .int .i64 ((rd_T44 l0 x16_1).f2), .int .i64 ((rd_T44 l0 x16_1).f3), .int .i64 ((rd_T44 l0 x16_1).f4)] 44 (0, 0)) (by (with_reducible repeat (first | refine blk_drewN ?_ _ | refine blk_drew ?_ | refine blk_alloc ?_ _)); refine blk_put (cs := #[.int .i64 ((rd_T44 l0 x16_1).f0), .int .i64 ((rd_T44 l0 x16_1).f1), .int .i64 ((rd_T44 l0 x16_1).f2), .int .i64 ((rd_T44 l0 x16_1).f3), .int .i64 0]) ?_ 4 _ rfl; (with_reducible repeat (first | refine blk_drewN ?_ _ | refine blk_drew ?_ | refine blk_alloc ?_ _)); refine blk_put (cs := #[.int .i64 ((rd_T44 l0 x16_1).f0), .int .i64 ((rd_T44 l0 x16_1).f1), .int .i64 ((rd_T44 l0 x16_1).f2), .int .i64 0, .int .i64 0]) ?_ 3 _ rfl; (with_reducible repeat (first | refine blk_drewN ?_ _ | refine blk_drew ?_ | refine blk_alloc ?_ _)); refine blk_put (cs := #[.int .i64 ((rd_T44 l0 x16_1).f0), .int .i64 ((rd_T44 l0 x16_1).f1), .int .i64 0, .int .i64 0, .int .i64 0]) ?_ 2 _ rfl; (with_reducible repeat (first | refine blk_drewN ?_ _ | refine blk_drew ?_ | refine blk_alloc ?_ _)); refine blk_put (cs := #[.int .i64 ((rd_T44 l0 x16_1).f0), .int .i64 0, .int .i64 0, .int .i64 0, .int .i64 0]) ?_ 1 _ rfl; (with_reducible repeat (first | refine blk_drewN ?_ _ | refine blk_drew ?_ | refine blk_alloc ?_ _)); refine blk_put (cs := #[.int .i64 0, .int .i64 0, .int .i64 0, .int .i64 0, .int .i64 0]) ?_ 0 _ rfl; (with_reducible repeat (first | refine blk_drewN ?_ _ | refine blk_drew ?_ | refine blk_alloc ?_ _)); exact BK14003.out) hg (Kd.R_ne HO_5.out BK14003.out (by decide))); have n1_ := Aside0.mk (hb); have n2_ := Aside0.mk (ho); clear BK14003; clear HB; clear HO_5; have BK14003 := n0_; have HB := n1_; have HO14011 := n2_; clear n0_ n1_ n2_; clear ho hb hg hat))
          repeat (go_quiet (first | ((with_reducible refine gate_dst (N := 7) rfl ?_); refine box_event ?hg (N := 7) ?hd (cs := #[.int .i64 0, .int .i64 0, .int .i64 0, .int .i64 0, .int .i64 0]) (t := 44) ?hr ?_; (case hd => rfl); (case hg => rfl); (case hr => first | (go_simp; done) | (go_simp; rfl)); intro gb14003 hg w28 hbox hb; have n0_ := Aside0.mk (Kd.R_below (by (with_reducible repeat (first | apply Kd.R_alloc | apply Kd.R_drewN | apply Kd.R_drew)); exact HO_5.out) hb); have n1_ := Aside0.mk (below_step (by repeat (first | (with_reducible first | exact HB.out | apply below_alloc | apply pw_below_drewN | apply below_drew1) | exact HB.out)) hb); have n2_ := Aside0.mk (hbox); have n3_ := Aside0.mk ((by rw [hg]; exact (below_size (by repeat (first | (with_reducible first | exact HB.out | apply below_alloc | apply pw_below_drewN | apply below_drew1) | exact HB.out))) : w.heap.size ≤ gb14003)); have n4_ := Aside0.mk ((by rw [hg]; exact (below_size (by repeat (first | (with_reducible first | exact HB.out | apply below_alloc | apply pw_below_drewN | apply below_drew1) | exact HB.out))) : w.heap.size ≤ gb14003)); clear HO_5; clear HB; have HO_5 := n0_; have HB := n1_; have BK14003 := n2_; have GW14003 := n3_; have GE14003 := n4_; clear n0_ n1_ n2_ n3_ n4_; clear hb hbox hg; have hcz29_0 : w28.cell? ⟨gb14003, 0, none⟩ = some (.int .i64 0) := (blk_cell BK14003.out 0).trans rfl; have hcz29_1 : w28.cell? ⟨gb14003, 1, none⟩ = some (.int .i64 0) := (blk_cell BK14003.out 1).trans rfl; have hcz29_2 : w28.cell? ⟨gb14003, 2, none⟩ = some (.int .i64 0) := (blk_cell BK14003.out 2).trans rfl; have hcz29_3 : w28.cell? ⟨gb14003, 3, none⟩ = some (.int .i64 0) := (blk_cell BK14003.out 3).trans rfl; have hcz29_4 : w28.cell? ⟨gb14003, 4, none⟩ = some (.int .i64 0) := (blk_cell BK14003.out 4).trans rfl; have hfz29_0 := blk_frozen BK14003.out 0; have hfz29_1 := blk_frozen BK14003.out 1; have hfz29_2 := blk_frozen BK14003.out 2; have hfz29_3 := blk_frozen BK14003.out 3; have hfz29_4 := blk_frozen BK14003.out 4; obtain ⟨Ao30, co30, eo30⟩ := Kd.R_slice HO_5.out; subst eo30) | ((with_reducible refine gate_builtin (b := .append) (xs := #[.tmp 22, .tmp 28]) rfl ?_); at_builtin; refine Kd.R_append k36 (w0 := w) w.heap.size rfl (.tmp 22) (.tmp 28) 25 36 (.agg #[(.int .i64 0), (.int .i64 0)]) 16 rfl Try.underlying25 info36 rfl (by decide) (by omega) (.slice Ao30 x5_1.length co30) x5_1 (⟨(rd_T44 l0 x16_1).f0, (rd_T44 l0 x16_1).f1⟩ : S36) [.int .i64 ((rd_T44 l0 x16_1).f0), .int .i64 ((rd_T44 l0 x16_1).f1)] (fun _ => True) (fun _ => False) rfl (by first | (go_simp; done) | (go_simp; rfl)) ?aP (fun _ hk => hk.elim) ?aF ?aO ?aB ?aS ?aL ?_; (case aP => exact k36_mkM _ _ _ (⟨(rd_T44 l0 x16_1).f0, (rd_T44 l0 x16_1).f1⟩ : S36)); (case aB => exact (by repeat (first | (with_reducible first | exact HB.out | apply below_alloc | apply pw_below_drewN | apply below_drew1 | refine below_set ?_ GE14003.out) | exact HB.out))); (case aF => exact (fun _ _ => trivial)); (case aO => exact (by (with_reducible repeat (first | apply Kd.R_alloc | apply Kd.R_drewN | apply Kd.R_drew)); exact Kd.R_mono (Kd.R_far (p := ⟨gb14003, 4, none⟩) (Kd.R_far (p := ⟨gb14003, 3, none⟩) (Kd.R_far (p := ⟨gb14003, 2, none⟩) (Kd.R_far (p := ⟨gb14003, 1, none⟩) (Kd.R_far (p := ⟨gb14003, 0, none⟩) (Kd.R_types HO_5.out BK14003.out (by decide)) (fun _ hk => hk.2) (.int .i64 ((rd_T44 l0 x16_1).f0))) (fun _ hk => hk.2) (.int .i64 ((rd_T44 l0 x16_1).f1))) (fun _ hk => hk.2) (.int .i64 ((rd_T44 l0 x16_1).f2))) (fun _ hk => hk.2) (.int .i64 ((rd_T44 l0 x16_1).f3))) (fun _ hk => hk.2) (.int .i64 ((rd_T44 l0 x16_1).f4))) (fun _ hk => trivial))); (case aS => exact (below_size (by repeat (first | (with_reducible first | exact HB.out | apply below_alloc | apply pw_below_drewN | apply below_drew1 | refine below_set ?_ GE14003.out) | exact HB.out)))); (case aL => have := LMc27.out; omega); intro v14010 w31 ho hb hg hat; rw [← Ny14009.out] at ho; have n0_ := Aside0.mk (blk_grown (g := gb14003) (o := .cells #[.int .i64 ((rd_T44 l0 x16_1).f0), .int .i64 ((rd_T44 l0 x16_1).f1), .int .i64 ((rd_T44 l0 x16_1).f2), .int .i64 ((rd_T44 l0 x16_1).f3), .int .i64 ((rd_T44 l0 x16_1).f4)] 44 (0, 0)) (by (with_reducible repeat (first | refine blk_drewN ?_ _ | refine blk_drew ?_ | refine blk_alloc ?_ _)); refine blk_put (cs := #[.int .i64 ((rd_T44 l0 x16_1).f0), .int .i64 ((rd_T44 l0 x16_1).f1), .int .i64 ((rd_T44 l0 x16_1).f2), .int .i64 ((rd_T44 l0 x16_1).f3), .int .i64 0]) ?_ 4 _ rfl; (with_reducible repeat (first | refine blk_drewN ?_ _ | refine blk_drew ?_ | refine blk_alloc ?_ _)); refine blk_put (cs := #[.int .i64 ((rd_T44 l0 x16_1).f0), .int .i64 ((rd_T44 l0 x16_1).f1), .int .i64 ((rd_T44 l0 x16_1).f2), .int .i64 0, .int .i64 0]) ?_ 3 _ rfl; (with_reducible repeat (first | refine blk_drewN ?_ _ | refine blk_drew ?_ | refine blk_alloc ?_ _)); refine blk_put (cs := #[.int .i64 ((rd_T44 l0 x16_1).f0), .int .i64 ((rd_T44 l0 x16_1).f1), .int .i64 0, .int .i64 0, .int .i64 0]) ?_ 2 _ rfl; (with_reducible repeat (first | refine blk_drewN ?_ _ | refine blk_drew ?_ | refine blk_alloc ?_ _)); refine blk_put (cs := #[.int .i64 ((rd_T44 l0 x16_1).f0), .int .i64 0, .int .i64 0, .int .i64 0, .int .i64 0]) ?_ 1 _ rfl; (with_reducible repeat (first | refine blk_drewN ?_ _ | refine blk_drew ?_ | refine blk_alloc ?_ _)); refine blk_put (cs := #[.int .i64 0, .int .i64 0, .int .i64 0, .int .i64 0, .int .i64 0]) ?_ 0 _ rfl; (with_reducible repeat (first | refine blk_drewN ?_ _ | refine blk_drew ?_ | refine blk_alloc ?_ _)); exact BK14003.out) hg (Kd.R_ne HO_5.out BK14003.out (by decide))); have n1_ := Aside0.mk (hb); have n2_ := Aside0.mk (ho); clear BK14003; clear HB; clear HO_5; have BK14003 := n0_; have HB := n1_; have HO14011 := n2_; clear n0_ n1_ n2_; clear ho hb hg hat)); try go_wp2_with (first | ((with_reducible refine gate_dst (N := 7) rfl ?_); refine box_event ?hg (N := 7) ?hd (cs := #[.int .i64 0, .int .i64 0, .int .i64 0, .int .i64 0, .int .i64 0]) (t := 44) ?hr ?_; (case hd => rfl); (case hg => rfl); (case hr => first | (go_simp; done) | (go_simp; rfl)); intro gb14003 hg w28 hbox hb; have n0_ := Aside0.mk (Kd.R_below (by (with_reducible repeat (first | apply Kd.R_alloc | apply Kd.R_drewN | apply Kd.R_drew)); exact HO_5.out) hb); have n1_ := Aside0.mk (below_step (by repeat (first | (with_reducible first | exact HB.out | apply below_alloc | apply pw_below_drewN | apply below_drew1) | exact HB.out)) hb); have n2_ := Aside0.mk (hbox); have n3_ := Aside0.mk ((by rw [hg]; exact (below_size (by repeat (first | (with_reducible first | exact HB.out | apply below_alloc | apply pw_below_drewN | apply below_drew1) | exact HB.out))) : w.heap.size ≤ gb14003)); have n4_ := Aside0.mk ((by rw [hg]; exact (below_size (by repeat (first | (with_reducible first | exact HB.out | apply below_alloc | apply pw_below_drewN | apply below_drew1) | exact HB.out))) : w.heap.size ≤ gb14003)); clear HO_5; clear HB; have HO_5 := n0_; have HB := n1_; have BK14003 := n2_; have GW14003 := n3_; have GE14003 := n4_; clear n0_ n1_ n2_ n3_ n4_; clear hb hbox hg; have hcz29_0 : w28.cell? ⟨gb14003, 0, none⟩ = some (.int .i64 0) := (blk_cell BK14003.out 0).trans rfl; have hcz29_1 : w28.cell? ⟨gb14003, 1, none⟩ = some (.int .i64 0) := (blk_cell BK14003.out 1).trans rfl; have hcz29_2 : w28.cell? ⟨gb14003, 2, none⟩ = some (.int .i64 0) := (blk_cell BK14003.out 2).trans rfl; have hcz29_3 : w28.cell? ⟨gb14003, 3, none⟩ = some (.int .i64 0) := (blk_cell BK14003.out 3).trans rfl; have hcz29_4 : w28.cell? ⟨gb14003, 4, none⟩ = some (.int .i64 0) := (blk_cell BK14003.out 4).trans rfl; have hfz29_0 := blk_frozen BK14003.out 0; have hfz29_1 := blk_frozen BK14003.out 1; have hfz29_2 := blk_frozen BK14003.out 2; have hfz29_3 := blk_frozen BK14003.out 3; have hfz29_4 := blk_frozen BK14003.out 4; obtain ⟨Ao30, co30, eo30⟩ := Kd.R_slice HO_5.out; subst eo30) | ((with_reducible refine gate_builtin (b := .append) (xs := #[.tmp 22, .tmp 28]) rfl ?_); at_builtin; refine Kd.R_append k36 (w0 := w) w.heap.size rfl (.tmp 22) (.tmp 28) 25 36 (.agg #[(.int .i64 0), (.int .i64 0)]) 16 rfl Try.underlying25 info36 rfl (by decide) (by omega) (.slice Ao30 x5_1.length co30) x5_1 (⟨(rd_T44 l0 x16_1).f0, (rd_T44 l0 x16_1).f1⟩ : S36) [.int .i64 ((rd_T44 l0 x16_1).f0), .int .i64 ((rd_T44 l0 x16_1).f1)] (fun _ => True) (fun _ => False) rfl (by first | (go_simp; done) | (go_simp; rfl)) ?aP (fun _ hk => hk.elim) ?aF ?aO ?aB ?aS ?aL ?_; (case aP => exact k36_mkM _ _ _ (⟨(rd_T44 l0 x16_1).f0, (rd_T44 l0 x16_1).f1⟩ : S36)); (case aB => exact (by repeat (first | (with_reducible first | exact HB.out | apply below_alloc | apply pw_below_drewN | apply below_drew1 | refine below_set ?_ GE14003.out) | exact HB.out))); (case aF => exact (fun _ _ => trivial)); (case aO => exact (by (with_reducible repeat (first | apply Kd.R_alloc | apply Kd.R_drewN | apply Kd.R_drew)); exact Kd.R_mono (Kd.R_far (p := ⟨gb14003, 4, none⟩) (Kd.R_far (p := ⟨gb14003, 3, none⟩) (Kd.R_far (p := ⟨gb14003, 2, none⟩) (Kd.R_far (p := ⟨gb14003, 1, none⟩) (Kd.R_far (p := ⟨gb14003, 0, none⟩) (Kd.R_types HO_5.out BK14003.out (by decide)) (fun _ hk => hk.2) (.int .i64 ((rd_T44 l0 x16_1).f0))) (fun _ hk => hk.2) (.int .i64 ((rd_T44 l0 x16_1).f1))) (fun _ hk => hk.2) (.int .i64 ((rd_T44 l0 x16_1).f2))) (fun _ hk => hk.2) (.int .i64 ((rd_T44 l0 x16_1).f3))) (fun _ hk => hk.2) (.int .i64 ((rd_T44 l0 x16_1).f4))) (fun _ hk => trivial))); (case aS => exact (below_size (by repeat (first | (with_reducible first | exact HB.out | apply below_alloc | apply pw_below_drewN | apply below_drew1 | refine below_set ?_ GE14003.out) | exact HB.out)))); (case aL => have := LMc27.out; omega); intro v14010 w31 ho hb hg hat; rw [← Ny14009.out] at ho; have n0_ := Aside0.mk (blk_grown (g := gb14003) (o := .cells #[.int .i64 ((rd_T44 l0 x16_1).f0), .int .i64 ((rd_T44 l0 x16_1).f1), .int .i64 ((rd_T44 l0 x16_1).f2), .int .i64 ((rd_T44 l0 x16_1).f3), .int .i64 ((rd_T44 l0 x16_1).f4)] 44 (0, 0)) (by (with_reducible repeat (first | refine blk_drewN ?_ _ | refine blk_drew ?_ | refine blk_alloc ?_ _)); refine blk_put (cs := #[.int .i64 ((rd_T44 l0 x16_1).f0), .int .i64 ((rd_T44 l0 x16_1).f1), .int .i64 ((rd_T44 l0 x16_1).f2), .int .i64 ((rd_T44 l0 x16_1).f3), .int .i64 0]) ?_ 4 _ rfl; (with_reducible repeat (first | refine blk_drewN ?_ _ | refine blk_drew ?_ | refine blk_alloc ?_ _)); refine blk_put (cs := #[.int .i64 ((rd_T44 l0 x16_1).f0), .int .i64 ((rd_T44 l0 x16_1).f1), .int .i64 ((rd_T44 l0 x16_1).f2), .int .i64 0, .int .i64 0]) ?_ 3 _ rfl; (with_reducible repeat (first | refine blk_drewN ?_ _ | refine blk_drew ?_ | refine blk_alloc ?_ _)); refine blk_put (cs := #[.int .i64 ((rd_T44 l0 x16_1).f0), .int .i64 ((rd_T44 l0 x16_1).f1), .int .i64 0, .int .i64 0, .int .i64 0]) ?_ 2 _ rfl; (with_reducible repeat (first | refine blk_drewN ?_ _ | refine blk_drew ?_ | refine blk_alloc ?_ _)); refine blk_put (cs := #[.int .i64 ((rd_T44 l0 x16_1).f0), .int .i64 0, .int .i64 0, .int .i64 0, .int .i64 0]) ?_ 1 _ rfl; (with_reducible repeat (first | refine blk_drewN ?_ _ | refine blk_drew ?_ | refine blk_alloc ?_ _)); refine blk_put (cs := #[.int .i64 0, .int .i64 0, .int .i64 0, .int .i64 0, .int .i64 0]) ?_ 0 _ rfl; (with_reducible repeat (first | refine blk_drewN ?_ _ | refine blk_drew ?_ | refine blk_alloc ?_ _)); exact BK14003.out) hg (Kd.R_ne HO_5.out BK14003.out (by decide))); have n1_ := Aside0.mk (hb); have n2_ := Aside0.mk (ho); clear BK14003; clear HB; clear HO_5; have BK14003 := n0_; have HB := n1_; have HO14011 := n2_; clear n0_ n1_ n2_; clear ho hb hg hat)))
          go_roundg k1
          case measure => have := HK1.out; omega
          case rel => exact ⟨(y14009), (wrap64 (x16_1 + 1)), (by first | rfl | (simp; done) | (simp [*]; done)), H', ⟨by have := HK1.out; omega⟩, ⟨by (with_reducible repeat (first | apply Kd.R_alloc | apply Kd.R_drewN | apply Kd.R_drew)); exact HO14011.out⟩, ⟨by repeat (first | (with_reducible first | exact HB.out | apply below_alloc | apply pw_below_drewN | apply below_drew1 | refine below_set ?_ GE14003.out) | exact HB.out)⟩⟩
         ·rw [if_neg c27] at H
          exact absurd H (by simp)
       ·rw [if_neg c8] at H
        have c8b0 : (((rd_T44 l0 x16_1).f2) == 3) = false := beq_eq_false_iff_ne.mpr c8
        have c8b1 : (((rd_T44 l0 x16_1).f2) != 3) = true := bne_iff_ne.mpr c8
        have H' := Aside0.mk H
        clear H
        have p14002 : 0 ≤ (x16_1 : Int) := of_decide_eq_true (by first | (with_reducible assumption) | assumption)
        have q14002 : x16_1 < (l0.length : Int) := of_decide_eq_true (by first | (with_reducible assumption) | assumption)
        obtain ⟨ad14002, e14002, hx14002_0, hx14002_1, hx14002_2, hx14002_3, hx14002_4⟩ := at_T44 HR0.out x16_1 p14002 q14002
        cases e14002
        replace hx14002_0 := (HB.out.cell (World.block_lt_of_cell? w _ hx14002_0)).trans hx14002_0
        replace hx14002_1 := (HB.out.cell (World.block_lt_of_cell? w _ hx14002_1)).trans hx14002_1
        replace hx14002_2 := (HB.out.cell (World.block_lt_of_cell? w _ hx14002_2)).trans hx14002_2
        replace hx14002_3 := (HB.out.cell (World.block_lt_of_cell? w _ hx14002_3)).trans hx14002_3
        replace hx14002_4 := (HB.out.cell (World.block_lt_of_cell? w _ hx14002_4)).trans hx14002_4
        replace p14002 := eq_true p14002
        replace q14002 := eq_true q14002
        go_wp2_with (first | ((with_reducible refine gate_dst (N := 7) rfl ?_); refine box_event ?hg (N := 7) ?hd (cs := #[.int .i64 0, .int .i64 0, .int .i64 0, .int .i64 0, .int .i64 0]) (t := 44) ?hr ?_; (case hd => rfl); (case hg => rfl); (case hr => first | (go_simp; done) | (go_simp; rfl)); intro gb14003 hg w32 hbox hb; have n0_ := Aside0.mk (Kd.R_below (by (with_reducible repeat (first | apply Kd.R_alloc | apply Kd.R_drewN | apply Kd.R_drew)); exact HO_5.out) hb); have n1_ := Aside0.mk (below_step (by repeat (first | (with_reducible first | exact HB.out | apply below_alloc | apply pw_below_drewN | apply below_drew1) | exact HB.out)) hb); have n2_ := Aside0.mk (hbox); have n3_ := Aside0.mk ((by rw [hg]; exact (below_size (by repeat (first | (with_reducible first | exact HB.out | apply below_alloc | apply pw_below_drewN | apply below_drew1) | exact HB.out))) : w.heap.size ≤ gb14003)); have n4_ := Aside0.mk ((by rw [hg]; exact (below_size (by repeat (first | (with_reducible first | exact HB.out | apply below_alloc | apply pw_below_drewN | apply below_drew1) | exact HB.out))) : w.heap.size ≤ gb14003)); clear HO_5; clear HB; have HO_5 := n0_; have HB := n1_; have BK14003 := n2_; have GW14003 := n3_; have GE14003 := n4_; clear n0_ n1_ n2_ n3_ n4_; clear hb hbox hg; have hcz33_0 : w32.cell? ⟨gb14003, 0, none⟩ = some (.int .i64 0) := (blk_cell BK14003.out 0).trans rfl; have hcz33_1 : w32.cell? ⟨gb14003, 1, none⟩ = some (.int .i64 0) := (blk_cell BK14003.out 1).trans rfl; have hcz33_2 : w32.cell? ⟨gb14003, 2, none⟩ = some (.int .i64 0) := (blk_cell BK14003.out 2).trans rfl; have hcz33_3 : w32.cell? ⟨gb14003, 3, none⟩ = some (.int .i64 0) := (blk_cell BK14003.out 3).trans rfl; have hcz33_4 : w32.cell? ⟨gb14003, 4, none⟩ = some (.int .i64 0) := (blk_cell BK14003.out 4).trans rfl; have hfz33_0 := blk_frozen BK14003.out 0; have hfz33_1 := blk_frozen BK14003.out 1; have hfz33_2 := blk_frozen BK14003.out 2; have hfz33_3 := blk_frozen BK14003.out 3; have hfz33_4 := blk_frozen BK14003.out 4; obtain ⟨Ao34, co34, eo34⟩ := Kd.R_slice HO_5.out; subst eo34))
        repeat (go_quiet (first | ((with_reducible refine gate_dst (N := 7) rfl ?_); refine box_event ?hg (N := 7) ?hd (cs := #[.int .i64 0, .int .i64 0, .int .i64 0, .int .i64 0, .int .i64 0]) (t := 44) ?hr ?_; (case hd => rfl); (case hg => rfl); (case hr => first | (go_simp; done) | (go_simp; rfl)); intro gb14003 hg w32 hbox hb; have n0_ := Aside0.mk (Kd.R_below (by (with_reducible repeat (first | apply Kd.R_alloc | apply Kd.R_drewN | apply Kd.R_drew)); exact HO_5.out) hb); have n1_ := Aside0.mk (below_step (by repeat (first | (with_reducible first | exact HB.out | apply below_alloc | apply pw_below_drewN | apply below_drew1) | exact HB.out)) hb); have n2_ := Aside0.mk (hbox); have n3_ := Aside0.mk ((by rw [hg]; exact (below_size (by repeat (first | (with_reducible first | exact HB.out | apply below_alloc | apply pw_below_drewN | apply below_drew1) | exact HB.out))) : w.heap.size ≤ gb14003)); have n4_ := Aside0.mk ((by rw [hg]; exact (below_size (by repeat (first | (with_reducible first | exact HB.out | apply below_alloc | apply pw_below_drewN | apply below_drew1) | exact HB.out))) : w.heap.size ≤ gb14003)); clear HO_5; clear HB; have HO_5 := n0_; have HB := n1_; have BK14003 := n2_; have GW14003 := n3_; have GE14003 := n4_; clear n0_ n1_ n2_ n3_ n4_; clear hb hbox hg; have hcz33_0 : w32.cell? ⟨gb14003, 0, none⟩ = some (.int .i64 0) := (blk_cell BK14003.out 0).trans rfl; have hcz33_1 : w32.cell? ⟨gb14003, 1, none⟩ = some (.int .i64 0) := (blk_cell BK14003.out 1).trans rfl; have hcz33_2 : w32.cell? ⟨gb14003, 2, none⟩ = some (.int .i64 0) := (blk_cell BK14003.out 2).trans rfl; have hcz33_3 : w32.cell? ⟨gb14003, 3, none⟩ = some (.int .i64 0) := (blk_cell BK14003.out 3).trans rfl; have hcz33_4 : w32.cell? ⟨gb14003, 4, none⟩ = some (.int .i64 0) := (blk_cell BK14003.out 4).trans rfl; have hfz33_0 := blk_frozen BK14003.out 0; have hfz33_1 := blk_frozen BK14003.out 1; have hfz33_2 := blk_frozen BK14003.out 2; have hfz33_3 := blk_frozen BK14003.out 3; have hfz33_4 := blk_frozen BK14003.out 4; obtain ⟨Ao34, co34, eo34⟩ := Kd.R_slice HO_5.out; subst eo34)); try go_wp2_with (first | ((with_reducible refine gate_dst (N := 7) rfl ?_); refine box_event ?hg (N := 7) ?hd (cs := #[.int .i64 0, .int .i64 0, .int .i64 0, .int .i64 0, .int .i64 0]) (t := 44) ?hr ?_; (case hd => rfl); (case hg => rfl); (case hr => first | (go_simp; done) | (go_simp; rfl)); intro gb14003 hg w32 hbox hb; have n0_ := Aside0.mk (Kd.R_below (by (with_reducible repeat (first | apply Kd.R_alloc | apply Kd.R_drewN | apply Kd.R_drew)); exact HO_5.out) hb); have n1_ := Aside0.mk (below_step (by repeat (first | (with_reducible first | exact HB.out | apply below_alloc | apply pw_below_drewN | apply below_drew1) | exact HB.out)) hb); have n2_ := Aside0.mk (hbox); have n3_ := Aside0.mk ((by rw [hg]; exact (below_size (by repeat (first | (with_reducible first | exact HB.out | apply below_alloc | apply pw_below_drewN | apply below_drew1) | exact HB.out))) : w.heap.size ≤ gb14003)); have n4_ := Aside0.mk ((by rw [hg]; exact (below_size (by repeat (first | (with_reducible first | exact HB.out | apply below_alloc | apply pw_below_drewN | apply below_drew1) | exact HB.out))) : w.heap.size ≤ gb14003)); clear HO_5; clear HB; have HO_5 := n0_; have HB := n1_; have BK14003 := n2_; have GW14003 := n3_; have GE14003 := n4_; clear n0_ n1_ n2_ n3_ n4_; clear hb hbox hg; have hcz33_0 : w32.cell? ⟨gb14003, 0, none⟩ = some (.int .i64 0) := (blk_cell BK14003.out 0).trans rfl; have hcz33_1 : w32.cell? ⟨gb14003, 1, none⟩ = some (.int .i64 0) := (blk_cell BK14003.out 1).trans rfl; have hcz33_2 : w32.cell? ⟨gb14003, 2, none⟩ = some (.int .i64 0) := (blk_cell BK14003.out 2).trans rfl; have hcz33_3 : w32.cell? ⟨gb14003, 3, none⟩ = some (.int .i64 0) := (blk_cell BK14003.out 3).trans rfl; have hcz33_4 : w32.cell? ⟨gb14003, 4, none⟩ = some (.int .i64 0) := (blk_cell BK14003.out 4).trans rfl; have hfz33_0 := blk_frozen BK14003.out 0; have hfz33_1 := blk_frozen BK14003.out 1; have hfz33_2 := blk_frozen BK14003.out 2; have hfz33_3 := blk_frozen BK14003.out 3; have hfz33_4 := blk_frozen BK14003.out 4; obtain ⟨Ao34, co34, eo34⟩ := Kd.R_slice HO_5.out; subst eo34)))
        go_roundg k1
        case measure => have := HK1.out; omega
        case rel => exact ⟨(x5_1), (wrap64 (x16_1 + 1)), (by first | rfl | (simp; done) | (simp [*]; done)), H', ⟨by have := HK1.out; omega⟩, ⟨by (with_reducible repeat (first | apply Kd.R_alloc | apply Kd.R_drewN | apply Kd.R_drew)); exact Kd.R_mono (Kd.R_far (p := ⟨gb14003, 4, none⟩) (Kd.R_far (p := ⟨gb14003, 3, none⟩) (Kd.R_far (p := ⟨gb14003, 2, none⟩) (Kd.R_far (p := ⟨gb14003, 1, none⟩) (Kd.R_far (p := ⟨gb14003, 0, none⟩) (Kd.R_types HO_5.out BK14003.out (by decide)) (fun _ hk => hk.2) (.int .i64 ((rd_T44 l0 x16_1).f0))) (fun _ hk => hk.2) (.int .i64 ((rd_T44 l0 x16_1).f1))) (fun _ hk => hk.2) (.int .i64 ((rd_T44 l0 x16_1).f2))) (fun _ hk => hk.2) (.int .i64 ((rd_T44 l0 x16_1).f3))) (fun _ hk => hk.2) (.int .i64 ((rd_T44 l0 x16_1).f4))) (fun _ hk => trivial)⟩, ⟨by repeat (first | (with_reducible first | exact HB.out | apply below_alloc | apply pw_below_drewN | apply below_drew1 | refine below_set ?_ GE14003.out) | exact HB.out)⟩⟩
      ·rw [if_neg c7] at H
       exact absurd H (by simp)
     ·rw [if_neg c6] at H
      exact absurd H (by simp)
    ·rw [if_neg c5] at H
     have c5b0 : decide (x16_1 < (l0.length : Int)) = false := decide_eq_false c5
     clear c5
     simp only [Option.some.injEq, Prod.mk.injEq] at H
     obtain ⟨rfl, rfl⟩ := H
     go_wp2
     repeat (go_quiet (fail); try go_wp2)
     go_ret2
     exact ⟨_, by first | rfl | (simp [errW_none, errW_some] <;> rfl) | (simp [*, errW_none, errW_some] <;> rfl), by (with_reducible repeat (first | apply Kd.R_alloc | apply Kd.R_drewN | apply Kd.R_drew)); exact HO_5.out, by repeat (first | (with_reducible first | exact HB.out | apply below_alloc | apply pw_below_drewN | apply below_drew1) | exact HB.out)⟩
 ·rw [if_neg c3] at H
  have c3b0 : (t14001 == 0) = false := beq_eq_false_iff_ne.mpr c3
  have c3b1 : (t14001 != 0) = true := bne_iff_ne.mpr c3
  simp only [Option.some.injEq, Prod.mk.injEq] at H
  obtain ⟨rfl, rfl⟩ := H
  go_enter Try.func13, Try.ntmps13
  go_wp2_with (first | (go_at_call 15; (with_reducible refine (reel_Check.calls k _ _ l0 t14001 _ ?side1 ?side2 A2.out).mono ?_); (case side1 => repeat (first | exact HR0.out | (with_reducible refine Kd.C_alloc ?_ _) | (with_reducible refine Kd.C_drewN ?_ _) | (with_reducible refine Kd.C_drew ?_))); (case side2 => exact HC0.out); rintro e w35 ⟨rfl, hb⟩; have n0_ := Aside0.mk (below_step (by repeat (first | (with_reducible first | exact HB.out | apply below_alloc | apply pw_below_drewN | apply below_drew1) | exact HB.out)) hb); clear HB; have HB := n0_; clear n0_; (try clear hb); (try clear hb2); (try clear hk); (try clear hi)))
  repeat (go_quiet (first | (go_at_call 15; (with_reducible refine (reel_Check.calls k _ _ l0 t14001 _ ?side1 ?side2 A2.out).mono ?_); (case side1 => repeat (first | exact HR0.out | (with_reducible refine Kd.C_alloc ?_ _) | (with_reducible refine Kd.C_drewN ?_ _) | (with_reducible refine Kd.C_drew ?_))); (case side2 => exact HC0.out); rintro e w35 ⟨rfl, hb⟩; have n0_ := Aside0.mk (below_step (by repeat (first | (with_reducible first | exact HB.out | apply below_alloc | apply pw_below_drewN | apply below_drew1) | exact HB.out)) hb); clear HB; have HB := n0_; clear n0_; (try clear hb); (try clear hb2); (try clear hk); (try clear hi))); try go_wp2_with (first | (go_at_call 15; (with_reducible refine (reel_Check.calls k _ _ l0 t14001 _ ?side1 ?side2 A2.out).mono ?_); (case side1 => repeat (first | exact HR0.out | (with_reducible refine Kd.C_alloc ?_ _) | (with_reducible refine Kd.C_drewN ?_ _) | (with_reducible refine Kd.C_drew ?_))); (case side2 => exact HC0.out); rintro e w35 ⟨rfl, hb⟩; have n0_ := Aside0.mk (below_step (by repeat (first | (with_reducible first | exact HB.out | apply below_alloc | apply pw_below_drewN | apply below_drew1) | exact HB.out)) hb); clear HB; have HB := n0_; clear n0_; (try clear hb); (try clear hb2); (try clear hk); (try clear hi))))
  go_ret2
  exact ⟨_, by first | rfl | (simp [errW_none, errW_some] <;> rfl) | (simp [*, errW_none, errW_some] <;> rfl), by first | exact Kd.R_nil _ _ _ _ _ | exact Kd.N_nil _ _ _ _ _ | exact Kd.V_nil _ _ _ _ _ | exact Kd.Q_nil _ _ _ _ _ | exact Kd.S_nil _ _ _ _ _, by repeat (first | (with_reducible first | exact HB.out | apply below_alloc | apply pw_below_drewN | apply below_drew1) | exact HB.out)⟩

end Go.Proofs.Ytfdfpdiemeomiaa.G

namespace Go.Proofs.Ytfdfpdiemeomiaa.G
open Go.RowKit Go.Proofs.YtfdfpdiemeomiaaW.PrintWords Go.Proofs.YtfdfpdiemeomiaaW.PrintLast Go.Proofs.YtfdfpdiemeomiaaW.PrintMore
attribute [local go_sem] max2_int min2_int max_two min_two max_three min_three max_four min_four   -- for this text's walks alone
set_option linter.unusedVariables false
set_option linter.unusedSimpArgs false

def span_Common_1.f (a0 : Bool) (a1 : Bool) : Option (Bool) := if a0 = true then (some a1) else (some false)
set_option maxHeartbeats 8000000 in
set_option maxRecDepth 100000 in
theorem span_Common_1.calls (a0 : Bool) (a1 : Bool) (r : Bool) (w : World) (h : span_Common_1.f a0 a1 = some r) :
  Calls Try.prog 35 #[.bool a0, .bool a1] w fun e w' => e = .returned (.bool r) ∧ Drawn0 w w' := by
 have H : (if a0 = true then (some a1) else (some false)) = some r := h
 clear h
 by_cases c3 : a0 = true
 ·subst c3
  have H1 : (some a1) = some r := by rw [if_pos rfl] at H; exact H
  clear H
  have H := H1
  clear H1
  obtain rfl := Option.some.inj H
  go_enter Try.func35, Try.ntmps35
  go_wp2
  go_ret
  exact ⟨by first | rfl | (simp; done) | (simp [*]; done), by repeat (first | exact Drawn0.refl _ | apply Drawn0.step)⟩
 ·replace c3 := Bool.eq_false_iff.mpr c3
  subst c3
  have H1 : (some false) = some r := by rw [if_neg (show ¬ (false = true) by decide)] at H; first | exact H | simpa using H
  clear H
  have H := H1
  clear H1
  obtain rfl := Option.some.inj H
  go_enter Try.func35, Try.ntmps35
  go_wp2
  go_ret
  exact ⟨by first | rfl | (simp; done) | (simp [*]; done), by repeat (first | exact Drawn0.refl _ | apply Drawn0.step)⟩

end Go.Proofs.Ytfdfpdiemeomiaa.G

namespace Go.Proofs.Ytfdfpdiemeomiaa.G
open Go.RowKit Go.Proofs.YtfdfpdiemeomiaaW.PrintWords Go.Proofs.YtfdfpdiemeomiaaW.PrintLast Go.Proofs.YtfdfpdiemeomiaaW.PrintMore
attribute [local go_sem] max2_int min2_int max_two min_two max_three min_three max_four min_four   -- for this text's walks alone
set_option linter.unusedVariables false
set_option linter.unusedSimpArgs false

def span_sets_Common.f (k : Nat) (l0 : List (S36)) (l1 : List (S36)) (a2 : Bool) : Option ((List (S36)) × Int) := span_sets.f span_Common_1.f k l0 l1 a2
theorem span_sets_Common.mono : ∀ a0 a1 a2 k, LeO (span_sets_Common.f k a0 a1 a2) (span_sets_Common.f (k + 1) a0 a1 a2) := span_sets.mono span_Common_1.f
theorem span_sets_Common.calls (k : Nat) (A0 : Option Addr) (c0 : Nat) (l0 : List (S36)) (A1 : Option Addr) (c1 : Nat) (l1 : List (S36)) (a2 : Bool) (r1 : List (S36)) (r2 : Int) (w : World) (hr0 : Kd.C k36 w A0 l0.length l0) (hc0 : l0.length ≤ c0) (hr1 : Kd.C k36 w A1 l1.length l1) (hc1 : l1.length ≤ c1) (h : span_sets_Common.f k l0 l1 a2 = some (r1, r2)) :
 Calls Try.prog 34 #[.slice A0 l0.length c0, .slice A1 l1.length c1, .func (.func 35) #[] #[]] w fun e w' => ∃ v0_ : Value, e = .returned (.tuple #[v0_, .int .i64 r2]) ∧ Kd.R k36 36 w' w.heap.size (fun _ => True) v0_ r1 ∧ Below w.heap.size w w' :=
 span_sets.calls span_Common_1.f 35 (enters_of Try.func35 (by kernel_rfl) rfl) (fun a0 a1 r w h => span_Common_1.calls a0 a1 r w h) k A0 c0 l0 A1 c1 l1 a2 r1 r2 w hr0 hc0 hr1 hc1 h
end Go.Proofs.Ytfdfpdiemeomiaa.G

namespace Go.Proofs.Ytfdfpdiemeomiaa.G
open Go.RowKit Go.Proofs.YtfdfpdiemeomiaaW.PrintWords Go.Proofs.YtfdfpdiemeomiaaW.PrintLast Go.Proofs.YtfdfpdiemeomiaaW.PrintMore
attribute [local go_sem] max2_int min2_int max_two min_two max_three min_three max_four min_four   -- for this text's walks alone
set_option linter.unusedVariables false
set_option linter.unusedSimpArgs false

def span_Common.f (k : Nat) (l0 : List (S36)) (l1 : List (S36)) : Option ((List (S36)) × Int) := (span_sets_Common.f k l0 l1 true).bind fun bt26001 => (some (bt26001.1, bt26001.2))
theorem span_Common.mono : ∀ a0 a1 k, LeO (span_Common.f k a0 a1) (span_Common.f (k + 1) a0 a1) := by
 intro a0 a1 k
 unfold span_Common.f
 repeat' first
   | (with_reducible exact span_sets_Common.mono _ _ _ _)
   | (with_reducible exact LeO.refl _)
   | (with_reducible exact LeO.none _)
   | (with_reducible refine LeO.ite ?_ ?_)
   | (with_reducible refine LeO.bind ?_ (fun _ => ?_))
   | exact span_sets_Common.mono _ _ _ _
   | exact LeO.none _
   | refine LeO.ite ?_ ?_
   | refine LeO.bind ?_ (fun _ => ?_)
set_option maxHeartbeats 8000000 in
set_option maxRecDepth 100000 in
theorem span_Common.calls (k : Nat) (A0 : Option Addr) (c0 : Nat) (l0 : List (S36)) (A1 : Option Addr) (c1 : Nat) (l1 : List (S36)) (r1 : List (S36)) (r2 : Int) (w : World) (hr0 : Kd.C k36 w A0 l0.length l0) (hc0 : l0.length ≤ c0) (hr1 : Kd.C k36 w A1 l1.length l1) (hc1 : l1.length ≤ c1) (h : span_Common.f k l0 l1 = some (r1, r2)) :
  Calls Try.prog 25 #[.slice A0 l0.length c0, .slice A1 l1.length c1] w fun e w' => ∃ v0_ : Value, e = .returned (.tuple #[v0_, .int .i64 r2]) ∧ Kd.R k36 36 w' w.heap.size (fun _ => True) v0_ r1 ∧ Below w.heap.size w w' := by
 have HR0 := Aside0.mk hr0
 have HC0 := Aside0.mk hc0
 clear hr0 hc0
 have HR1 := Aside0.mk hr1
 have HC1 := Aside0.mk hc1
 clear hr1 hc1
 have HB := Aside0.mk (Below.refl w.heap.size w)
 have H : ((span_sets_Common.f k l0 l1 true).bind fun bt26001 => (some (bt26001.1, bt26001.2))) = some (r1, r2) := h
 clear h
 replace H := Option.bind_eq_some_iff.mp H
 obtain ⟨⟨t26001, t26002⟩, A30, H⟩ := H
 replace H : (some (t26001, t26002)) = some (r1, r2) := H
 have A3 := Aside0.mk A30
 clear A30
 simp only [Option.some.injEq, Prod.mk.injEq] at H
 obtain ⟨rfl, rfl⟩ := H
 go_enter Try.func25, Try.ntmps25
 go_wp2_with (first | ((with_reducible refine gate_callee (f := 34) rfl ?_); refine goesL_ (some 8) rfl rfl Try.func34 (by kernel_rfl) rfl #[.slice A0 l0.length c0, .slice A1 l1.length c1, .func (.func 35) #[] #[]] rfl (by (try simp only [List.map_toArray, List.map_cons, List.map_nil]); first | done | rfl | (simp only [List.length_drop, List.length_take]; rfl)) ?_; (with_reducible refine (span_sets_Common.calls k _ _ l0 _ _ l1 true t26001 t26002 _ ?side1 ?side2 ?side3 ?side4 A3.out).mono ?_); (case side1 => exact HR0.out); (case side2 => exact HC0.out); (case side3 => exact HR1.out); (case side4 => exact HC1.out); rintro e w4 ⟨v26003, rfl, ho0, hb⟩; refine ⟨_, rfl, ?_⟩; have n0_ := Aside0.mk (Kd.R_lower ho0 (below_size (by repeat (first | exact HB.out | apply below_alloc | apply pw_below_drewN | apply below_drew1)))); have n1_ := Aside0.mk (below_step (by repeat (first | exact HB.out | apply below_alloc | apply pw_below_drewN | apply below_drew1)) hb); clear HB; have HO26004 := n0_; have HB := n1_; clear n0_ n1_; (try clear hb); (try clear hb2); (try clear hk); (try clear hi); (try clear ho0)))
 go_ret2
 exact ⟨_, by first | rfl | (simp [errW_none, errW_some] <;> rfl) | (simp [*, errW_none, errW_some] <;> rfl), by exact HO26004.out, by repeat (first | exact HB.out | apply below_alloc | apply pw_below_drewN | apply below_drew1)⟩

end Go.Proofs.Ytfdfpdiemeomiaa.G

namespace Go.Proofs.Ytfdfpdiemeomiaa.G
open Go.RowKit Go.Proofs.YtfdfpdiemeomiaaW.PrintWords Go.Proofs.YtfdfpdiemeomiaaW.PrintLast Go.Proofs.YtfdfpdiemeomiaaW.PrintMore
attribute [local go_sem] max2_int min2_int max_two min_two max_three min_three max_four min_four   -- for this text's walks alone
set_option linter.unusedVariables false
set_option linter.unusedSimpArgs false

mutual
def reel_checkTurns.l0 : Nat → List Int → List Int → Int → Int → Option (Int)
 | 0, _, _, _, _ => none
 | k + 1, x0, x9, x10, x11 => if x11 < x10 then (if 0 ≤ x11 then (if x11 < (x9.length : Int) then (if (rd x9 x11) < 0 then (some 1) else (if (rd x9 x11) > 17179869184 then (some 1) else (reel_checkTurns.l0 k x0 x9 x10 (wrap64 (x11 + 1))))) else (none)) else (none)) else (reel_checkTurns.l1 k x0 (x0.length : Int) 0)
def reel_checkTurns.l1 : Nat → List Int → Int → Int → Option (Int)
 | 0, _, _, _ => none
 | k + 1, x0, x23, x24 => if x24 < x23 then (if x24 > 0 then (if 0 ≤ x24 then (if x24 < (x0.length : Int) then (if 0 ≤ (wrap64 (x24 - 1)) then (if (wrap64 (x24 - 1)) < (x0.length : Int) then (if (rd x0 x24) ≤ (rd x0 (wrap64 (x24 - 1))) then (some 9) else (reel_checkTurns.l1 k x0 x23 (wrap64 (x24 + 1)))) else (none)) else (none)) else (none)) else (none)) else (reel_checkTurns.l1 k x0 x23 (wrap64 (x24 + 1)))) else (some 0)
end
def reel_checkTurns.f (k : Nat) (l0 : List Int) : Option (Int) := if (l0.length : Int) > 512 then (some 8) else (reel_checkTurns.l0 k l0 l0 (l0.length : Int) 0)
theorem reel_checkTurns.mono_l : ∀ k, (∀ y0 y1 y2 y3, LeO (reel_checkTurns.l0 k y0 y1 y2 y3) (reel_checkTurns.l0 (k + 1) y0 y1 y2 y3)) ∧ (∀ y0 y1 y2, LeO (reel_checkTurns.l1 k y0 y1 y2) (reel_checkTurns.l1 (k + 1) y0 y1 y2))
 | 0 => ⟨fun _ _ _ _ r h => by simp [reel_checkTurns.l0] at h, fun _ _ _ r h => by simp [reel_checkTurns.l1] at h⟩
 | k + 1 => by
  obtain ⟨ih0, ih1⟩ := reel_checkTurns.mono_l k
  refine ⟨?_, ?_⟩
  ·intro y0 y1 y2 y3
   unfold reel_checkTurns.l0
   repeat' first
   | (with_reducible exact ih0 _ _ _ _)
   | (with_reducible exact ih1 _ _ _)
   | (with_reducible exact LeO.refl _)
   | (with_reducible exact LeO.none _)
   | (with_reducible refine LeO.ite ?_ ?_)
   | (with_reducible refine LeO.bind ?_ (fun _ => ?_))
   | exact ih0 _ _ _ _
   | exact ih1 _ _ _
   | exact LeO.none _
   | refine LeO.ite ?_ ?_
   | refine LeO.bind ?_ (fun _ => ?_)
  ·intro y0 y1 y2
   unfold reel_checkTurns.l1
   repeat' first
   | (with_reducible exact ih0 _ _ _ _)
   | (with_reducible exact ih1 _ _ _)
   | (with_reducible exact LeO.refl _)
   | (with_reducible exact LeO.none _)
   | (with_reducible refine LeO.ite ?_ ?_)
   | (with_reducible refine LeO.bind ?_ (fun _ => ?_))
   | exact ih0 _ _ _ _
   | exact ih1 _ _ _
   | exact LeO.none _
   | refine LeO.ite ?_ ?_
   | refine LeO.bind ?_ (fun _ => ?_)
theorem reel_checkTurns.mono : ∀ a0 k, LeO (reel_checkTurns.f k a0) (reel_checkTurns.f (k + 1) a0) := by
 intro a0 k
 obtain ⟨ih0, ih1⟩ := reel_checkTurns.mono_l k
 unfold reel_checkTurns.f
 repeat' first
   | (with_reducible exact ih0 _ _ _ _)
   | (with_reducible exact ih1 _ _ _)
   | (with_reducible exact LeO.refl _)
   | (with_reducible exact LeO.none _)
   | (with_reducible refine LeO.ite ?_ ?_)
   | (with_reducible refine LeO.bind ?_ (fun _ => ?_))
   | exact ih0 _ _ _ _
   | exact ih1 _ _ _
   | exact LeO.none _
   | refine LeO.ite ?_ ?_
   | refine LeO.bind ?_ (fun _ => ?_)
set_option maxHeartbeats 8000000 in
set_option maxRecDepth 100000 in
theorem reel_checkTurns.calls (k : Nat) (A0 : Option Addr) (c0 : Nat) (l0 : List Int) (r : Int) (w : World) (hr0 : Kd.C (Kd.int .i64) w A0 l0.length l0) (hc0 : l0.length ≤ c0) (h : reel_checkTurns.f k l0 = some r) :
  Calls Try.prog 28 #[.slice A0 l0.length c0] w fun e w' => e = .returned (.int .i64 r) ∧ Drawn0 w w' := by
 have HR0 := Aside0.mk hr0
 have HC0 := Aside0.mk hc0
 clear hr0 hc0
 have H : (if (l0.length : Int) > 512 then (some 8) else (reel_checkTurns.l0 k l0 l0 (l0.length : Int) 0)) = some r := h
 clear h
 by_cases c2 : (l0.length : Int) > 512
 ·rw [if_pos c2] at H
  have c2b0 : decide (512 < (l0.length : Int)) = true := decide_eq_true c2
  have c2b1 : decide (512 < l0.length) = true := decide_eq_true (by omega)
  clear c2
  obtain rfl := Option.some.inj H
  go_enter Try.func28, Try.ntmps28
  go_wp2
  repeat (go_quiet (fail); try go_wp2)
  go_ret
  exact ⟨by first | rfl | (simp; done) | (simp [*]; done), by repeat (first | exact Drawn0.refl _ | apply Drawn0.step)⟩
 ·rw [if_neg c2] at H
  have c2b0 : decide (512 < (l0.length : Int)) = false := decide_eq_false c2
  have c2b1 : decide (512 < l0.length) = false := decide_eq_false (by omega)
  clear c2
  have H' := Aside0.mk H
  clear H
  go_enter Try.func28, Try.ntmps28
  go_wp2
  repeat (go_quiet (fail); try go_wp2)
  go_loopg [11] k (fun kq v11 w' => ∃ (x11_1 : Int), v11 = .int .i64 x11_1 ∧ Aside0 (reel_checkTurns.l0 kq l0 l0 (l0.length : Int) x11_1 = some r) ∧ Aside0 (kq ≤ k) ∧ Drawn0 w w')
  case atStart => exact ⟨(0), (by first | rfl | (simp; done) | (simp [*]; done)), H', ⟨Nat.le_refl _⟩, by repeat (first | exact Drawn0.refl _ | apply Drawn0.step)⟩
  case round =>
   clear H'
   try clear c2
   try clear c2b0
   try clear c2b1
   try clear p2
   obtain ⟨x11_1, rfl, HA, HK1, ⟨m1, rfl⟩⟩ := hrel
   cases gk with
   | zero => exact absurd HA.out (by simp [reel_checkTurns.l0])
   | succ k1 =>
    have H := HA.out
    clear HA
    simp only [reel_checkTurns.l0] at H
    by_cases c3 : x11_1 < (l0.length : Int)
    ·rw [if_pos c3] at H
     have c3b0 : decide (x11_1 < (l0.length : Int)) = true := decide_eq_true c3
     clear c3
     by_cases c4 : 0 ≤ x11_1
     ·rw [if_pos c4] at H
      have c4b0 : decide (0 ≤ x11_1) = true := decide_eq_true c4
      clear c4
      by_cases c5 : x11_1 < (l0.length : Int)
      ·rw [if_pos c5] at H
       have c5b0 : decide (x11_1 < (l0.length : Int)) = true := decide_eq_true c5
       clear c5
       by_cases c6 : (rd l0 x11_1) < 0
       ·rw [if_pos c6] at H
        have c6b0 : decide ((rd l0 x11_1) < 0) = true := decide_eq_true c6
        clear c6
        obtain rfl := Option.some.inj H
        have p29001 : 0 ≤ (x11_1 : Int) := of_decide_eq_true (by first | (with_reducible assumption) | assumption)
        have q29001 : x11_1 < (l0.length : Int) := of_decide_eq_true (by first | (with_reducible assumption) | assumption)
        obtain ⟨ad29001, e29001, hx29001_0⟩ := Kd.at_int HR0.out x11_1 p29001 q29001
        cases e29001
        replace p29001 := eq_true p29001
        replace q29001 := eq_true q29001
        go_wp2
        repeat (go_quiet (fail); try go_wp2)
        go_ret
        exact ⟨by first | rfl | (simp; done) | (simp [*]; done), by repeat (first | exact Drawn0.refl _ | apply Drawn0.step)⟩
       ·rw [if_neg c6] at H
        have c6b0 : decide ((rd l0 x11_1) < 0) = false := decide_eq_false c6
        clear c6
        by_cases c7 : (rd l0 x11_1) > 17179869184
        ·rw [if_pos c7] at H
         have c7b0 : decide (17179869184 < (rd l0 x11_1)) = true := decide_eq_true c7
         clear c7
         obtain rfl := Option.some.inj H
         have p29001 : 0 ≤ (x11_1 : Int) := of_decide_eq_true (by first | (with_reducible assumption) | assumption)
         have q29001 : x11_1 < (l0.length : Int) := of_decide_eq_true (by first | (with_reducible assumption) | assumption)
         obtain ⟨ad29001, e29001, hx29001_0⟩ := Kd.at_int HR0.out x11_1 p29001 q29001
         cases e29001
         replace p29001 := eq_true p29001
         replace q29001 := eq_true q29001
         go_wp2
         repeat (go_quiet (fail); try go_wp2)
         go_ret
         exact ⟨by first | rfl | (simp; done) | (simp [*]; done), by repeat (first | exact Drawn0.refl _ | apply Drawn0.step)⟩
        ·rw [if_neg c7] at H
         have c7b0 : decide (17179869184 < (rd l0 x11_1)) = false := decide_eq_false c7
         clear c7
         have H' := Aside0.mk H
         clear H
         have p29001 : 0 ≤ (x11_1 : Int) := of_decide_eq_true (by first | (with_reducible assumption) | assumption)
         have q29001 : x11_1 < (l0.length : Int) := of_decide_eq_true (by first | (with_reducible assumption) | assumption)
         obtain ⟨ad29001, e29001, hx29001_0⟩ := Kd.at_int HR0.out x11_1 p29001 q29001
         cases e29001
         replace p29001 := eq_true p29001
         replace q29001 := eq_true q29001
         go_wp2
         repeat (go_quiet (fail); try go_wp2)
         go_roundg k1
         case measure => have := HK1.out; omega
         case rel => exact ⟨(wrap64 (x11_1 + 1)), (by first | rfl | (simp; done) | (simp [*]; done)), H', ⟨by have := HK1.out; omega⟩, by repeat (first | exact Drawn0.refl _ | apply Drawn0.step)⟩
      ·rw [if_neg c5] at H
       exact absurd H (by simp)
     ·rw [if_neg c4] at H
      exact absurd H (by simp)
    ·rw [if_neg c3] at H
     have c3b0 : decide (x11_1 < (l0.length : Int)) = false := decide_eq_false c3
     clear c3
     have H' := Aside0.mk H
     clear H
     go_wp2
     repeat (go_quiet (fail); try go_wp2)
     go_loopg [24] k1 (fun kq v24 w' => ∃ (x24_2 : Int), v24 = .int .i64 x24_2 ∧ Aside0 (reel_checkTurns.l1 kq l0 (l0.length : Int) x24_2 = some r) ∧ Aside0 (kq ≤ k1) ∧ Drawn0 w w')
     case atStart => exact ⟨(0), (by first | rfl | (simp; done) | (simp [*]; done)), H', ⟨Nat.le_refl _⟩, by repeat (first | exact Drawn0.refl _ | apply Drawn0.step)⟩
     case round =>
      clear H'
      try clear c2
      try clear c2b0
      try clear c2b1
      try clear p2
      try clear q2
      try clear hx2
      try clear c3
      try clear c3b0
      try clear c4
      try clear c4b0
      try clear c5
      try clear c5b0
      try clear c6
      try clear c6b0
      try clear p6
      try clear c7
      try clear c7b0
      try clear hx29001_0
      try clear p2
      try clear p29001
      try clear q29001
      obtain ⟨x24_2, rfl, HA, HK2, ⟨m2, rfl⟩⟩ := hrel
      cases gk with
      | zero => exact absurd HA.out (by simp [reel_checkTurns.l1])
      | succ k2 =>
       have H := HA.out
       clear HA
       simp only [reel_checkTurns.l1] at H
       by_cases c8 : x24_2 < (l0.length : Int)
       ·rw [if_pos c8] at H
        have c8b0 : decide (x24_2 < (l0.length : Int)) = true := decide_eq_true c8
        clear c8
        by_cases c9 : x24_2 > 0
        ·rw [if_pos c9] at H
         have c9b0 : decide (0 < x24_2) = true := decide_eq_true c9
         clear c9
         by_cases c10 : 0 ≤ x24_2
         ·rw [if_pos c10] at H
          have c10b0 : decide (0 ≤ x24_2) = true := decide_eq_true c10
          clear c10
          by_cases c11 : x24_2 < (l0.length : Int)
          ·rw [if_pos c11] at H
           have c11b0 : decide (x24_2 < (l0.length : Int)) = true := decide_eq_true c11
           clear c11
           obtain ⟨ji12, hji12⟩ : ∃ j_ : Int, (wrap64 (x24_2 - 1)) = j_ := ⟨_, rfl⟩
           replace H : (if 0 ≤ (ji12) then (if (ji12) < (l0.length : Int) then (if (rd l0 x24_2) ≤ (rd l0 (ji12)) then (some 9) else (reel_checkTurns.l1 k2 l0 (l0.length : Int) (wrap64 (x24_2 + 1)))) else (none)) else (none)) = some r := by first | (rw [hji12] at H; exact H) | (simp only [hji12] at H ⊢; exact H)
           have hji12w : (IntKind.i64.wrap (x24_2 - 1)) = ji12 := (i64_w _).trans hji12
           by_cases c13 : 0 ≤ (ji12)
           ·rw [if_pos c13] at H
            have c13b0 : decide (0 ≤ (ji12)) = true := decide_eq_true c13
            clear c13
            by_cases c14 : (ji12) < (l0.length : Int)
            ·rw [if_pos c14] at H
             have c14b0 : decide ((ji12) < (l0.length : Int)) = true := decide_eq_true c14
             clear c14
             by_cases c15 : (rd l0 x24_2) ≤ (rd l0 (ji12))
             ·rw [if_pos c15] at H
              have c15b0 : decide ((rd l0 x24_2) ≤ (rd l0 (ji12))) = true := decide_eq_true c15
              clear c15
              obtain rfl := Option.some.inj H
              have p29002 : 0 ≤ (x24_2 : Int) := of_decide_eq_true (by first | (with_reducible assumption) | assumption)
              have q29002 : x24_2 < (l0.length : Int) := of_decide_eq_true (by first | (with_reducible assumption) | assumption)
              obtain ⟨ad29002, e29002, hx29002_0⟩ := Kd.at_int HR0.out x24_2 p29002 q29002
              cases e29002
              replace p29002 := eq_true p29002
              replace q29002 := eq_true q29002
              have p29003 : 0 ≤ ((ji12) : Int) := of_decide_eq_true (by first | (with_reducible assumption) | assumption)
              have q29003 : (ji12) < (l0.length : Int) := of_decide_eq_true (by first | (with_reducible assumption) | assumption)
              obtain ⟨ad29003, e29003, hx29003_0⟩ := Kd.at_int HR0.out (ji12) p29003 q29003
              obtain rfl : ad29002 = ad29003 := (by injection e29003)
              replace p29003 := eq_true p29003
              replace q29003 := eq_true q29003
              go_wp2
              repeat (go_quiet (fail); try go_wp2)
              go_ret
              exact ⟨by first | rfl | (simp; done) | (simp only [← hji12] <;> (first | rfl | (simp; done))) | (simp [*]; done), by repeat (first | exact Drawn0.refl _ | apply Drawn0.step)⟩
             ·rw [if_neg c15] at H
              have c15b0 : decide ((rd l0 x24_2) ≤ (rd l0 (ji12))) = false := decide_eq_false c15
              clear c15
              have H' := Aside0.mk H
              clear H
              have p29002 : 0 ≤ (x24_2 : Int) := of_decide_eq_true (by first | (with_reducible assumption) | assumption)
              have q29002 : x24_2 < (l0.length : Int) := of_decide_eq_true (by first | (with_reducible assumption) | assumption)
              obtain ⟨ad29002, e29002, hx29002_0⟩ := Kd.at_int HR0.out x24_2 p29002 q29002
              cases e29002
              replace p29002 := eq_true p29002
              replace q29002 := eq_true q29002
              have p29003 : 0 ≤ ((ji12) : Int) := of_decide_eq_true (by first | (with_reducible assumption) | assumption)
              have q29003 : (ji12) < (l0.length : Int) := of_decide_eq_true (by first | (with_reducible assumption) | assumption)
              obtain ⟨ad29003, e29003, hx29003_0⟩ := Kd.at_int HR0.out (ji12) p29003 q29003
              obtain rfl : ad29002 = ad29003 := (by injection e29003)
              replace p29003 := eq_true p29003
              replace q29003 := eq_true q29003
              go_wp2
              repeat (go_quiet (fail); try go_wp2)
              go_roundg k2
              case measure => have := HK1.out; have := HK2.out; omega
              case rel => exact ⟨(wrap64 (x24_2 + 1)), (by first | rfl | (simp; done) | (simp [*]; done)), H', ⟨by have := HK1.out; have := HK2.out; omega⟩, by repeat (first | exact Drawn0.refl _ | apply Drawn0.step)⟩
            ·rw [if_neg c14] at H
             exact absurd H (by simp)
           ·rw [if_neg c13] at H
            exact absurd H (by simp)
          ·rw [if_neg c11] at H
           exact absurd H (by simp)
         ·rw [if_neg c10] at H
          exact absurd H (by simp)
        ·rw [if_neg c9] at H
         have c9b0 : decide (0 < x24_2) = false := decide_eq_false c9
         clear c9
         have H' := Aside0.mk H
         clear H
         go_wp2
         repeat (go_quiet (fail); try go_wp2)
         go_roundg k2
         case measure => have := HK1.out; have := HK2.out; omega
         case rel => exact ⟨(wrap64 (x24_2 + 1)), (by first | rfl | (simp; done) | (simp [*]; done)), H', ⟨by have := HK1.out; have := HK2.out; omega⟩, by repeat (first | exact Drawn0.refl _ | apply Drawn0.step)⟩
       ·rw [if_neg c8] at H
        have c8b0 : decide (x24_2 < (l0.length : Int)) = false := decide_eq_false c8
        clear c8
        obtain rfl := Option.some.inj H
        go_wp2
        repeat (go_quiet (fail); try go_wp2)
        go_ret
        exact ⟨by first | rfl | (simp; done) | (simp [*]; done), by repeat (first | exact Drawn0.refl _ | apply Drawn0.step)⟩

end Go.Proofs.Ytfdfpdiemeomiaa.G

namespace Go.Proofs.Ytfdfpdiemeomiaa.G
open Go.RowKit Go.Proofs.YtfdfpdiemeomiaaW.PrintWords Go.Proofs.YtfdfpdiemeomiaaW.PrintLast Go.Proofs.YtfdfpdiemeomiaaW.PrintMore
attribute [local go_sem] max2_int min2_int max_two min_two max_three min_three max_four min_four   -- for this text's walks alone
set_option linter.unusedVariables false
set_option linter.unusedSimpArgs false

attribute [local go_sem high] eqA36
def papermillref04_Same.l0 : Nat → List (S36) → List (S36) → Int → Option (Bool)
 | 0, _, _, _ => none
 | k + 1, x0, x1, x5 => if x5 < (x0.length : Int) then (if 0 ≤ x5 then (if x5 < (x1.length : Int) then (if (!(((rd_T36 x0 x5).f0) == ((rd_T36 x1 x5).f0)) || (!(((rd_T36 x0 x5).f1) == ((rd_T36 x1 x5).f1)))) = true then (some false) else (papermillref04_Same.l0 k x0 x1 (wrap64 (x5 + 1)))) else (none)) else (none)) else (some true)
def papermillref04_Same.f (k : Nat) (l0 : List (S36)) (l1 : List (S36)) : Option (Bool) := if (l0.length : Int) = (l1.length : Int) then (papermillref04_Same.l0 k l0 l1 0) else (some false)
theorem papermillref04_Same.mono_l : ∀ k, (∀ y0 y1 y2, LeO (papermillref04_Same.l0 k y0 y1 y2) (papermillref04_Same.l0 (k + 1) y0 y1 y2))
 | 0 => fun _ _ _ r h => by simp [papermillref04_Same.l0] at h
 | k + 1 => by
  have ih0 := papermillref04_Same.mono_l k
  ·intro y0 y1 y2
   unfold papermillref04_Same.l0
   repeat' first
   | (with_reducible exact ih0 _ _ _)
   | (with_reducible exact LeO.refl _)
   | (with_reducible exact LeO.none _)
   | (with_reducible refine LeO.ite ?_ ?_)
   | (with_reducible refine LeO.bind ?_ (fun _ => ?_))
   | exact ih0 _ _ _
   | exact LeO.none _
   | refine LeO.ite ?_ ?_
   | refine LeO.bind ?_ (fun _ => ?_)
theorem papermillref04_Same.mono : ∀ a0 a1 k, LeO (papermillref04_Same.f k a0 a1) (papermillref04_Same.f (k + 1) a0 a1) := by
 intro a0 a1 k
 have ih0 := papermillref04_Same.mono_l k
 unfold papermillref04_Same.f
 repeat' first
   | (with_reducible exact ih0 _ _ _)
   | (with_reducible exact LeO.refl _)
   | (with_reducible exact LeO.none _)
   | (with_reducible refine LeO.ite ?_ ?_)
   | (with_reducible refine LeO.bind ?_ (fun _ => ?_))
   | exact ih0 _ _ _
   | exact LeO.none _
   | refine LeO.ite ?_ ?_
   | refine LeO.bind ?_ (fun _ => ?_)
set_option maxHeartbeats 8000000 in
set_option maxRecDepth 100000 in
theorem papermillref04_Same.calls (k : Nat) (A0 : Option Addr) (c0 : Nat) (l0 : List (S36)) (A1 : Option Addr) (c1 : Nat) (l1 : List (S36)) (r : Bool) (w : World) (hr0 : Kd.C k36 w A0 l0.length l0) (hc0 : l0.length ≤ c0) (hr1 : Kd.C k36 w A1 l1.length l1) (hc1 : l1.length ≤ c1) (h : papermillref04_Same.f k l0 l1 = some r) :
  Calls Try.prog 17 #[.slice A0 l0.length c0, .slice A1 l1.length c1] w fun e w' => e = .returned (.bool r) ∧ Drawn0 w w' := by
 have hu36 := Try.underlying36
 have HR0 := Aside0.mk hr0
 have HC0 := Aside0.mk hc0
 clear hr0 hc0
 have HR1 := Aside0.mk hr1
 have HC1 := Aside0.mk hc1
 clear hr1 hc1
 have H : (if (l0.length : Int) = (l1.length : Int) then (papermillref04_Same.l0 k l0 l1 0) else (some false)) = some r := h
 clear h
 by_cases c3 : (l0.length : Int) = (l1.length : Int)
 ·rw [if_pos c3] at H
  have c3b0 : ((l0.length : Int) == (l1.length : Int)) = true := beq_iff_eq.mpr c3
  have c3b1 : ((l0.length : Int) != (l1.length : Int)) = false := bne_eq_false_iff_eq.mpr c3
  have c3b2 : (l0.length == l1.length) = true := by first | simpa using c3 | (simp at c3 ⊢; omega)
  clear c3
  have H' := Aside0.mk H
  clear H
  go_enter Try.func17, Try.ntmps17
  go_wp2
  repeat (go_quiet (fail); try go_wp2)
  go_loopg [5] k (fun kq v5 w' => ∃ (x5_1 : Int), v5 = .int .i64 x5_1 ∧ Aside0 (papermillref04_Same.l0 kq l0 l1 x5_1 = some r) ∧ Aside0 (kq ≤ k) ∧ Drawn0 w w')
  case atStart => exact ⟨(0), (by first | rfl | (simp; done) | (simp [*]; done)), H', ⟨Nat.le_refl _⟩, by repeat (first | exact Drawn0.refl _ | apply Drawn0.step)⟩
  case round =>
   clear H'
   try clear c1
   try clear p2
   try clear c3
   try clear c3b0
   try clear c3b1
   try clear c3b2
   obtain ⟨x5_1, rfl, HA, HK1, ⟨m1, rfl⟩⟩ := hrel
   cases gk with
   | zero => exact absurd HA.out (by simp [papermillref04_Same.l0])
   | succ k1 =>
    have H := HA.out
    clear HA
    simp only [papermillref04_Same.l0] at H
    by_cases c4 : x5_1 < (l0.length : Int)
    ·rw [if_pos c4] at H
     have c4b0 : decide (x5_1 < (l0.length : Int)) = true := decide_eq_true c4
     clear c4
     by_cases c5 : 0 ≤ x5_1
     ·rw [if_pos c5] at H
      have c5b0 : decide (0 ≤ x5_1) = true := decide_eq_true c5
      clear c5
      by_cases c6 : x5_1 < (l1.length : Int)
      ·rw [if_pos c6] at H
       have c6b0 : decide (x5_1 < (l1.length : Int)) = true := decide_eq_true c6
       clear c6
       by_cases c7 : (!(((rd_T36 l0 x5_1).f0) == ((rd_T36 l1 x5_1).f0)) || (!(((rd_T36 l0 x5_1).f1) == ((rd_T36 l1 x5_1).f1)))) = true
       ·rw [if_pos c7] at H
        have c7b0 : (!(((rd_T36 l0 x5_1).f0) == ((rd_T36 l1 x5_1).f0)) || (!(((rd_T36 l0 x5_1).f1) == ((rd_T36 l1 x5_1).f1)))) = true := c7
        clear c7
        obtain rfl := Option.some.inj H
        have p18001 : 0 ≤ (x5_1 : Int) := of_decide_eq_true (by assumption)
        have q18001 : x5_1 < (l0.length : Int) := of_decide_eq_true (by assumption)
        obtain ⟨ad18001, e18001, hx18001_0, hx18001_1⟩ := at_T36 HR0.out x5_1 p18001 q18001
        cases e18001
        replace p18001 := eq_true p18001
        replace q18001 := eq_true q18001
        have p18002 : 0 ≤ (x5_1 : Int) := of_decide_eq_true (by assumption)
        have q18002 : x5_1 < (l1.length : Int) := of_decide_eq_true (by assumption)
        obtain ⟨ad18002, e18002, hx18002_0, hx18002_1⟩ := at_T36 HR1.out x5_1 p18002 q18002
        cases e18002
        replace p18002 := eq_true p18002
        replace q18002 := eq_true q18002
        go_wp2
        repeat (go_quiet (fail); try go_wp2)
        go_ret
        exact ⟨by first | rfl | (simp; done) | (simp [*]; done), by repeat (first | exact Drawn0.refl _ | apply Drawn0.step)⟩
       ·rw [if_neg c7] at H
        have c7b0 : (!(((rd_T36 l0 x5_1).f0) == ((rd_T36 l1 x5_1).f0)) || (!(((rd_T36 l0 x5_1).f1) == ((rd_T36 l1 x5_1).f1)))) = false := by simpa using c7
        clear c7
        have H' := Aside0.mk H
        clear H
        have p18001 : 0 ≤ (x5_1 : Int) := of_decide_eq_true (by assumption)
        have q18001 : x5_1 < (l0.length : Int) := of_decide_eq_true (by assumption)
        obtain ⟨ad18001, e18001, hx18001_0, hx18001_1⟩ := at_T36 HR0.out x5_1 p18001 q18001
        cases e18001
        replace p18001 := eq_true p18001
        replace q18001 := eq_true q18001
        have p18002 : 0 ≤ (x5_1 : Int) := of_decide_eq_true (by assumption)
        have q18002 : x5_1 < (l1.length : Int) := of_decide_eq_true (by assumption)
        obtain ⟨ad18002, e18002, hx18002_0, hx18002_1⟩ := at_T36 HR1.out x5_1 p18002 q18002
        cases e18002
        replace p18002 := eq_true p18002
        replace q18002 := eq_true q18002
        go_wp2
        repeat (go_quiet (fail); try go_wp2)
        go_roundg k1
        case measure => have := HK1.out; omega
        case rel => exact ⟨(wrap64 (x5_1 + 1)), (by first | rfl | (simp; done) | (simp [*]; done)), H', ⟨by have := HK1.out; omega⟩, by repeat (first | exact Drawn0.refl _ | apply Drawn0.step)⟩
      ·rw [if_neg c6] at H
       exact absurd H (by simp)
     ·rw [if_neg c5] at H
      exact absurd H (by simp)
    ·rw [if_neg c4] at H
     have c4b0 : decide (x5_1 < (l0.length : Int)) = false := decide_eq_false c4
     clear c4
     obtain rfl := Option.some.inj H
     go_wp2
     repeat (go_quiet (fail); try go_wp2)
     go_ret
     exact ⟨by first | rfl | (simp; done) | (simp [*]; done), by repeat (first | exact Drawn0.refl _ | apply Drawn0.step)⟩
 ·rw [if_neg c3] at H
  have c3b0 : ((l0.length : Int) == (l1.length : Int)) = false := beq_eq_false_iff_ne.mpr c3
  have c3b1 : ((l0.length : Int) != (l1.length : Int)) = true := bne_iff_ne.mpr c3
  have c3b2 : (l0.length == l1.length) = false := by first | simpa using c3 | (simp at c3 ⊢; omega)
  obtain rfl := Option.some.inj H
  go_enter Try.func17, Try.ntmps17
  go_wp2
  repeat (go_quiet (fail); try go_wp2)
  go_ret
  exact ⟨by first | rfl | (simp; done) | (simp [*]; done), by repeat (first | exact Drawn0.refl _ | apply Drawn0.step)⟩

end Go.Proofs.Ytfdfpdiemeomiaa.G

namespace Go.Proofs.Ytfdfpdiemeomiaa.G
open Go.RowKit Go.Proofs.YtfdfpdiemeomiaaW.PrintWords Go.Proofs.YtfdfpdiemeomiaaW.PrintLast Go.Proofs.YtfdfpdiemeomiaaW.PrintMore
attribute [local go_sem] max2_int min2_int max_two min_two max_three min_three max_four min_four   -- for this text's walks alone
set_option linter.unusedVariables false
set_option linter.unusedSimpArgs false

theorem eqA44 (d : Nat) (w : World) (x0 y0 : Int) (x1 y1 : Int) (x2 y2 : Int) (x3 y3 : Int) (x4 y4 : Int) :
  (Op.equalIn (d + 2) 44 (.agg #[.int .i64 x0, .int .i64 x1, .int .i64 x2, .int .i64 x3, .int .i64 x4]) (.agg #[.int .i64 y0, .int .i64 y1, .int .i64 y2, .int .i64 y3, .int .i64 y4])).run Try.prog w = .ok (x0 == y0 && (x1 == y1 && (x2 == y2 && (x3 == y3 && (x4 == y4))))) w := by
 refine eqA_of Try.underlying44 (by kernel_rfl) ?_
 refine eqf_cons (by rfl) (by go_simp; rfl) (by go_simp; rfl) (by go_simp) ?_
 refine eqf_cons (by rfl) (by go_simp; rfl) (by go_simp; rfl) (by go_simp) ?_
 refine eqf_cons (by rfl) (by go_simp; rfl) (by go_simp; rfl) (by go_simp) ?_
 refine eqf_cons (by rfl) (by go_simp; rfl) (by go_simp; rfl) (by go_simp) ?_
 exact eqf_last (by rfl) (by go_simp; rfl) (by go_simp; rfl) (by go_simp)
end Go.Proofs.Ytfdfpdiemeomiaa.G

namespace Go.Proofs.Ytfdfpdiemeomiaa.G
open Go.RowKit Go.Proofs.YtfdfpdiemeomiaaW.PrintWords Go.Proofs.YtfdfpdiemeomiaaW.PrintLast Go.Proofs.YtfdfpdiemeomiaaW.PrintMore
attribute [local go_sem] max2_int min2_int max_two min_two max_three min_three max_four min_four   -- for this text's walks alone
set_option linter.unusedVariables false
set_option linter.unusedSimpArgs false

attribute [local go_sem high] eqA44
def papermillref34_Same.l0 : Nat → List (S44) → List (S44) → Int → Option (Bool)
 | 0, _, _, _ => none
 | k + 1, x0, x1, x5 => if x5 < (x0.length : Int) then (if 0 ≤ x5 then (if x5 < (x1.length : Int) then (if (!(((rd_T44 x0 x5).f0) == ((rd_T44 x1 x5).f0)) || (!(((rd_T44 x0 x5).f1) == ((rd_T44 x1 x5).f1)) || (!(((rd_T44 x0 x5).f2) == ((rd_T44 x1 x5).f2)) || (!(((rd_T44 x0 x5).f3) == ((rd_T44 x1 x5).f3)) || (!(((rd_T44 x0 x5).f4) == ((rd_T44 x1 x5).f4))))))) = true then (some false) else (papermillref34_Same.l0 k x0 x1 (wrap64 (x5 + 1)))) else (none)) else (none)) else (some true)
def papermillref34_Same.f (k : Nat) (l0 : List (S44)) (l1 : List (S44)) : Option (Bool) := if (l0.length : Int) = (l1.length : Int) then (papermillref34_Same.l0 k l0 l1 0) else (some false)
theorem papermillref34_Same.mono_l : ∀ k, (∀ y0 y1 y2, LeO (papermillref34_Same.l0 k y0 y1 y2) (papermillref34_Same.l0 (k + 1) y0 y1 y2))
 | 0 => fun _ _ _ r h => by simp [papermillref34_Same.l0] at h
 | k + 1 => by
  have ih0 := papermillref34_Same.mono_l k
  ·intro y0 y1 y2
   unfold papermillref34_Same.l0
   repeat' first
   | (with_reducible exact ih0 _ _ _)
   | (with_reducible exact LeO.refl _)
   | (with_reducible exact LeO.none _)
   | (with_reducible refine LeO.ite ?_ ?_)
   | (with_reducible refine LeO.bind ?_ (fun _ => ?_))
   | exact ih0 _ _ _
   | exact LeO.none _
   | refine LeO.ite ?_ ?_
   | refine LeO.bind ?_ (fun _ => ?_)
theorem papermillref34_Same.mono : ∀ a0 a1 k, LeO (papermillref34_Same.f k a0 a1) (papermillref34_Same.f (k + 1) a0 a1) := by
 intro a0 a1 k
 have ih0 := papermillref34_Same.mono_l k
 unfold papermillref34_Same.f
 repeat' first
   | (with_reducible exact ih0 _ _ _)
   | (with_reducible exact LeO.refl _)
   | (with_reducible exact LeO.none _)
   | (with_reducible refine LeO.ite ?_ ?_)
   | (with_reducible refine LeO.bind ?_ (fun _ => ?_))
   | exact ih0 _ _ _
   | exact LeO.none _
   | refine LeO.ite ?_ ?_
   | refine LeO.bind ?_ (fun _ => ?_)
set_option maxHeartbeats 8000000 in
set_option maxRecDepth 100000 in
theorem papermillref34_Same.calls (k : Nat) (A0 : Option Addr) (c0 : Nat) (l0 : List (S44)) (A1 : Option Addr) (c1 : Nat) (l1 : List (S44)) (r : Bool) (w : World) (hr0 : Kd.C k44 w A0 l0.length l0) (hc0 : l0.length ≤ c0) (hr1 : Kd.C k44 w A1 l1.length l1) (hc1 : l1.length ≤ c1) (h : papermillref34_Same.f k l0 l1 = some r) :
  Calls Try.prog 24 #[.slice A0 l0.length c0, .slice A1 l1.length c1] w fun e w' => e = .returned (.bool r) ∧ Drawn0 w w' := by
 have hu44 := Try.underlying44
 have HR0 := Aside0.mk hr0
 have HC0 := Aside0.mk hc0
 clear hr0 hc0
 have HR1 := Aside0.mk hr1
 have HC1 := Aside0.mk hc1
 clear hr1 hc1
 have H : (if (l0.length : Int) = (l1.length : Int) then (papermillref34_Same.l0 k l0 l1 0) else (some false)) = some r := h
 clear h
 by_cases c3 : (l0.length : Int) = (l1.length : Int)
 ·rw [if_pos c3] at H
  have c3b0 : ((l0.length : Int) == (l1.length : Int)) = true := beq_iff_eq.mpr c3
  have c3b1 : ((l0.length : Int) != (l1.length : Int)) = false := bne_eq_false_iff_eq.mpr c3
  have c3b2 : (l0.length == l1.length) = true := by first | simpa using c3 | (simp at c3 ⊢; omega)
  clear c3
  have H' := Aside0.mk H
  clear H
  go_enter Try.func24, Try.ntmps24
  go_wp2
  repeat (go_quiet (fail); try go_wp2)
  go_loopg [5] k (fun kq v5 w' => ∃ (x5_1 : Int), v5 = .int .i64 x5_1 ∧ Aside0 (papermillref34_Same.l0 kq l0 l1 x5_1 = some r) ∧ Aside0 (kq ≤ k) ∧ Drawn0 w w')
  case atStart => exact ⟨(0), (by first | rfl | (simp; done) | (simp [*]; done)), H', ⟨Nat.le_refl _⟩, by repeat (first | exact Drawn0.refl _ | apply Drawn0.step)⟩
  case round =>
   clear H'
   try clear c1
   try clear c2
   try clear p2
   try clear c3
   try clear c3b0
   try clear c3b1
   try clear c3b2
   obtain ⟨x5_1, rfl, HA, HK1, ⟨m1, rfl⟩⟩ := hrel
   cases gk with
   | zero => exact absurd HA.out (by simp [papermillref34_Same.l0])
   | succ k1 =>
    have H := HA.out
    clear HA
    simp only [papermillref34_Same.l0] at H
    by_cases c4 : x5_1 < (l0.length : Int)
    ·rw [if_pos c4] at H
     have c4b0 : decide (x5_1 < (l0.length : Int)) = true := decide_eq_true c4
     clear c4
     by_cases c5 : 0 ≤ x5_1
     ·rw [if_pos c5] at H
      have c5b0 : decide (0 ≤ x5_1) = true := decide_eq_true c5
      clear c5
      by_cases c6 : x5_1 < (l1.length : Int)
      ·rw [if_pos c6] at H
       have c6b0 : decide (x5_1 < (l1.length : Int)) = true := decide_eq_true c6
       clear c6
       by_cases c7 : (!(((rd_T44 l0 x5_1).f0) == ((rd_T44 l1 x5_1).f0)) || (!(((rd_T44 l0 x5_1).f1) == ((rd_T44 l1 x5_1).f1)) || (!(((rd_T44 l0 x5_1).f2) == ((rd_T44 l1 x5_1).f2)) || (!(((rd_T44 l0 x5_1).f3) == ((rd_T44 l1 x5_1).f3)) || (!(((rd_T44 l0 x5_1).f4) == ((rd_T44 l1 x5_1).f4))))))) = true
       ·rw [if_pos c7] at H
        have c7b0 : (!(((rd_T44 l0 x5_1).f0) == ((rd_T44 l1 x5_1).f0)) || (!(((rd_T44 l0 x5_1).f1) == ((rd_T44 l1 x5_1).f1)) || (!(((rd_T44 l0 x5_1).f2) == ((rd_T44 l1 x5_1).f2)) || (!(((rd_T44 l0 x5_1).f3) == ((rd_T44 l1 x5_1).f3)) || (!(((rd_T44 l0 x5_1).f4) == ((rd_T44 l1 x5_1).f4))))))) = true := c7
        clear c7
        obtain rfl := Option.some.inj H
        have p25001 : 0 ≤ (x5_1 : Int) := of_decide_eq_true (by assumption)
        have q25001 : x5_1 < (l0.length : Int) := of_decide_eq_true (by assumption)
        obtain ⟨ad25001, e25001, hx25001_0, hx25001_1, hx25001_2, hx25001_3, hx25001_4⟩ := at_T44 HR0.out x5_1 p25001 q25001
        cases e25001
        replace p25001 := eq_true p25001
        replace q25001 := eq_true q25001
        have p25002 : 0 ≤ (x5_1 : Int) := of_decide_eq_true (by assumption)
        have q25002 : x5_1 < (l1.length : Int) := of_decide_eq_true (by assumption)
        obtain ⟨ad25002, e25002, hx25002_0, hx25002_1, hx25002_2, hx25002_3, hx25002_4⟩ := at_T44 HR1.out x5_1 p25002 q25002
        cases e25002
        replace p25002 := eq_true p25002
        replace q25002 := eq_true q25002
        go_wp2
        repeat (go_quiet (fail); try go_wp2)
        go_ret
        exact ⟨by first | rfl | (simp; done) | (simp [*]; done), by repeat (first | exact Drawn0.refl _ | apply Drawn0.step)⟩
       ·rw [if_neg c7] at H
        have c7b0 : (!(((rd_T44 l0 x5_1).f0) == ((rd_T44 l1 x5_1).f0)) || (!(((rd_T44 l0 x5_1).f1) == ((rd_T44 l1 x5_1).f1)) || (!(((rd_T44 l0 x5_1).f2) == ((rd_T44 l1 x5_1).f2)) || (!(((rd_T44 l0 x5_1).f3) == ((rd_T44 l1 x5_1).f3)) || (!(((rd_T44 l0 x5_1).f4) == ((rd_T44 l1 x5_1).f4))))))) = false := by simpa using c7
        clear c7
        have H' := Aside0.mk H
        clear H
        have p25001 : 0 ≤ (x5_1 : Int) := of_decide_eq_true (by assumption)
        have q25001 : x5_1 < (l0.length : Int) := of_decide_eq_true (by assumption)
        obtain ⟨ad25001, e25001, hx25001_0, hx25001_1, hx25001_2, hx25001_3, hx25001_4⟩ := at_T44 HR0.out x5_1 p25001 q25001
        cases e25001
        replace p25001 := eq_true p25001
        replace q25001 := eq_true q25001
        have p25002 : 0 ≤ (x5_1 : Int) := of_decide_eq_true (by assumption)
        have q25002 : x5_1 < (l1.length : Int) := of_decide_eq_true (by assumption)
        obtain ⟨ad25002, e25002, hx25002_0, hx25002_1, hx25002_2, hx25002_3, hx25002_4⟩ := at_T44 HR1.out x5_1 p25002 q25002
        cases e25002
        replace p25002 := eq_true p25002
        replace q25002 := eq_true q25002
        go_wp2
        repeat (go_quiet (fail); try go_wp2)
        go_roundg k1
        case measure => have := HK1.out; omega
        case rel => exact ⟨(wrap64 (x5_1 + 1)), (by first | rfl | (simp; done) | (simp [*]; done)), H', ⟨by have := HK1.out; omega⟩, by repeat (first | exact Drawn0.refl _ | apply Drawn0.step)⟩
      ·rw [if_neg c6] at H
       exact absurd H (by simp)
     ·rw [if_neg c5] at H
      exact absurd H (by simp)
    ·rw [if_neg c4] at H
     have c4b0 : decide (x5_1 < (l0.length : Int)) = false := decide_eq_false c4
     clear c4
     obtain rfl := Option.some.inj H
     go_wp2
     repeat (go_quiet (fail); try go_wp2)
     go_ret
     exact ⟨by first | rfl | (simp; done) | (simp [*]; done), by repeat (first | exact Drawn0.refl _ | apply Drawn0.step)⟩
 ·rw [if_neg c3] at H
  have c3b0 : ((l0.length : Int) == (l1.length : Int)) = false := beq_eq_false_iff_ne.mpr c3
  have c3b1 : ((l0.length : Int) != (l1.length : Int)) = true := bne_iff_ne.mpr c3
  have c3b2 : (l0.length == l1.length) = false := by first | simpa using c3 | (simp at c3 ⊢; omega)
  obtain rfl := Option.some.inj H
  go_enter Try.func24, Try.ntmps24
  go_wp2
  repeat (go_quiet (fail); try go_wp2)
  go_ret
  exact ⟨by first | rfl | (simp; done) | (simp [*]; done), by repeat (first | exact Drawn0.refl _ | apply Drawn0.step)⟩

end Go.Proofs.Ytfdfpdiemeomiaa.G

namespace Go.Proofs.Ytfdfpdiemeomiaa.G
open Go.RowKit Go.Proofs.YtfdfpdiemeomiaaW.PrintWords Go.Proofs.YtfdfpdiemeomiaaW.PrintLast Go.Proofs.YtfdfpdiemeomiaaW.PrintMore
set_option linter.unusedVariables false
set_option linter.unusedSimpArgs false
theorem flat_get {α : Type} (enc : α → List Value) (sz : Nat) (hs : ∀ x, (enc x).length = sz) : ∀ (xs : List α) (j i : Nat) (p : α), xs[j]? = some p → i < sz → (xs.flatMap enc)[j * sz + i]? = (enc p)[i]?
 | [], j, i, p, h, _ => by simp at h
 | x :: xs, 0, i, p, h, hi => by
  simp at h; subst h
  rw [List.flatMap_cons, Nat.zero_mul, Nat.zero_add, List.getElem?_append_left (by rw [hs]; exact hi)]
 | x :: xs, j + 1, i, p, h, hi => by
  rw [List.flatMap_cons, List.getElem?_append_right (by rw [hs, Nat.add_mul]; omega), hs, show (j + 1) * sz + i - sz = j * sz + i by rw [Nat.add_mul]; omega]
  exact flat_get enc sz hs xs j i p (by simpa using h) hi
theorem C_block {α : Type} (d : Kd α) {W : World} {g e : Nat} {cells : Array Value} (xs : List α) (enc : α → List Value) (hK : ∀ x, d.K W x (enc x)) (hb : W.heap[g]? = some (.cells cells e (0, 0))) (hc : cells.toList = xs.flatMap enc) (hl : xs.length ≤ 9223372036854775807) :
  Kd.C d W (some ⟨g, 0, none⟩) xs.length xs :=
 ⟨rfl, hl, fun _ => ⟨_, rfl, fun j p hj => ⟨enc p, d.K_len (hK p), hK p, fun i u hu => by
  rw [add_plain, blk_cell hb]
  have hi : i < d.sz := by rw [← d.K_len (hK p)]; exact (List.getElem?_eq_some_iff.1 hu).1
  have := flat_get enc d.sz (fun x => d.K_len (hK x)) xs j i p hj hi
  rw [← hc, Array.getElem?_toList] at this
  rw [this]; exact hu⟩⟩⟩
theorem CI_block {W : World} {g : Nat} {cells : Array Value} (xs : List Int) (hb : W.heap[g]? = some (.cells cells 3 (0, 0))) (hc : cells.toList = xs.flatMap fun x => [.int .i64 x]) (hl : xs.length ≤ 1000) : Kd.C (Kd.int .i64) W (some ⟨g, 0, none⟩) xs.length xs :=
 C_block (Kd.int .i64) xs _ (fun x => rfl) hb hc (by omega)
end Go.Proofs.Ytfdfpdiemeomiaa.G

namespace Go.Proofs.Ytfdfpdiemeomiaa.G
open Go.RowKit Go.Proofs.YtfdfpdiemeomiaaW.PrintWords Go.Proofs.YtfdfpdiemeomiaaW.PrintLast Go.Proofs.YtfdfpdiemeomiaaW.PrintMore
attribute [local go_sem] max2_int min2_int max_two min_two max_three min_three max_four min_four   -- for this text's walks alone
set_option linter.unusedVariables false
set_option linter.unusedSimpArgs false

theorem C44_block {W : World} {g : Nat} {cells : Array Value} (xs : List S44) (hb : W.heap[g]? = some (.cells cells 44 (0, 0))) (hc : cells.toList = xs.flatMap fun x => [.int .i64 x.f0, .int .i64 x.f1, .int .i64 x.f2, .int .i64 x.f3, .int .i64 x.f4]) (hl : xs.length ≤ 1000) : Kd.C k44 W (some ⟨g, 0, none⟩) xs.length xs :=
 C_block k44 xs _ (fun x => k44_mk W x) hb hc (by omega)

end Go.Proofs.Ytfdfpdiemeomiaa.G

namespace Go.Proofs.Ytfdfpdiemeomiaa.G
open Go.RowKit Go.Proofs.YtfdfpdiemeomiaaW.PrintWords Go.Proofs.YtfdfpdiemeomiaaW.PrintLast Go.Proofs.YtfdfpdiemeomiaaW.PrintMore
set_option linter.unusedVariables false
set_option linter.unusedSimpArgs false
theorem C36_block {W : World} {g : Nat} {cells : Array Value} (xs : List S36) (hb : W.heap[g]? = some (.cells cells 36 (0, 0))) (hc : cells.toList = xs.flatMap fun x => [.int .i64 x.f0, .int .i64 x.f1]) (hl : xs.length ≤ 1000) : Kd.C k36 W (some ⟨g, 0, none⟩) xs.length xs :=
 C_block k36 xs _ (fun x => k36_mk W x) hb hc (by omega)
end Go.Proofs.Ytfdfpdiemeomiaa.G
