-- Printed by drive.py, this session's program over the kit's print.py. Not trusted: Lean checks it.
import Derived.Test.YtfdfpdiemeomiaaGx0
namespace Go.Proofs.Ytfdfpdiemeomiaa.G
open Go.RowKit Go.Proofs.YtfdfpdiemeomiaaW.PrintWords Go.Proofs.YtfdfpdiemeomiaaW.PrintLast Go.Proofs.YtfdfpdiemeomiaaW.PrintMore
attribute [local go_sem] max2_int min2_int max_two min_two max_three min_three max_four min_four   -- for this text's walks alone
set_option linter.unusedVariables false
set_option linter.unusedSimpArgs false

/-! ### reel_checkOne: function 27 -/
mutual
def reel_checkOne.j0 : Nat → Bool → Int → Int → Int → Int → Int → Option (Int)
  | 0, _, _, _, _, _, _ => none
  | k + 1, x3, x28002000, x28002001, x28002002, x28002003, x28002004 => if x3 = true then (some 1) else (if x28002002 < 1 then (reel_checkOne.j1 k true x28002000 x28002001 x28002002 x28002003 x28002004) else (reel_checkOne.j1 k (decide (x28002002 > 3)) x28002000 x28002001 x28002002 x28002003 x28002004))
def reel_checkOne.j1 : Nat → Bool → Int → Int → Int → Int → Int → Option (Int)
  | 0, _, _, _, _, _, _ => none
  | k + 1, x19, x28002000, x28002001, x28002002, x28002003, x28002004 => if x19 = true then (some 17) else (if x28002003 < (-1) then (reel_checkOne.j2 k true x28002000 x28002001 x28002002 x28002003 x28002004) else (reel_checkOne.j2 k (decide (x28002003 ≥ 16)) x28002000 x28002001 x28002002 x28002003 x28002004))
def reel_checkOne.j2 : Nat → Bool → Int → Int → Int → Int → Int → Option (Int)
  | 0, _, _, _, _, _, _ => none
  | k + 1, x28, x28002000, x28002001, x28002002, x28002003, x28002004 => if x28 = true then (some 22) else (if x28002004 < 0 then (some 1) else (if x28002004 > 2048 then (some 1) else (some 0)))
end
def reel_checkOne.f (k : Nat) (a0_0 : Int) (a0_1 : Int) (a0_2 : Int) (a0_3 : Int) (a0_4 : Int) : Option (Int) := if a0_0 < 0 then (reel_checkOne.j0 k true a0_0 a0_1 a0_2 a0_3 a0_4) else (if a0_0 ≥ a0_1 then (reel_checkOne.j0 k true a0_0 a0_1 a0_2 a0_3 a0_4) else (reel_checkOne.j0 k (decide (a0_1 > 17179869184)) a0_0 a0_1 a0_2 a0_3 a0_4))
theorem reel_checkOne.mono_l : ∀ k, (∀ y0 y1 y2 y3 y4 y5, LeO (reel_checkOne.j0 k y0 y1 y2 y3 y4 y5) (reel_checkOne.j0 (k + 1) y0 y1 y2 y3 y4 y5)) ∧ (∀ y0 y1 y2 y3 y4 y5, LeO (reel_checkOne.j1 k y0 y1 y2 y3 y4 y5) (reel_checkOne.j1 (k + 1) y0 y1 y2 y3 y4 y5)) ∧ (∀ y0 y1 y2 y3 y4 y5, LeO (reel_checkOne.j2 k y0 y1 y2 y3 y4 y5) (reel_checkOne.j2 (k + 1) y0 y1 y2 y3 y4 y5))
  | 0 => ⟨fun _ _ _ _ _ _ r h => by simp [reel_checkOne.j0] at h, fun _ _ _ _ _ _ r h => by simp [reel_checkOne.j1] at h, fun _ _ _ _ _ _ r h => by simp [reel_checkOne.j2] at h⟩
  | k + 1 => by
    obtain ⟨ih0, ih1, ih2⟩ := reel_checkOne.mono_l k
    refine ⟨?_, ?_, ?_⟩
    · intro y0 y1 y2 y3 y4 y5
      unfold reel_checkOne.j0
      repeat' first
      | (with_reducible exact ih0 _ _ _ _ _ _)
      | (with_reducible exact ih1 _ _ _ _ _ _)
      | (with_reducible exact ih2 _ _ _ _ _ _)
      | (with_reducible exact LeO.refl _)
      | (with_reducible exact LeO.none _)
      | (with_reducible refine LeO.ite ?_ ?_)
      | (with_reducible refine LeO.bind ?_ (fun _ => ?_))
      | exact ih0 _ _ _ _ _ _
      | exact ih1 _ _ _ _ _ _
      | exact ih2 _ _ _ _ _ _
      | exact LeO.none _
      | refine LeO.ite ?_ ?_
      | refine LeO.bind ?_ (fun _ => ?_)
    · intro y0 y1 y2 y3 y4 y5
      unfold reel_checkOne.j1
      repeat' first
      | (with_reducible exact ih0 _ _ _ _ _ _)
      | (with_reducible exact ih1 _ _ _ _ _ _)
      | (with_reducible exact ih2 _ _ _ _ _ _)
      | (with_reducible exact LeO.refl _)
      | (with_reducible exact LeO.none _)
      | (with_reducible refine LeO.ite ?_ ?_)
      | (with_reducible refine LeO.bind ?_ (fun _ => ?_))
      | exact ih0 _ _ _ _ _ _
      | exact ih1 _ _ _ _ _ _
      | exact ih2 _ _ _ _ _ _
      | exact LeO.none _
      | refine LeO.ite ?_ ?_
      | refine LeO.bind ?_ (fun _ => ?_)
    · intro y0 y1 y2 y3 y4 y5
      unfold reel_checkOne.j2
      repeat' first
      | (with_reducible exact ih0 _ _ _ _ _ _)
      | (with_reducible exact ih1 _ _ _ _ _ _)
      | (with_reducible exact ih2 _ _ _ _ _ _)
      | (with_reducible exact LeO.refl _)
      | (with_reducible exact LeO.none _)
      | (with_reducible refine LeO.ite ?_ ?_)
      | (with_reducible refine LeO.bind ?_ (fun _ => ?_))
      | exact ih0 _ _ _ _ _ _
      | exact ih1 _ _ _ _ _ _
      | exact ih2 _ _ _ _ _ _
      | exact LeO.none _
      | refine LeO.ite ?_ ?_
      | refine LeO.bind ?_ (fun _ => ?_)
theorem reel_checkOne.mono : ∀ a0 a1 a2 a3 a4 k, LeO (reel_checkOne.f k a0 a1 a2 a3 a4) (reel_checkOne.f (k + 1) a0 a1 a2 a3 a4) := by
  intro a0 a1 a2 a3 a4 k
  obtain ⟨ih0, ih1, ih2⟩ := reel_checkOne.mono_l k
  unfold reel_checkOne.f
  repeat' first
      | (with_reducible exact ih0 _ _ _ _ _ _)
      | (with_reducible exact ih1 _ _ _ _ _ _)
      | (with_reducible exact ih2 _ _ _ _ _ _)
      | (with_reducible exact LeO.refl _)
      | (with_reducible exact LeO.none _)
      | (with_reducible refine LeO.ite ?_ ?_)
      | (with_reducible refine LeO.bind ?_ (fun _ => ?_))
      | exact ih0 _ _ _ _ _ _
      | exact ih1 _ _ _ _ _ _
      | exact ih2 _ _ _ _ _ _
      | exact LeO.none _
      | refine LeO.ite ?_ ?_
      | refine LeO.bind ?_ (fun _ => ?_)
set_option maxHeartbeats 8000000 in
set_option maxRecDepth 100000 in
theorem reel_checkOne.calls (k : Nat) (a0_0 : Int) (a0_1 : Int) (a0_2 : Int) (a0_3 : Int) (a0_4 : Int) (r : Int) (w : World) (h : reel_checkOne.f k a0_0 a0_1 a0_2 a0_3 a0_4 = some r) :
    Calls Try.prog 27 #[.agg #[.int .i64 a0_0, .int .i64 a0_1, .int .i64 a0_2, .int .i64 a0_3, .int .i64 a0_4]] w fun e w' => e = .returned (.int .i64 r) ∧ Below w.heap.size w w' := by
  have hu44 := Try.underlying44
  have HB := Aside0.mk (Below.refl w.heap.size w)
  have H : (if a0_0 < 0 then (reel_checkOne.j0 k true a0_0 a0_1 a0_2 a0_3 a0_4) else (if a0_0 ≥ a0_1 then (reel_checkOne.j0 k true a0_0 a0_1 a0_2 a0_3 a0_4) else (reel_checkOne.j0 k (decide (a0_1 > 17179869184)) a0_0 a0_1 a0_2 a0_3 a0_4))) = some r := h
  clear h
  have HC2 := Aside0.mk H
  clear H
  go_enter Try.func27, Try.ntmps27
  go_upto_region 1 with (first | ((with_reducible refine gate_dst (N := 1) rfl ?_); refine box_event ?hg (N := 1) ?hd (cs := #[.int .i64 a0_0, .int .i64 a0_1, .int .i64 a0_2, .int .i64 a0_3, .int .i64 a0_4]) (t := 44) ?hr ?_; (case hd => rfl); (case hg => rfl); (case hr => first | (go_simp; done) | (go_simp; rfl)); intro gb28001 hg w3 hbox hb; have n0_ := Aside0.mk (below_step (by repeat (first | (with_reducible first | exact HB.out | apply below_alloc | apply pw_below_drewN | apply below_drew1) | exact HB.out)) hb); have n1_ := Aside0.mk (hbox); have n2_ := Aside0.mk ((by rw [hg]; exact (below_size (by repeat (first | (with_reducible first | exact HB.out | apply below_alloc | apply pw_below_drewN | apply below_drew1) | exact HB.out))) : w.heap.size ≤ gb28001)); have n3_ := Aside0.mk ((by rw [hg]; exact (below_size (by repeat (first | (with_reducible first | exact HB.out | apply below_alloc | apply pw_below_drewN | apply below_drew1) | exact HB.out))) : w.heap.size ≤ gb28001)); clear HB; have HB := n0_; have BK28001 := n1_; have GW28001 := n2_; have GE28001 := n3_; clear n0_ n1_ n2_ n3_; clear hb hbox hg))
  (try simp only [Act.put, List.setIfInBounds_toArray, List.set_cons_zero, List.set_cons_succ])
  go_cut [3] (fun v3 wc => ∃ (kq : Nat) (x3_1 : Bool), v3 = .bool x3_1 ∧ Aside0 (reel_checkOne.j0 kq x3_1 a0_0 a0_1 a0_2 a0_3 a0_4 = some r) ∧ Aside0 (kq ≤ k) ∧ Aside0 (wc.heap[gb28001]? = some (.cells #[.int .i64 a0_0, .int .i64 a0_1, .int .i64 a0_2, .int .i64 a0_3, .int .i64 a0_4] 44 (0, 0))) ∧ Aside0 (Below w.heap.size w wc))
  case first =>
    have H := HC2.out
    clear HC2
    by_cases c4 : a0_0 < 0
    · rw [if_pos c4] at H
      have c4b0 : decide (a0_0 < 0) = true := decide_eq_true c4
      clear c4
      (first | rw [c4b0] | (simp only [i64_w, i32_w]; rw [c4b0]) | skip)
      have H' := Aside0.mk H
      clear H
      have hcz5_0 : w3.cell? ⟨gb28001, 0, none⟩ = some (.int .i64 a0_0) := (blk_cell BK28001.out 0).trans rfl
      have hcz5_1 : w3.cell? ⟨gb28001, 1, none⟩ = some (.int .i64 a0_1) := (blk_cell BK28001.out 1).trans rfl
      have hcz5_2 : w3.cell? ⟨gb28001, 2, none⟩ = some (.int .i64 a0_2) := (blk_cell BK28001.out 2).trans rfl
      have hcz5_3 : w3.cell? ⟨gb28001, 3, none⟩ = some (.int .i64 a0_3) := (blk_cell BK28001.out 3).trans rfl
      have hcz5_4 : w3.cell? ⟨gb28001, 4, none⟩ = some (.int .i64 a0_4) := (blk_cell BK28001.out 4).trans rfl
      have hfz5_0 := blk_frozen BK28001.out 0
      have hfz5_1 := blk_frozen BK28001.out 1
      have hfz5_2 := blk_frozen BK28001.out 2
      have hfz5_3 := blk_frozen BK28001.out 3
      have hfz5_4 := blk_frozen BK28001.out 4
      go_wp2
      go_meet
      case rel => exact ⟨_, (true), (by first | rfl | (simp; done) | (simp [*]; done)), H', ⟨by first | omega | exact Nat.le_refl _⟩, ⟨by (with_reducible repeat (first | refine blk_drewN ?_ _ | refine blk_drew ?_ | refine blk_alloc ?_ _)); exact BK28001.out⟩, ⟨by repeat (first | (with_reducible first | exact HB.out | apply below_alloc | apply pw_below_drewN | apply below_drew1 | refine below_set ?_ GE28001.out) | exact HB.out)⟩⟩
    · rw [if_neg c4] at H
      have c4b0 : decide (a0_0 < 0) = false := decide_eq_false c4
      clear c4
      (first | rw [c4b0] | (simp only [i64_w, i32_w]; rw [c4b0]) | skip)
      by_cases c6 : a0_0 ≥ a0_1
      · rw [if_pos c6] at H
        have c6b0 : decide (a0_1 ≤ a0_0) = true := decide_eq_true c6
        clear c6
        have H' := Aside0.mk H
        clear H
        have hcz7_0 : w3.cell? ⟨gb28001, 0, none⟩ = some (.int .i64 a0_0) := (blk_cell BK28001.out 0).trans rfl
        have hcz7_1 : w3.cell? ⟨gb28001, 1, none⟩ = some (.int .i64 a0_1) := (blk_cell BK28001.out 1).trans rfl
        have hcz7_2 : w3.cell? ⟨gb28001, 2, none⟩ = some (.int .i64 a0_2) := (blk_cell BK28001.out 2).trans rfl
        have hcz7_3 : w3.cell? ⟨gb28001, 3, none⟩ = some (.int .i64 a0_3) := (blk_cell BK28001.out 3).trans rfl
        have hcz7_4 : w3.cell? ⟨gb28001, 4, none⟩ = some (.int .i64 a0_4) := (blk_cell BK28001.out 4).trans rfl
        have hfz7_0 := blk_frozen BK28001.out 0
        have hfz7_1 := blk_frozen BK28001.out 1
        have hfz7_2 := blk_frozen BK28001.out 2
        have hfz7_3 := blk_frozen BK28001.out 3
        have hfz7_4 := blk_frozen BK28001.out 4
        go_wp2
        go_meet
        case rel => exact ⟨_, (true), (by first | rfl | (simp; done) | (simp [*]; done)), H', ⟨by first | omega | exact Nat.le_refl _⟩, ⟨by (with_reducible repeat (first | refine blk_drewN ?_ _ | refine blk_drew ?_ | refine blk_alloc ?_ _)); exact BK28001.out⟩, ⟨by repeat (first | (with_reducible first | exact HB.out | apply below_alloc | apply pw_below_drewN | apply below_drew1 | refine below_set ?_ GE28001.out) | exact HB.out)⟩⟩
      · rw [if_neg c6] at H
        have c6b0 : decide (a0_1 ≤ a0_0) = false := decide_eq_false c6
        clear c6
        have H' := Aside0.mk H
        clear H
        have hcz8_0 : w3.cell? ⟨gb28001, 0, none⟩ = some (.int .i64 a0_0) := (blk_cell BK28001.out 0).trans rfl
        have hcz8_1 : w3.cell? ⟨gb28001, 1, none⟩ = some (.int .i64 a0_1) := (blk_cell BK28001.out 1).trans rfl
        have hcz8_2 : w3.cell? ⟨gb28001, 2, none⟩ = some (.int .i64 a0_2) := (blk_cell BK28001.out 2).trans rfl
        have hcz8_3 : w3.cell? ⟨gb28001, 3, none⟩ = some (.int .i64 a0_3) := (blk_cell BK28001.out 3).trans rfl
        have hcz8_4 : w3.cell? ⟨gb28001, 4, none⟩ = some (.int .i64 a0_4) := (blk_cell BK28001.out 4).trans rfl
        have hfz8_0 := blk_frozen BK28001.out 0
        have hfz8_1 := blk_frozen BK28001.out 1
        have hfz8_2 := blk_frozen BK28001.out 2
        have hfz8_3 := blk_frozen BK28001.out 3
        have hfz8_4 := blk_frozen BK28001.out 4
        go_wp2
        go_meet
        case rel => exact ⟨_, (decide (a0_1 > 17179869184)), (by first | rfl | (simp; done) | (simp [*]; done)), H', ⟨by first | omega | exact Nat.le_refl _⟩, ⟨by (with_reducible repeat (first | refine blk_drewN ?_ _ | refine blk_drew ?_ | refine blk_alloc ?_ _)); exact BK28001.out⟩, ⟨by repeat (first | (with_reducible first | exact HB.out | apply below_alloc | apply pw_below_drewN | apply below_drew1 | refine below_set ?_ GE28001.out) | exact HB.out)⟩⟩
  case rest =>
    clear HC2
    try clear c2
    try clear p2
    try clear c4
    try clear c4b0
    try clear c6
    try clear c6b0
    try clear hcz5_0
    try clear hcz5_1
    try clear hcz5_2
    try clear hcz5_3
    try clear hcz5_4
    try clear hcz7_0
    try clear hcz7_1
    try clear hcz7_2
    try clear hcz7_3
    try clear hcz7_4
    try clear hcz8_0
    try clear hcz8_1
    try clear hcz8_2
    try clear hcz8_3
    try clear hcz8_4
    try clear hfz5_0
    try clear hfz5_1
    try clear hfz5_2
    try clear hfz5_3
    try clear hfz5_4
    try clear hfz7_0
    try clear hfz7_1
    try clear hfz7_2
    try clear hfz7_3
    try clear hfz7_4
    try clear hfz8_0
    try clear hfz8_1
    try clear hfz8_2
    try clear hfz8_3
    try clear hfz8_4
    obtain ⟨kq, x3_1, rfl, HA, HJ1, BK28001, HB⟩ := hcut
    cases kq with
    | zero => exact absurd HA.out (by simp [reel_checkOne.j0])
    | succ kj1 =>
      have H := HA.out
      clear HA
      simp only [reel_checkOne.j0] at H
      by_cases c9 : x3_1 = true
      · subst c9
        have H1 : (some 1) = some r := by rw [if_pos rfl] at H; exact H
        clear H
        have H := H1
        clear H1
        obtain rfl := Option.some.inj H
        go_wp2
        go_ret
        exact ⟨by first | rfl | (simp [errW_none, errW_some] <;> rfl) | (simp [*, errW_none, errW_some] <;> rfl), by repeat (first | (with_reducible first | exact HB.out | apply below_alloc | apply pw_below_drewN | apply below_drew1 | refine below_set ?_ GE28001.out) | exact HB.out)⟩
      · replace c9 := Bool.eq_false_iff.mpr c9
        subst c9
        have H1 : (if a0_2 < 1 then (reel_checkOne.j1 kj1 true a0_0 a0_1 a0_2 a0_3 a0_4) else (reel_checkOne.j1 kj1 (decide (a0_2 > 3)) a0_0 a0_1 a0_2 a0_3 a0_4)) = some r := by rw [if_neg (show ¬ (false = true) by decide)] at H; exact H
        clear H
        have H := H1
        clear H1
        have HC10 := Aside0.mk H
        clear H
        go_upto_region 3 with (fail)
        go_cut [19] (fun v19 wc => ∃ (kq : Nat) (x19_9 : Bool), v19 = .bool x19_9 ∧ Aside0 (reel_checkOne.j1 kq x19_9 a0_0 a0_1 a0_2 a0_3 a0_4 = some r) ∧ Aside0 (kq ≤ kj1) ∧ Aside0 (wc.heap[gb28001]? = some (.cells #[.int .i64 a0_0, .int .i64 a0_1, .int .i64 a0_2, .int .i64 a0_3, .int .i64 a0_4] 44 (0, 0))) ∧ Aside0 (Below w.heap.size w wc))
        case first =>
          have H := HC10.out
          clear HC10
          by_cases c11 : a0_2 < 1
          · rw [if_pos c11] at H
            have c11b0 : decide (a0_2 < 1) = true := decide_eq_true c11
            clear c11
            (first | rw [c11b0] | (simp only [i64_w, i32_w]; rw [c11b0]) | skip)
            have H' := Aside0.mk H
            clear H
            have hcz12_0 : wc.cell? ⟨gb28001, 0, none⟩ = some (.int .i64 a0_0) := (blk_cell BK28001.out 0).trans rfl
            have hcz12_1 : wc.cell? ⟨gb28001, 1, none⟩ = some (.int .i64 a0_1) := (blk_cell BK28001.out 1).trans rfl
            have hcz12_2 : wc.cell? ⟨gb28001, 2, none⟩ = some (.int .i64 a0_2) := (blk_cell BK28001.out 2).trans rfl
            have hcz12_3 : wc.cell? ⟨gb28001, 3, none⟩ = some (.int .i64 a0_3) := (blk_cell BK28001.out 3).trans rfl
            have hcz12_4 : wc.cell? ⟨gb28001, 4, none⟩ = some (.int .i64 a0_4) := (blk_cell BK28001.out 4).trans rfl
            have hfz12_0 := blk_frozen BK28001.out 0
            have hfz12_1 := blk_frozen BK28001.out 1
            have hfz12_2 := blk_frozen BK28001.out 2
            have hfz12_3 := blk_frozen BK28001.out 3
            have hfz12_4 := blk_frozen BK28001.out 4
            go_wp2
            go_meet
            case rel => exact ⟨_, (true), (by first | rfl | (simp; done) | (simp [*]; done)), H', ⟨by have := HJ1.out; first | omega | exact Nat.le_refl _⟩, ⟨by (with_reducible repeat (first | refine blk_drewN ?_ _ | refine blk_drew ?_ | refine blk_alloc ?_ _)); exact BK28001.out⟩, ⟨by repeat (first | (with_reducible first | exact HB.out | apply below_alloc | apply pw_below_drewN | apply below_drew1 | refine below_set ?_ GE28001.out) | exact HB.out)⟩⟩
          · rw [if_neg c11] at H
            have c11b0 : decide (a0_2 < 1) = false := decide_eq_false c11
            clear c11
            (first | rw [c11b0] | (simp only [i64_w, i32_w]; rw [c11b0]) | skip)
            have H' := Aside0.mk H
            clear H
            have hcz13_0 : wc.cell? ⟨gb28001, 0, none⟩ = some (.int .i64 a0_0) := (blk_cell BK28001.out 0).trans rfl
            have hcz13_1 : wc.cell? ⟨gb28001, 1, none⟩ = some (.int .i64 a0_1) := (blk_cell BK28001.out 1).trans rfl
            have hcz13_2 : wc.cell? ⟨gb28001, 2, none⟩ = some (.int .i64 a0_2) := (blk_cell BK28001.out 2).trans rfl
            have hcz13_3 : wc.cell? ⟨gb28001, 3, none⟩ = some (.int .i64 a0_3) := (blk_cell BK28001.out 3).trans rfl
            have hcz13_4 : wc.cell? ⟨gb28001, 4, none⟩ = some (.int .i64 a0_4) := (blk_cell BK28001.out 4).trans rfl
            have hfz13_0 := blk_frozen BK28001.out 0
            have hfz13_1 := blk_frozen BK28001.out 1
            have hfz13_2 := blk_frozen BK28001.out 2
            have hfz13_3 := blk_frozen BK28001.out 3
            have hfz13_4 := blk_frozen BK28001.out 4
            go_wp2
            go_meet
            case rel => exact ⟨_, (decide (a0_2 > 3)), (by first | rfl | (simp; done) | (simp [*]; done)), H', ⟨by have := HJ1.out; first | omega | exact Nat.le_refl _⟩, ⟨by (with_reducible repeat (first | refine blk_drewN ?_ _ | refine blk_drew ?_ | refine blk_alloc ?_ _)); exact BK28001.out⟩, ⟨by repeat (first | (with_reducible first | exact HB.out | apply below_alloc | apply pw_below_drewN | apply below_drew1 | refine below_set ?_ GE28001.out) | exact HB.out)⟩⟩
        case rest =>
          clear HC10
          try clear c1
          try clear c2
          try clear p2
          try clear c4
          try clear c4b0
          try clear c6
          try clear c6b0
          try clear c9
          try clear c11
          try clear c11b0
          try clear hcz12_0
          try clear hcz12_1
          try clear hcz12_2
          try clear hcz12_3
          try clear hcz12_4
          try clear hcz13_0
          try clear hcz13_1
          try clear hcz13_2
          try clear hcz13_3
          try clear hcz13_4
          try clear hcz5_0
          try clear hcz5_1
          try clear hcz5_2
          try clear hcz5_3
          try clear hcz5_4
          try clear hcz7_0
          try clear hcz7_1
          try clear hcz7_2
          try clear hcz7_3
          try clear hcz7_4
          try clear hcz8_0
          try clear hcz8_1
          try clear hcz8_2
          try clear hcz8_3
          try clear hcz8_4
          try clear hfz12_0
          try clear hfz12_1
          try clear hfz12_2
          try clear hfz12_3
          try clear hfz12_4
          try clear hfz13_0
          try clear hfz13_1
          try clear hfz13_2
          try clear hfz13_3
          try clear hfz13_4
          try clear hfz5_0
          try clear hfz5_1
          try clear hfz5_2
          try clear hfz5_3
          try clear hfz5_4
          try clear hfz7_0
          try clear hfz7_1
          try clear hfz7_2
          try clear hfz7_3
          try clear hfz7_4
          try clear hfz8_0
          try clear hfz8_1
          try clear hfz8_2
          try clear hfz8_3
          try clear hfz8_4
          try clear p2
          obtain ⟨kq, x19_9, rfl, HA, HJ9, BK28001, HB⟩ := hcut
          cases kq with
          | zero => exact absurd HA.out (by simp [reel_checkOne.j1])
          | succ kj9 =>
            have H := HA.out
            clear HA
            simp only [reel_checkOne.j1] at H
            by_cases c14 : x19_9 = true
            · subst c14
              have H1 : (some 17) = some r := by rw [if_pos rfl] at H; exact H
              clear H
              have H := H1
              clear H1
              obtain rfl := Option.some.inj H
              go_wp2
              go_ret
              exact ⟨by first | rfl | (simp [errW_none, errW_some] <;> rfl) | (simp [*, errW_none, errW_some] <;> rfl), by repeat (first | (with_reducible first | exact HB.out | apply below_alloc | apply pw_below_drewN | apply below_drew1 | refine below_set ?_ GE28001.out) | exact HB.out)⟩
            · replace c14 := Bool.eq_false_iff.mpr c14
              subst c14
              have H1 : (if a0_3 < (-1) then (reel_checkOne.j2 kj9 true a0_0 a0_1 a0_2 a0_3 a0_4) else (reel_checkOne.j2 kj9 (decide (a0_3 ≥ 16)) a0_0 a0_1 a0_2 a0_3 a0_4)) = some r := by rw [if_neg (show ¬ (false = true) by decide)] at H; exact H
              clear H
              have H := H1
              clear H1
              have HC15 := Aside0.mk H
              clear H
              go_upto_region 5 with (fail)
              go_cut [28] (fun v28 wc => ∃ (kq : Nat) (x28_14 : Bool), v28 = .bool x28_14 ∧ Aside0 (reel_checkOne.j2 kq x28_14 a0_0 a0_1 a0_2 a0_3 a0_4 = some r) ∧ Aside0 (kq ≤ kj9) ∧ Aside0 (wc.heap[gb28001]? = some (.cells #[.int .i64 a0_0, .int .i64 a0_1, .int .i64 a0_2, .int .i64 a0_3, .int .i64 a0_4] 44 (0, 0))) ∧ Aside0 (Below w.heap.size w wc))
              case first =>
                have H := HC15.out
                clear HC15
                by_cases c16 : a0_3 < (-1)
                · rw [if_pos c16] at H
                  have c16b0 : decide (a0_3 < (-1)) = true := decide_eq_true c16
                  clear c16
                  (first | rw [c16b0] | (simp only [i64_w, i32_w]; rw [c16b0]) | skip)
                  have H' := Aside0.mk H
                  clear H
                  have hcz17_0 : wc.cell? ⟨gb28001, 0, none⟩ = some (.int .i64 a0_0) := (blk_cell BK28001.out 0).trans rfl
                  have hcz17_1 : wc.cell? ⟨gb28001, 1, none⟩ = some (.int .i64 a0_1) := (blk_cell BK28001.out 1).trans rfl
                  have hcz17_2 : wc.cell? ⟨gb28001, 2, none⟩ = some (.int .i64 a0_2) := (blk_cell BK28001.out 2).trans rfl
                  have hcz17_3 : wc.cell? ⟨gb28001, 3, none⟩ = some (.int .i64 a0_3) := (blk_cell BK28001.out 3).trans rfl
                  have hcz17_4 : wc.cell? ⟨gb28001, 4, none⟩ = some (.int .i64 a0_4) := (blk_cell BK28001.out 4).trans rfl
                  have hfz17_0 := blk_frozen BK28001.out 0
                  have hfz17_1 := blk_frozen BK28001.out 1
                  have hfz17_2 := blk_frozen BK28001.out 2
                  have hfz17_3 := blk_frozen BK28001.out 3
                  have hfz17_4 := blk_frozen BK28001.out 4
                  go_wp2
                  go_meet
                  case rel => exact ⟨_, (true), (by first | rfl | (simp; done) | (simp [*]; done)), H', ⟨by have := HJ1.out; have := HJ9.out; first | omega | exact Nat.le_refl _⟩, ⟨by (with_reducible repeat (first | refine blk_drewN ?_ _ | refine blk_drew ?_ | refine blk_alloc ?_ _)); exact BK28001.out⟩, ⟨by repeat (first | (with_reducible first | exact HB.out | apply below_alloc | apply pw_below_drewN | apply below_drew1 | refine below_set ?_ GE28001.out) | exact HB.out)⟩⟩
                · rw [if_neg c16] at H
                  have c16b0 : decide (a0_3 < (-1)) = false := decide_eq_false c16
                  clear c16
                  (first | rw [c16b0] | (simp only [i64_w, i32_w]; rw [c16b0]) | skip)
                  have H' := Aside0.mk H
                  clear H
                  have hcz18_0 : wc.cell? ⟨gb28001, 0, none⟩ = some (.int .i64 a0_0) := (blk_cell BK28001.out 0).trans rfl
                  have hcz18_1 : wc.cell? ⟨gb28001, 1, none⟩ = some (.int .i64 a0_1) := (blk_cell BK28001.out 1).trans rfl
                  have hcz18_2 : wc.cell? ⟨gb28001, 2, none⟩ = some (.int .i64 a0_2) := (blk_cell BK28001.out 2).trans rfl
                  have hcz18_3 : wc.cell? ⟨gb28001, 3, none⟩ = some (.int .i64 a0_3) := (blk_cell BK28001.out 3).trans rfl
                  have hcz18_4 : wc.cell? ⟨gb28001, 4, none⟩ = some (.int .i64 a0_4) := (blk_cell BK28001.out 4).trans rfl
                  have hfz18_0 := blk_frozen BK28001.out 0
                  have hfz18_1 := blk_frozen BK28001.out 1
                  have hfz18_2 := blk_frozen BK28001.out 2
                  have hfz18_3 := blk_frozen BK28001.out 3
                  have hfz18_4 := blk_frozen BK28001.out 4
                  go_wp2
                  go_meet
                  case rel => exact ⟨_, (decide (a0_3 ≥ 16)), (by first | rfl | (simp; done) | (simp [*]; done)), H', ⟨by have := HJ1.out; have := HJ9.out; first | omega | exact Nat.le_refl _⟩, ⟨by (with_reducible repeat (first | refine blk_drewN ?_ _ | refine blk_drew ?_ | refine blk_alloc ?_ _)); exact BK28001.out⟩, ⟨by repeat (first | (with_reducible first | exact HB.out | apply below_alloc | apply pw_below_drewN | apply below_drew1 | refine below_set ?_ GE28001.out) | exact HB.out)⟩⟩
              case rest =>
                clear HC15
                try clear c1
                try clear c2
                try clear p2
                try clear c4
                try clear c4b0
                try clear c6
                try clear c6b0
                try clear c9
                try clear c11
                try clear c11b0
                try clear c14
                try clear c16
                try clear c16b0
                try clear hcz12_0
                try clear hcz12_1
                try clear hcz12_2
                try clear hcz12_3
                try clear hcz12_4
                try clear hcz13_0
                try clear hcz13_1
                try clear hcz13_2
                try clear hcz13_3
                try clear hcz13_4
                try clear hcz17_0
                try clear hcz17_1
                try clear hcz17_2
                try clear hcz17_3
                try clear hcz17_4
                try clear hcz18_0
                try clear hcz18_1
                try clear hcz18_2
                try clear hcz18_3
                try clear hcz18_4
                try clear hcz5_0
                try clear hcz5_1
                try clear hcz5_2
                try clear hcz5_3
                try clear hcz5_4
                try clear hcz7_0
                try clear hcz7_1
                try clear hcz7_2
                try clear hcz7_3
                try clear hcz7_4
                try clear hcz8_0
                try clear hcz8_1
                try clear hcz8_2
                try clear hcz8_3
                try clear hcz8_4
                try clear hfz12_0
                try clear hfz12_1
                try clear hfz12_2
                try clear hfz12_3
                try clear hfz12_4
                try clear hfz13_0
                try clear hfz13_1
                try clear hfz13_2
                try clear hfz13_3
                try clear hfz13_4
                try clear hfz17_0
                try clear hfz17_1
                try clear hfz17_2
                try clear hfz17_3
                try clear hfz17_4
                try clear hfz18_0
                try clear hfz18_1
                try clear hfz18_2
                try clear hfz18_3
                try clear hfz18_4
                try clear hfz5_0
                try clear hfz5_1
                try clear hfz5_2
                try clear hfz5_3
                try clear hfz5_4
                try clear hfz7_0
                try clear hfz7_1
                try clear hfz7_2
                try clear hfz7_3
                try clear hfz7_4
                try clear hfz8_0
                try clear hfz8_1
                try clear hfz8_2
                try clear hfz8_3
                try clear hfz8_4
                try clear p2
                obtain ⟨kq, x28_14, rfl, HA, HJ14, BK28001, HB⟩ := hcut
                cases kq with
                | zero => exact absurd HA.out (by simp [reel_checkOne.j2])
                | succ kj14 =>
                  have H := HA.out
                  clear HA
                  simp only [reel_checkOne.j2] at H
                  by_cases c19 : x28_14 = true
                  · subst c19
                    have H1 : (some 22) = some r := by rw [if_pos rfl] at H; exact H
                    clear H
                    have H := H1
                    clear H1
                    obtain rfl := Option.some.inj H
                    go_wp2
                    go_ret
                    exact ⟨by first | rfl | (simp [errW_none, errW_some] <;> rfl) | (simp [*, errW_none, errW_some] <;> rfl), by repeat (first | (with_reducible first | exact HB.out | apply below_alloc | apply pw_below_drewN | apply below_drew1 | refine below_set ?_ GE28001.out) | exact HB.out)⟩
                  · replace c19 := Bool.eq_false_iff.mpr c19
                    subst c19
                    have H1 : (if a0_4 < 0 then (some 1) else (if a0_4 > 2048 then (some 1) else (some 0))) = some r := by rw [if_neg (show ¬ (false = true) by decide)] at H; exact H
                    clear H
                    have H := H1
                    clear H1
                    by_cases c20 : a0_4 < 0
                    · rw [if_pos c20] at H
                      have c20b0 : decide (a0_4 < 0) = true := decide_eq_true c20
                      clear c20
                      obtain rfl := Option.some.inj H
                      have hcz21_0 : wc.cell? ⟨gb28001, 0, none⟩ = some (.int .i64 a0_0) := (blk_cell BK28001.out 0).trans rfl
                      have hcz21_1 : wc.cell? ⟨gb28001, 1, none⟩ = some (.int .i64 a0_1) := (blk_cell BK28001.out 1).trans rfl
                      have hcz21_2 : wc.cell? ⟨gb28001, 2, none⟩ = some (.int .i64 a0_2) := (blk_cell BK28001.out 2).trans rfl
                      have hcz21_3 : wc.cell? ⟨gb28001, 3, none⟩ = some (.int .i64 a0_3) := (blk_cell BK28001.out 3).trans rfl
                      have hcz21_4 : wc.cell? ⟨gb28001, 4, none⟩ = some (.int .i64 a0_4) := (blk_cell BK28001.out 4).trans rfl
                      have hfz21_0 := blk_frozen BK28001.out 0
                      have hfz21_1 := blk_frozen BK28001.out 1
                      have hfz21_2 := blk_frozen BK28001.out 2
                      have hfz21_3 := blk_frozen BK28001.out 3
                      have hfz21_4 := blk_frozen BK28001.out 4
                      go_wp2
                      go_ret
                      exact ⟨by first | rfl | (simp [errW_none, errW_some] <;> rfl) | (simp [*, errW_none, errW_some] <;> rfl), by repeat (first | (with_reducible first | exact HB.out | apply below_alloc | apply pw_below_drewN | apply below_drew1 | refine below_set ?_ GE28001.out) | exact HB.out)⟩
                    · rw [if_neg c20] at H
                      have c20b0 : decide (a0_4 < 0) = false := decide_eq_false c20
                      clear c20
                      by_cases c22 : a0_4 > 2048
                      · rw [if_pos c22] at H
                        have c22b0 : decide (2048 < a0_4) = true := decide_eq_true c22
                        clear c22
                        obtain rfl := Option.some.inj H
                        have hcz23_0 : wc.cell? ⟨gb28001, 0, none⟩ = some (.int .i64 a0_0) := (blk_cell BK28001.out 0).trans rfl
                        have hcz23_1 : wc.cell? ⟨gb28001, 1, none⟩ = some (.int .i64 a0_1) := (blk_cell BK28001.out 1).trans rfl
                        have hcz23_2 : wc.cell? ⟨gb28001, 2, none⟩ = some (.int .i64 a0_2) := (blk_cell BK28001.out 2).trans rfl
                        have hcz23_3 : wc.cell? ⟨gb28001, 3, none⟩ = some (.int .i64 a0_3) := (blk_cell BK28001.out 3).trans rfl
                        have hcz23_4 : wc.cell? ⟨gb28001, 4, none⟩ = some (.int .i64 a0_4) := (blk_cell BK28001.out 4).trans rfl
                        have hfz23_0 := blk_frozen BK28001.out 0
                        have hfz23_1 := blk_frozen BK28001.out 1
                        have hfz23_2 := blk_frozen BK28001.out 2
                        have hfz23_3 := blk_frozen BK28001.out 3
                        have hfz23_4 := blk_frozen BK28001.out 4
                        go_wp2
                        go_ret
                        exact ⟨by first | rfl | (simp [errW_none, errW_some] <;> rfl) | (simp [*, errW_none, errW_some] <;> rfl), by repeat (first | (with_reducible first | exact HB.out | apply below_alloc | apply pw_below_drewN | apply below_drew1 | refine below_set ?_ GE28001.out) | exact HB.out)⟩
                      · rw [if_neg c22] at H
                        have c22b0 : decide (2048 < a0_4) = false := decide_eq_false c22
                        clear c22
                        obtain rfl := Option.some.inj H
                        have hcz24_0 : wc.cell? ⟨gb28001, 0, none⟩ = some (.int .i64 a0_0) := (blk_cell BK28001.out 0).trans rfl
                        have hcz24_1 : wc.cell? ⟨gb28001, 1, none⟩ = some (.int .i64 a0_1) := (blk_cell BK28001.out 1).trans rfl
                        have hcz24_2 : wc.cell? ⟨gb28001, 2, none⟩ = some (.int .i64 a0_2) := (blk_cell BK28001.out 2).trans rfl
                        have hcz24_3 : wc.cell? ⟨gb28001, 3, none⟩ = some (.int .i64 a0_3) := (blk_cell BK28001.out 3).trans rfl
                        have hcz24_4 : wc.cell? ⟨gb28001, 4, none⟩ = some (.int .i64 a0_4) := (blk_cell BK28001.out 4).trans rfl
                        have hfz24_0 := blk_frozen BK28001.out 0
                        have hfz24_1 := blk_frozen BK28001.out 1
                        have hfz24_2 := blk_frozen BK28001.out 2
                        have hfz24_3 := blk_frozen BK28001.out 3
                        have hfz24_4 := blk_frozen BK28001.out 4
                        go_wp2
                        go_ret
                        exact ⟨by first | rfl | (simp [errW_none, errW_some] <;> rfl) | (simp [*, errW_none, errW_some] <;> rfl), by repeat (first | (with_reducible first | exact HB.out | apply below_alloc | apply pw_below_drewN | apply below_drew1 | refine below_set ?_ GE28001.out) | exact HB.out)⟩

end Go.Proofs.Ytfdfpdiemeomiaa.G
