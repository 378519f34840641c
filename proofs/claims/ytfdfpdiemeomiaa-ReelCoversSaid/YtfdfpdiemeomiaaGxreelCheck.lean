-- Printed by drive.py, this session's program over the kit's print.py. Not trusted: Lean checks it.
import Derived.Test.YtfdfpdiemeomiaaGx0
import Derived.Test.YtfdfpdiemeomiaaGxreelcheckOne
namespace Go.Proofs.Ytfdfpdiemeomiaa.G
open Go.RowKit Go.Proofs.YtfdfpdiemeomiaaW.PrintWords Go.Proofs.YtfdfpdiemeomiaaW.PrintLast Go.Proofs.YtfdfpdiemeomiaaW.PrintMore
attribute [local go_sem] max2_int min2_int max_two min_two max_three min_three max_four min_four   -- for this text's walks alone
set_option linter.unusedVariables false
set_option linter.unusedSimpArgs false

/-! ### reel_Check: function 15 -/
mutual
def reel_Check.l0 : Nat → List (S44) → List (S44) → Int → Int → Option (Int)
  | 0, _, _, _, _ => none
  | k + 1, x0, x13, x14, x15 => if x15 < x14 then (if 0 ≤ x15 then (if x15 < (x13.length : Int) then ((reel_checkOne.f k ((rd_T44 x13 x15).f0) ((rd_T44 x13 x15).f1) ((rd_T44 x13 x15).f2) ((rd_T44 x13 x15).f3) ((rd_T44 x13 x15).f4)).bind fun t16003 => (if t16003 = 0 then (reel_Check.l0 k x0 x13 x14 (wrap64 (x15 + 1))) else (some t16003))) else (none)) else (none)) else (reel_Check.l1 k 0 0 x0 (x0.length : Int) 0)
def reel_Check.l1 : Nat → Int → Int → List (S44) → Int → Int → Option (Int)
  | 0, _, _, _, _, _ => none
  | k + 1, x6, x7, x25, x26, x27 => if x27 < x26 then (if 0 ≤ x27 then (if x27 < (x25.length : Int) then (if ((rd_T44 x25 x27).f0) = x6 then (if ((rd_T44 x25 x27).f4) < x7 then (some 9) else (reel_Check.l1 k ((rd_T44 x25 x27).f1) ((rd_T44 x25 x27).f4) x25 x26 (wrap64 (x27 + 1)))) else (some 9)) else (none)) else (none)) else (some 0)
end
def reel_Check.f (k : Nat) (l0 : List (S44)) : Option (Int) := if (l0.length : Int) > 512 then (some 8) else (reel_Check.l0 k l0 l0 (l0.length : Int) 0)
theorem reel_Check.mono_l : ∀ k, (∀ y0 y1 y2 y3, LeO (reel_Check.l0 k y0 y1 y2 y3) (reel_Check.l0 (k + 1) y0 y1 y2 y3)) ∧ (∀ y0 y1 y2 y3 y4, LeO (reel_Check.l1 k y0 y1 y2 y3 y4) (reel_Check.l1 (k + 1) y0 y1 y2 y3 y4))
  | 0 => ⟨fun _ _ _ _ r h => by simp [reel_Check.l0] at h, fun _ _ _ _ _ r h => by simp [reel_Check.l1] at h⟩
  | k + 1 => by
    obtain ⟨ih0, ih1⟩ := reel_Check.mono_l k
    refine ⟨?_, ?_⟩
    · intro y0 y1 y2 y3
      unfold reel_Check.l0
      repeat' first
      | (with_reducible exact ih0 _ _ _ _)
      | (with_reducible exact ih1 _ _ _ _ _)
      | (with_reducible exact reel_checkOne.mono _ _ _ _ _ _)
      | (with_reducible exact LeO.refl _)
      | (with_reducible exact LeO.none _)
      | (with_reducible refine LeO.ite ?_ ?_)
      | (with_reducible refine LeO.bind ?_ (fun _ => ?_))
      | exact ih0 _ _ _ _
      | exact ih1 _ _ _ _ _
      | exact reel_checkOne.mono _ _ _ _ _ _
      | exact LeO.none _
      | refine LeO.ite ?_ ?_
      | refine LeO.bind ?_ (fun _ => ?_)
    · intro y0 y1 y2 y3 y4
      unfold reel_Check.l1
      repeat' first
      | (with_reducible exact ih0 _ _ _ _)
      | (with_reducible exact ih1 _ _ _ _ _)
      | (with_reducible exact reel_checkOne.mono _ _ _ _ _ _)
      | (with_reducible exact LeO.refl _)
      | (with_reducible exact LeO.none _)
      | (with_reducible refine LeO.ite ?_ ?_)
      | (with_reducible refine LeO.bind ?_ (fun _ => ?_))
      | exact ih0 _ _ _ _
      | exact ih1 _ _ _ _ _
      | exact reel_checkOne.mono _ _ _ _ _ _
      | exact LeO.none _
      | refine LeO.ite ?_ ?_
      | refine LeO.bind ?_ (fun _ => ?_)
theorem reel_Check.mono : ∀ a0 k, LeO (reel_Check.f k a0) (reel_Check.f (k + 1) a0) := by
  intro a0 k
  obtain ⟨ih0, ih1⟩ := reel_Check.mono_l k
  unfold reel_Check.f
  repeat' first
      | (with_reducible exact ih0 _ _ _ _)
      | (with_reducible exact ih1 _ _ _ _ _)
      | (with_reducible exact reel_checkOne.mono _ _ _ _ _ _)
      | (with_reducible exact LeO.refl _)
      | (with_reducible exact LeO.none _)
      | (with_reducible refine LeO.ite ?_ ?_)
      | (with_reducible refine LeO.bind ?_ (fun _ => ?_))
      | exact ih0 _ _ _ _
      | exact ih1 _ _ _ _ _
      | exact reel_checkOne.mono _ _ _ _ _ _
      | exact LeO.none _
      | refine LeO.ite ?_ ?_
      | refine LeO.bind ?_ (fun _ => ?_)
set_option maxHeartbeats 8000000 in
set_option maxRecDepth 100000 in
theorem reel_Check.calls (k : Nat) (A0 : Option Addr) (c0 : Nat) (l0 : List (S44)) (r : Int) (w : World) (hr0 : Kd.C k44 w A0 l0.length l0) (hc0 : l0.length ≤ c0) (h : reel_Check.f k l0 = some r) :
    Calls Try.prog 15 #[.slice A0 l0.length c0] w fun e w' => e = .returned (.int .i64 r) ∧ Below w.heap.size w w' := by
  have hu44 := Try.underlying44
  have HR0 := Aside0.mk hr0
  have HC0 := Aside0.mk hc0
  clear hr0 hc0
  have HB := Aside0.mk (Below.refl w.heap.size w)
  have H : (if (l0.length : Int) > 512 then (some 8) else (reel_Check.l0 k l0 l0 (l0.length : Int) 0)) = some r := h
  clear h
  by_cases c2 : (l0.length : Int) > 512
  · rw [if_pos c2] at H
    have c2b0 : decide (512 < (l0.length : Int)) = true := decide_eq_true c2
    have c2b1 : decide (512 < l0.length) = true := decide_eq_true (by omega)
    clear c2
    obtain rfl := Option.some.inj H
    go_enter Try.func15, Try.ntmps15
    go_wp2
    repeat (go_quiet (fail); try go_wp2)
    go_ret
    exact ⟨by first | rfl | (simp [errW_none, errW_some] <;> rfl) | (simp [*, errW_none, errW_some] <;> rfl), by repeat (first | (with_reducible first | exact HB.out | apply below_alloc | apply pw_below_drewN | apply below_drew1) | exact HB.out)⟩
  · rw [if_neg c2] at H
    have c2b0 : decide (512 < (l0.length : Int)) = false := decide_eq_false c2
    have c2b1 : decide (512 < l0.length) = false := decide_eq_false (by omega)
    clear c2
    have H' := Aside0.mk H
    clear H
    go_enter Try.func15, Try.ntmps15
    go_wp2
    repeat (go_quiet (fail); try go_wp2)
    go_loopg [15] k (fun kq v15 w' => ∃ (x15_1 : Int), v15 = .int .i64 x15_1 ∧ Aside0 (reel_Check.l0 kq l0 l0 (l0.length : Int) x15_1 = some r) ∧ Aside0 (kq ≤ k) ∧ Aside0 (Below w.heap.size w w'))
    case atStart => exact ⟨(0), (by first | rfl | (simp; done) | (simp [*]; done)), H', ⟨Nat.le_refl _⟩, ⟨by repeat (first | (with_reducible first | exact HB.out | apply below_alloc | apply pw_below_drewN | apply below_drew1) | exact HB.out)⟩⟩
    case round =>
      clear H'
      try clear c1
      try clear c2
      try clear c2b0
      try clear c2b1
      try clear p2
      obtain ⟨x15_1, rfl, HA, HK1, HB⟩ := hrel
      cases gk with
      | zero => exact absurd HA.out (by simp [reel_Check.l0])
      | succ k1 =>
        have H := HA.out
        clear HA
        simp only [reel_Check.l0] at H
        by_cases c3 : x15_1 < (l0.length : Int)
        · rw [if_pos c3] at H
          have c3b0 : decide (x15_1 < (l0.length : Int)) = true := decide_eq_true c3
          clear c3
          by_cases c4 : 0 ≤ x15_1
          · rw [if_pos c4] at H
            have c4b0 : decide (0 ≤ x15_1) = true := decide_eq_true c4
            clear c4
            by_cases c5 : x15_1 < (l0.length : Int)
            · rw [if_pos c5] at H
              have c5b0 : decide (x15_1 < (l0.length : Int)) = true := decide_eq_true c5
              clear c5
              replace H := Option.bind_eq_some_iff.mp H
              obtain ⟨t16003, A60, H⟩ := H
              replace H : (if t16003 = 0 then (reel_Check.l0 k1 l0 l0 (l0.length : Int) (wrap64 (x15_1 + 1))) else (some t16003)) = some r := H
              have A6 := Aside0.mk A60
              clear A60
              by_cases c7 : t16003 = 0
              · rw [if_pos c7] at H
                have c7b0 : (t16003 == 0) = true := beq_iff_eq.mpr c7
                have c7b1 : (t16003 != 0) = false := bne_eq_false_iff_eq.mpr c7
                clear c7
                have H' := Aside0.mk H
                clear H
                have p16001 : 0 ≤ (x15_1 : Int) := of_decide_eq_true (by first | (with_reducible assumption) | assumption)
                have q16001 : x15_1 < (l0.length : Int) := of_decide_eq_true (by first | (with_reducible assumption) | assumption)
                obtain ⟨ad16001, e16001, hx16001_0, hx16001_1, hx16001_2, hx16001_3, hx16001_4⟩ := at_T44 HR0.out x15_1 p16001 q16001
                cases e16001
                replace hx16001_0 := (HB.out.cell (World.block_lt_of_cell? w _ hx16001_0)).trans hx16001_0
                replace hx16001_1 := (HB.out.cell (World.block_lt_of_cell? w _ hx16001_1)).trans hx16001_1
                replace hx16001_2 := (HB.out.cell (World.block_lt_of_cell? w _ hx16001_2)).trans hx16001_2
                replace hx16001_3 := (HB.out.cell (World.block_lt_of_cell? w _ hx16001_3)).trans hx16001_3
                replace hx16001_4 := (HB.out.cell (World.block_lt_of_cell? w _ hx16001_4)).trans hx16001_4
                replace p16001 := eq_true p16001
                replace q16001 := eq_true q16001
                go_wp2_with (first | ((with_reducible refine gate_dst (N := 4) rfl ?_); refine box_event ?hg (N := 4) ?hd (cs := #[.int .i64 0, .int .i64 0, .int .i64 0, .int .i64 0, .int .i64 0]) (t := 44) ?hr ?_; (case hd => rfl); (case hg => rfl); (case hr => first | (go_simp; done) | (go_simp; rfl)); intro gb16002 hg w8 hbox hb; have n0_ := Aside0.mk (below_step (by repeat (first | (with_reducible first | exact HB.out | apply below_alloc | apply pw_below_drewN | apply below_drew1) | exact HB.out)) hb); have n1_ := Aside0.mk (hbox); have n2_ := Aside0.mk ((by rw [hg]; exact (below_size (by repeat (first | (with_reducible first | exact HB.out | apply below_alloc | apply pw_below_drewN | apply below_drew1) | exact HB.out))) : w.heap.size ≤ gb16002)); have n3_ := Aside0.mk ((by rw [hg]; exact (below_size (by repeat (first | (with_reducible first | exact HB.out | apply below_alloc | apply pw_below_drewN | apply below_drew1) | exact HB.out))) : w.heap.size ≤ gb16002)); clear HB; have HB := n0_; have BK16002 := n1_; have GW16002 := n2_; have GE16002 := n3_; clear n0_ n1_ n2_ n3_; clear hb hbox hg; have hcz9_0 : w8.cell? ⟨gb16002, 0, none⟩ = some (.int .i64 0) := (blk_cell BK16002.out 0).trans rfl; have hcz9_1 : w8.cell? ⟨gb16002, 1, none⟩ = some (.int .i64 0) := (blk_cell BK16002.out 1).trans rfl; have hcz9_2 : w8.cell? ⟨gb16002, 2, none⟩ = some (.int .i64 0) := (blk_cell BK16002.out 2).trans rfl; have hcz9_3 : w8.cell? ⟨gb16002, 3, none⟩ = some (.int .i64 0) := (blk_cell BK16002.out 3).trans rfl; have hcz9_4 : w8.cell? ⟨gb16002, 4, none⟩ = some (.int .i64 0) := (blk_cell BK16002.out 4).trans rfl; have hfz9_0 := blk_frozen BK16002.out 0; have hfz9_1 := blk_frozen BK16002.out 1; have hfz9_2 := blk_frozen BK16002.out 2; have hfz9_3 := blk_frozen BK16002.out 3; have hfz9_4 := blk_frozen BK16002.out 4) | (go_at_call 27; (with_reducible refine (reel_checkOne.calls k1 ((rd_T44 l0 x15_1).f0) ((rd_T44 l0 x15_1).f1) ((rd_T44 l0 x15_1).f2) ((rd_T44 l0 x15_1).f3) ((rd_T44 l0 x15_1).f4) t16003 _ A6.out).mono ?_); rintro e w10 ⟨rfl, hb⟩; have n0_ := Aside0.mk (blk_below (g := gb16002) (o := .cells #[.int .i64 ((rd_T44 l0 x15_1).f0), .int .i64 ((rd_T44 l0 x15_1).f1), .int .i64 ((rd_T44 l0 x15_1).f2), .int .i64 ((rd_T44 l0 x15_1).f3), .int .i64 ((rd_T44 l0 x15_1).f4)] 44 (0, 0)) (by (with_reducible repeat (first | refine blk_drewN ?_ _ | refine blk_drew ?_ | refine blk_alloc ?_ _)); refine blk_put (cs := #[.int .i64 ((rd_T44 l0 x15_1).f0), .int .i64 ((rd_T44 l0 x15_1).f1), .int .i64 ((rd_T44 l0 x15_1).f2), .int .i64 ((rd_T44 l0 x15_1).f3), .int .i64 0]) ?_ 4 _ rfl; (with_reducible repeat (first | refine blk_drewN ?_ _ | refine blk_drew ?_ | refine blk_alloc ?_ _)); refine blk_put (cs := #[.int .i64 ((rd_T44 l0 x15_1).f0), .int .i64 ((rd_T44 l0 x15_1).f1), .int .i64 ((rd_T44 l0 x15_1).f2), .int .i64 0, .int .i64 0]) ?_ 3 _ rfl; (with_reducible repeat (first | refine blk_drewN ?_ _ | refine blk_drew ?_ | refine blk_alloc ?_ _)); refine blk_put (cs := #[.int .i64 ((rd_T44 l0 x15_1).f0), .int .i64 ((rd_T44 l0 x15_1).f1), .int .i64 0, .int .i64 0, .int .i64 0]) ?_ 2 _ rfl; (with_reducible repeat (first | refine blk_drewN ?_ _ | refine blk_drew ?_ | refine blk_alloc ?_ _)); refine blk_put (cs := #[.int .i64 ((rd_T44 l0 x15_1).f0), .int .i64 0, .int .i64 0, .int .i64 0, .int .i64 0]) ?_ 1 _ rfl; (with_reducible repeat (first | refine blk_drewN ?_ _ | refine blk_drew ?_ | refine blk_alloc ?_ _)); refine blk_put (cs := #[.int .i64 0, .int .i64 0, .int .i64 0, .int .i64 0, .int .i64 0]) ?_ 0 _ rfl; (with_reducible repeat (first | refine blk_drewN ?_ _ | refine blk_drew ?_ | refine blk_alloc ?_ _)); exact BK16002.out) hb); have n1_ := Aside0.mk (below_step (by repeat (first | (with_reducible first | exact HB.out | apply below_alloc | apply pw_below_drewN | apply below_drew1 | refine below_set ?_ GE16002.out) | exact HB.out)) hb); clear BK16002; clear HB; have BK16002 := n0_; have HB := n1_; clear n0_ n1_; (try clear hb); (try clear hb2); (try clear hk); (try clear hi)))
                repeat (go_quiet (first | ((with_reducible refine gate_dst (N := 4) rfl ?_); refine box_event ?hg (N := 4) ?hd (cs := #[.int .i64 0, .int .i64 0, .int .i64 0, .int .i64 0, .int .i64 0]) (t := 44) ?hr ?_; (case hd => rfl); (case hg => rfl); (case hr => first | (go_simp; done) | (go_simp; rfl)); intro gb16002 hg w8 hbox hb; have n0_ := Aside0.mk (below_step (by repeat (first | (with_reducible first | exact HB.out | apply below_alloc | apply pw_below_drewN | apply below_drew1) | exact HB.out)) hb); have n1_ := Aside0.mk (hbox); have n2_ := Aside0.mk ((by rw [hg]; exact (below_size (by repeat (first | (with_reducible first | exact HB.out | apply below_alloc | apply pw_below_drewN | apply below_drew1) | exact HB.out))) : w.heap.size ≤ gb16002)); have n3_ := Aside0.mk ((by rw [hg]; exact (below_size (by repeat (first | (with_reducible first | exact HB.out | apply below_alloc | apply pw_below_drewN | apply below_drew1) | exact HB.out))) : w.heap.size ≤ gb16002)); clear HB; have HB := n0_; have BK16002 := n1_; have GW16002 := n2_; have GE16002 := n3_; clear n0_ n1_ n2_ n3_; clear hb hbox hg; have hcz9_0 : w8.cell? ⟨gb16002, 0, none⟩ = some (.int .i64 0) := (blk_cell BK16002.out 0).trans rfl; have hcz9_1 : w8.cell? ⟨gb16002, 1, none⟩ = some (.int .i64 0) := (blk_cell BK16002.out 1).trans rfl; have hcz9_2 : w8.cell? ⟨gb16002, 2, none⟩ = some (.int .i64 0) := (blk_cell BK16002.out 2).trans rfl; have hcz9_3 : w8.cell? ⟨gb16002, 3, none⟩ = some (.int .i64 0) := (blk_cell BK16002.out 3).trans rfl; have hcz9_4 : w8.cell? ⟨gb16002, 4, none⟩ = some (.int .i64 0) := (blk_cell BK16002.out 4).trans rfl; have hfz9_0 := blk_frozen BK16002.out 0; have hfz9_1 := blk_frozen BK16002.out 1; have hfz9_2 := blk_frozen BK16002.out 2; have hfz9_3 := blk_frozen BK16002.out 3; have hfz9_4 := blk_frozen BK16002.out 4) | (go_at_call 27; (with_reducible refine (reel_checkOne.calls k1 ((rd_T44 l0 x15_1).f0) ((rd_T44 l0 x15_1).f1) ((rd_T44 l0 x15_1).f2) ((rd_T44 l0 x15_1).f3) ((rd_T44 l0 x15_1).f4) t16003 _ A6.out).mono ?_); rintro e w10 ⟨rfl, hb⟩; have n0_ := Aside0.mk (blk_below (g := gb16002) (o := .cells #[.int .i64 ((rd_T44 l0 x15_1).f0), .int .i64 ((rd_T44 l0 x15_1).f1), .int .i64 ((rd_T44 l0 x15_1).f2), .int .i64 ((rd_T44 l0 x15_1).f3), .int .i64 ((rd_T44 l0 x15_1).f4)] 44 (0, 0)) (by (with_reducible repeat (first | refine blk_drewN ?_ _ | refine blk_drew ?_ | refine blk_alloc ?_ _)); refine blk_put (cs := #[.int .i64 ((rd_T44 l0 x15_1).f0), .int .i64 ((rd_T44 l0 x15_1).f1), .int .i64 ((rd_T44 l0 x15_1).f2), .int .i64 ((rd_T44 l0 x15_1).f3), .int .i64 0]) ?_ 4 _ rfl; (with_reducible repeat (first | refine blk_drewN ?_ _ | refine blk_drew ?_ | refine blk_alloc ?_ _)); refine blk_put (cs := #[.int .i64 ((rd_T44 l0 x15_1).f0), .int .i64 ((rd_T44 l0 x15_1).f1), .int .i64 ((rd_T44 l0 x15_1).f2), .int .i64 0, .int .i64 0]) ?_ 3 _ rfl; (with_reducible repeat (first | refine blk_drewN ?_ _ | refine blk_drew ?_ | refine blk_alloc ?_ _)); refine blk_put (cs := #[.int .i64 ((rd_T44 l0 x15_1).f0), .int .i64 ((rd_T44 l0 x15_1).f1), .int .i64 0, .int .i64 0, .int .i64 0]) ?_ 2 _ rfl; (with_reducible repeat (first | refine blk_drewN ?_ _ | refine blk_drew ?_ | refine blk_alloc ?_ _)); refine blk_put (cs := #[.int .i64 ((rd_T44 l0 x15_1).f0), .int .i64 0, .int .i64 0, .int .i64 0, .int .i64 0]) ?_ 1 _ rfl; (with_reducible repeat (first | refine blk_drewN ?_ _ | refine blk_drew ?_ | refine blk_alloc ?_ _)); refine blk_put (cs := #[.int .i64 0, .int .i64 0, .int .i64 0, .int .i64 0, .int .i64 0]) ?_ 0 _ rfl; (with_reducible repeat (first | refine blk_drewN ?_ _ | refine blk_drew ?_ | refine blk_alloc ?_ _)); exact BK16002.out) hb); have n1_ := Aside0.mk (below_step (by repeat (first | (with_reducible first | exact HB.out | apply below_alloc | apply pw_below_drewN | apply below_drew1 | refine below_set ?_ GE16002.out) | exact HB.out)) hb); clear BK16002; clear HB; have BK16002 := n0_; have HB := n1_; clear n0_ n1_; (try clear hb); (try clear hb2); (try clear hk); (try clear hi))); try go_wp2_with (first | ((with_reducible refine gate_dst (N := 4) rfl ?_); refine box_event ?hg (N := 4) ?hd (cs := #[.int .i64 0, .int .i64 0, .int .i64 0, .int .i64 0, .int .i64 0]) (t := 44) ?hr ?_; (case hd => rfl); (case hg => rfl); (case hr => first | (go_simp; done) | (go_simp; rfl)); intro gb16002 hg w8 hbox hb; have n0_ := Aside0.mk (below_step (by repeat (first | (with_reducible first | exact HB.out | apply below_alloc | apply pw_below_drewN | apply below_drew1) | exact HB.out)) hb); have n1_ := Aside0.mk (hbox); have n2_ := Aside0.mk ((by rw [hg]; exact (below_size (by repeat (first | (with_reducible first | exact HB.out | apply below_alloc | apply pw_below_drewN | apply below_drew1) | exact HB.out))) : w.heap.size ≤ gb16002)); have n3_ := Aside0.mk ((by rw [hg]; exact (below_size (by repeat (first | (with_reducible first | exact HB.out | apply below_alloc | apply pw_below_drewN | apply below_drew1) | exact HB.out))) : w.heap.size ≤ gb16002)); clear HB; have HB := n0_; have BK16002 := n1_; have GW16002 := n2_; have GE16002 := n3_; clear n0_ n1_ n2_ n3_; clear hb hbox hg; have hcz9_0 : w8.cell? ⟨gb16002, 0, none⟩ = some (.int .i64 0) := (blk_cell BK16002.out 0).trans rfl; have hcz9_1 : w8.cell? ⟨gb16002, 1, none⟩ = some (.int .i64 0) := (blk_cell BK16002.out 1).trans rfl; have hcz9_2 : w8.cell? ⟨gb16002, 2, none⟩ = some (.int .i64 0) := (blk_cell BK16002.out 2).trans rfl; have hcz9_3 : w8.cell? ⟨gb16002, 3, none⟩ = some (.int .i64 0) := (blk_cell BK16002.out 3).trans rfl; have hcz9_4 : w8.cell? ⟨gb16002, 4, none⟩ = some (.int .i64 0) := (blk_cell BK16002.out 4).trans rfl; have hfz9_0 := blk_frozen BK16002.out 0; have hfz9_1 := blk_frozen BK16002.out 1; have hfz9_2 := blk_frozen BK16002.out 2; have hfz9_3 := blk_frozen BK16002.out 3; have hfz9_4 := blk_frozen BK16002.out 4) | (go_at_call 27; (with_reducible refine (reel_checkOne.calls k1 ((rd_T44 l0 x15_1).f0) ((rd_T44 l0 x15_1).f1) ((rd_T44 l0 x15_1).f2) ((rd_T44 l0 x15_1).f3) ((rd_T44 l0 x15_1).f4) t16003 _ A6.out).mono ?_); rintro e w10 ⟨rfl, hb⟩; have n0_ := Aside0.mk (blk_below (g := gb16002) (o := .cells #[.int .i64 ((rd_T44 l0 x15_1).f0), .int .i64 ((rd_T44 l0 x15_1).f1), .int .i64 ((rd_T44 l0 x15_1).f2), .int .i64 ((rd_T44 l0 x15_1).f3), .int .i64 ((rd_T44 l0 x15_1).f4)] 44 (0, 0)) (by (with_reducible repeat (first | refine blk_drewN ?_ _ | refine blk_drew ?_ | refine blk_alloc ?_ _)); refine blk_put (cs := #[.int .i64 ((rd_T44 l0 x15_1).f0), .int .i64 ((rd_T44 l0 x15_1).f1), .int .i64 ((rd_T44 l0 x15_1).f2), .int .i64 ((rd_T44 l0 x15_1).f3), .int .i64 0]) ?_ 4 _ rfl; (with_reducible repeat (first | refine blk_drewN ?_ _ | refine blk_drew ?_ | refine blk_alloc ?_ _)); refine blk_put (cs := #[.int .i64 ((rd_T44 l0 x15_1).f0), .int .i64 ((rd_T44 l0 x15_1).f1), .int .i64 ((rd_T44 l0 x15_1).f2), .int .i64 0, .int .i64 0]) ?_ 3 _ rfl; (with_reducible repeat (first | refine blk_drewN ?_ _ | refine blk_drew ?_ | refine blk_alloc ?_ _)); refine blk_put (cs := #[.int .i64 ((rd_T44 l0 x15_1).f0), .int .i64 ((rd_T44 l0 x15_1).f1), .int .i64 0, .int .i64 0, .int .i64 0]) ?_ 2 _ rfl; (with_reducible repeat (first | refine blk_drewN ?_ _ | refine blk_drew ?_ | refine blk_alloc ?_ _)); refine blk_put (cs := #[.int .i64 ((rd_T44 l0 x15_1).f0), .int .i64 0, .int .i64 0, .int .i64 0, .int .i64 0]) ?_ 1 _ rfl; (with_reducible repeat (first | refine blk_drewN ?_ _ | refine blk_drew ?_ | refine blk_alloc ?_ _)); refine blk_put (cs := #[.int .i64 0, .int .i64 0, .int .i64 0, .int .i64 0, .int .i64 0]) ?_ 0 _ rfl; (with_reducible repeat (first | refine blk_drewN ?_ _ | refine blk_drew ?_ | refine blk_alloc ?_ _)); exact BK16002.out) hb); have n1_ := Aside0.mk (below_step (by repeat (first | (with_reducible first | exact HB.out | apply below_alloc | apply pw_below_drewN | apply below_drew1 | refine below_set ?_ GE16002.out) | exact HB.out)) hb); clear BK16002; clear HB; have BK16002 := n0_; have HB := n1_; clear n0_ n1_; (try clear hb); (try clear hb2); (try clear hk); (try clear hi))))
                go_roundg k1
                case measure => have := HK1.out; omega
                case rel => exact ⟨(wrap64 (x15_1 + 1)), (by first | rfl | (simp; done) | (simp [*]; done)), H', ⟨by have := HK1.out; omega⟩, ⟨by repeat (first | (with_reducible first | exact HB.out | apply below_alloc | apply pw_below_drewN | apply below_drew1 | refine below_set ?_ GE16002.out) | exact HB.out)⟩⟩
              · rw [if_neg c7] at H
                have c7b0 : (t16003 == 0) = false := beq_eq_false_iff_ne.mpr c7
                have c7b1 : (t16003 != 0) = true := bne_iff_ne.mpr c7
                obtain rfl := Option.some.inj H
                have p16001 : 0 ≤ (x15_1 : Int) := of_decide_eq_true (by first | (with_reducible assumption) | assumption)
                have q16001 : x15_1 < (l0.length : Int) := of_decide_eq_true (by first | (with_reducible assumption) | assumption)
                obtain ⟨ad16001, e16001, hx16001_0, hx16001_1, hx16001_2, hx16001_3, hx16001_4⟩ := at_T44 HR0.out x15_1 p16001 q16001
                cases e16001
                replace hx16001_0 := (HB.out.cell (World.block_lt_of_cell? w _ hx16001_0)).trans hx16001_0
                replace hx16001_1 := (HB.out.cell (World.block_lt_of_cell? w _ hx16001_1)).trans hx16001_1
                replace hx16001_2 := (HB.out.cell (World.block_lt_of_cell? w _ hx16001_2)).trans hx16001_2
                replace hx16001_3 := (HB.out.cell (World.block_lt_of_cell? w _ hx16001_3)).trans hx16001_3
                replace hx16001_4 := (HB.out.cell (World.block_lt_of_cell? w _ hx16001_4)).trans hx16001_4
                replace p16001 := eq_true p16001
                replace q16001 := eq_true q16001
                go_wp2_with (first | ((with_reducible refine gate_dst (N := 4) rfl ?_); refine box_event ?hg (N := 4) ?hd (cs := #[.int .i64 0, .int .i64 0, .int .i64 0, .int .i64 0, .int .i64 0]) (t := 44) ?hr ?_; (case hd => rfl); (case hg => rfl); (case hr => first | (go_simp; done) | (go_simp; rfl)); intro gb16002 hg w11 hbox hb; have n0_ := Aside0.mk (below_step (by repeat (first | (with_reducible first | exact HB.out | apply below_alloc | apply pw_below_drewN | apply below_drew1) | exact HB.out)) hb); have n1_ := Aside0.mk (hbox); have n2_ := Aside0.mk ((by rw [hg]; exact (below_size (by repeat (first | (with_reducible first | exact HB.out | apply below_alloc | apply pw_below_drewN | apply below_drew1) | exact HB.out))) : w.heap.size ≤ gb16002)); have n3_ := Aside0.mk ((by rw [hg]; exact (below_size (by repeat (first | (with_reducible first | exact HB.out | apply below_alloc | apply pw_below_drewN | apply below_drew1) | exact HB.out))) : w.heap.size ≤ gb16002)); clear HB; have HB := n0_; have BK16002 := n1_; have GW16002 := n2_; have GE16002 := n3_; clear n0_ n1_ n2_ n3_; clear hb hbox hg; have hcz12_0 : w11.cell? ⟨gb16002, 0, none⟩ = some (.int .i64 0) := (blk_cell BK16002.out 0).trans rfl; have hcz12_1 : w11.cell? ⟨gb16002, 1, none⟩ = some (.int .i64 0) := (blk_cell BK16002.out 1).trans rfl; have hcz12_2 : w11.cell? ⟨gb16002, 2, none⟩ = some (.int .i64 0) := (blk_cell BK16002.out 2).trans rfl; have hcz12_3 : w11.cell? ⟨gb16002, 3, none⟩ = some (.int .i64 0) := (blk_cell BK16002.out 3).trans rfl; have hcz12_4 : w11.cell? ⟨gb16002, 4, none⟩ = some (.int .i64 0) := (blk_cell BK16002.out 4).trans rfl; have hfz12_0 := blk_frozen BK16002.out 0; have hfz12_1 := blk_frozen BK16002.out 1; have hfz12_2 := blk_frozen BK16002.out 2; have hfz12_3 := blk_frozen BK16002.out 3; have hfz12_4 := blk_frozen BK16002.out 4) | (go_at_call 27; (with_reducible refine (reel_checkOne.calls k1 ((rd_T44 l0 x15_1).f0) ((rd_T44 l0 x15_1).f1) ((rd_T44 l0 x15_1).f2) ((rd_T44 l0 x15_1).f3) ((rd_T44 l0 x15_1).f4) t16003 _ A6.out).mono ?_); rintro e w13 ⟨rfl, hb⟩; have n0_ := Aside0.mk (blk_below (g := gb16002) (o := .cells #[.int .i64 ((rd_T44 l0 x15_1).f0), .int .i64 ((rd_T44 l0 x15_1).f1), .int .i64 ((rd_T44 l0 x15_1).f2), .int .i64 ((rd_T44 l0 x15_1).f3), .int .i64 ((rd_T44 l0 x15_1).f4)] 44 (0, 0)) (by (with_reducible repeat (first | refine blk_drewN ?_ _ | refine blk_drew ?_ | refine blk_alloc ?_ _)); refine blk_put (cs := #[.int .i64 ((rd_T44 l0 x15_1).f0), .int .i64 ((rd_T44 l0 x15_1).f1), .int .i64 ((rd_T44 l0 x15_1).f2), .int .i64 ((rd_T44 l0 x15_1).f3), .int .i64 0]) ?_ 4 _ rfl; (with_reducible repeat (first | refine blk_drewN ?_ _ | refine blk_drew ?_ | refine blk_alloc ?_ _)); refine blk_put (cs := #[.int .i64 ((rd_T44 l0 x15_1).f0), .int .i64 ((rd_T44 l0 x15_1).f1), .int .i64 ((rd_T44 l0 x15_1).f2), .int .i64 0, .int .i64 0]) ?_ 3 _ rfl; (with_reducible repeat (first | refine blk_drewN ?_ _ | refine blk_drew ?_ | refine blk_alloc ?_ _)); refine blk_put (cs := #[.int .i64 ((rd_T44 l0 x15_1).f0), .int .i64 ((rd_T44 l0 x15_1).f1), .int .i64 0, .int .i64 0, .int .i64 0]) ?_ 2 _ rfl; (with_reducible repeat (first | refine blk_drewN ?_ _ | refine blk_drew ?_ | refine blk_alloc ?_ _)); refine blk_put (cs := #[.int .i64 ((rd_T44 l0 x15_1).f0), .int .i64 0, .int .i64 0, .int .i64 0, .int .i64 0]) ?_ 1 _ rfl; (with_reducible repeat (first | refine blk_drewN ?_ _ | refine blk_drew ?_ | refine blk_alloc ?_ _)); refine blk_put (cs := #[.int .i64 0, .int .i64 0, .int .i64 0, .int .i64 0, .int .i64 0]) ?_ 0 _ rfl; (with_reducible repeat (first | refine blk_drewN ?_ _ | refine blk_drew ?_ | refine blk_alloc ?_ _)); exact BK16002.out) hb); have n1_ := Aside0.mk (below_step (by repeat (first | (with_reducible first | exact HB.out | apply below_alloc | apply pw_below_drewN | apply below_drew1 | refine below_set ?_ GE16002.out) | exact HB.out)) hb); clear BK16002; clear HB; have BK16002 := n0_; have HB := n1_; clear n0_ n1_; (try clear hb); (try clear hb2); (try clear hk); (try clear hi)))
                repeat (go_quiet (first | ((with_reducible refine gate_dst (N := 4) rfl ?_); refine box_event ?hg (N := 4) ?hd (cs := #[.int .i64 0, .int .i64 0, .int .i64 0, .int .i64 0, .int .i64 0]) (t := 44) ?hr ?_; (case hd => rfl); (case hg => rfl); (case hr => first | (go_simp; done) | (go_simp; rfl)); intro gb16002 hg w11 hbox hb; have n0_ := Aside0.mk (below_step (by repeat (first | (with_reducible first | exact HB.out | apply below_alloc | apply pw_below_drewN | apply below_drew1) | exact HB.out)) hb); have n1_ := Aside0.mk (hbox); have n2_ := Aside0.mk ((by rw [hg]; exact (below_size (by repeat (first | (with_reducible first | exact HB.out | apply below_alloc | apply pw_below_drewN | apply below_drew1) | exact HB.out))) : w.heap.size ≤ gb16002)); have n3_ := Aside0.mk ((by rw [hg]; exact (below_size (by repeat (first | (with_reducible first | exact HB.out | apply below_alloc | apply pw_below_drewN | apply below_drew1) | exact HB.out))) : w.heap.size ≤ gb16002)); clear HB; have HB := n0_; have BK16002 := n1_; have GW16002 := n2_; have GE16002 := n3_; clear n0_ n1_ n2_ n3_; clear hb hbox hg; have hcz12_0 : w11.cell? ⟨gb16002, 0, none⟩ = some (.int .i64 0) := (blk_cell BK16002.out 0).trans rfl; have hcz12_1 : w11.cell? ⟨gb16002, 1, none⟩ = some (.int .i64 0) := (blk_cell BK16002.out 1).trans rfl; have hcz12_2 : w11.cell? ⟨gb16002, 2, none⟩ = some (.int .i64 0) := (blk_cell BK16002.out 2).trans rfl; have hcz12_3 : w11.cell? ⟨gb16002, 3, none⟩ = some (.int .i64 0) := (blk_cell BK16002.out 3).trans rfl; have hcz12_4 : w11.cell? ⟨gb16002, 4, none⟩ = some (.int .i64 0) := (blk_cell BK16002.out 4).trans rfl; have hfz12_0 := blk_frozen BK16002.out 0; have hfz12_1 := blk_frozen BK16002.out 1; have hfz12_2 := blk_frozen BK16002.out 2; have hfz12_3 := blk_frozen BK16002.out 3; have hfz12_4 := blk_frozen BK16002.out 4) | (go_at_call 27; (with_reducible refine (reel_checkOne.calls k1 ((rd_T44 l0 x15_1).f0) ((rd_T44 l0 x15_1).f1) ((rd_T44 l0 x15_1).f2) ((rd_T44 l0 x15_1).f3) ((rd_T44 l0 x15_1).f4) t16003 _ A6.out).mono ?_); rintro e w13 ⟨rfl, hb⟩; have n0_ := Aside0.mk (blk_below (g := gb16002) (o := .cells #[.int .i64 ((rd_T44 l0 x15_1).f0), .int .i64 ((rd_T44 l0 x15_1).f1), .int .i64 ((rd_T44 l0 x15_1).f2), .int .i64 ((rd_T44 l0 x15_1).f3), .int .i64 ((rd_T44 l0 x15_1).f4)] 44 (0, 0)) (by (with_reducible repeat (first | refine blk_drewN ?_ _ | refine blk_drew ?_ | refine blk_alloc ?_ _)); refine blk_put (cs := #[.int .i64 ((rd_T44 l0 x15_1).f0), .int .i64 ((rd_T44 l0 x15_1).f1), .int .i64 ((rd_T44 l0 x15_1).f2), .int .i64 ((rd_T44 l0 x15_1).f3), .int .i64 0]) ?_ 4 _ rfl; (with_reducible repeat (first | refine blk_drewN ?_ _ | refine blk_drew ?_ | refine blk_alloc ?_ _)); refine blk_put (cs := #[.int .i64 ((rd_T44 l0 x15_1).f0), .int .i64 ((rd_T44 l0 x15_1).f1), .int .i64 ((rd_T44 l0 x15_1).f2), .int .i64 0, .int .i64 0]) ?_ 3 _ rfl; (with_reducible repeat (first | refine blk_drewN ?_ _ | refine blk_drew ?_ | refine blk_alloc ?_ _)); refine blk_put (cs := #[.int .i64 ((rd_T44 l0 x15_1).f0), .int .i64 ((rd_T44 l0 x15_1).f1), .int .i64 0, .int .i64 0, .int .i64 0]) ?_ 2 _ rfl; (with_reducible repeat (first | refine blk_drewN ?_ _ | refine blk_drew ?_ | refine blk_alloc ?_ _)); refine blk_put (cs := #[.int .i64 ((rd_T44 l0 x15_1).f0), .int .i64 0, .int .i64 0, .int .i64 0, .int .i64 0]) ?_ 1 _ rfl; (with_reducible repeat (first | refine blk_drewN ?_ _ | refine blk_drew ?_ | refine blk_alloc ?_ _)); refine blk_put (cs := #[.int .i64 0, .int .i64 0, .int .i64 0, .int .i64 0, .int .i64 0]) ?_ 0 _ rfl; (with_reducible repeat (first | refine blk_drewN ?_ _ | refine blk_drew ?_ | refine blk_alloc ?_ _)); exact BK16002.out) hb); have n1_ := Aside0.mk (below_step (by repeat (first | (with_reducible first | exact HB.out | apply below_alloc | apply pw_below_drewN | apply below_drew1 | refine below_set ?_ GE16002.out) | exact HB.out)) hb); clear BK16002; clear HB; have BK16002 := n0_; have HB := n1_; clear n0_ n1_; (try clear hb); (try clear hb2); (try clear hk); (try clear hi))); try go_wp2_with (first | ((with_reducible refine gate_dst (N := 4) rfl ?_); refine box_event ?hg (N := 4) ?hd (cs := #[.int .i64 0, .int .i64 0, .int .i64 0, .int .i64 0, .int .i64 0]) (t := 44) ?hr ?_; (case hd => rfl); (case hg => rfl); (case hr => first | (go_simp; done) | (go_simp; rfl)); intro gb16002 hg w11 hbox hb; have n0_ := Aside0.mk (below_step (by repeat (first | (with_reducible first | exact HB.out | apply below_alloc | apply pw_below_drewN | apply below_drew1) | exact HB.out)) hb); have n1_ := Aside0.mk (hbox); have n2_ := Aside0.mk ((by rw [hg]; exact (below_size (by repeat (first | (with_reducible first | exact HB.out | apply below_alloc | apply pw_below_drewN | apply below_drew1) | exact HB.out))) : w.heap.size ≤ gb16002)); have n3_ := Aside0.mk ((by rw [hg]; exact (below_size (by repeat (first | (with_reducible first | exact HB.out | apply below_alloc | apply pw_below_drewN | apply below_drew1) | exact HB.out))) : w.heap.size ≤ gb16002)); clear HB; have HB := n0_; have BK16002 := n1_; have GW16002 := n2_; have GE16002 := n3_; clear n0_ n1_ n2_ n3_; clear hb hbox hg; have hcz12_0 : w11.cell? ⟨gb16002, 0, none⟩ = some (.int .i64 0) := (blk_cell BK16002.out 0).trans rfl; have hcz12_1 : w11.cell? ⟨gb16002, 1, none⟩ = some (.int .i64 0) := (blk_cell BK16002.out 1).trans rfl; have hcz12_2 : w11.cell? ⟨gb16002, 2, none⟩ = some (.int .i64 0) := (blk_cell BK16002.out 2).trans rfl; have hcz12_3 : w11.cell? ⟨gb16002, 3, none⟩ = some (.int .i64 0) := (blk_cell BK16002.out 3).trans rfl; have hcz12_4 : w11.cell? ⟨gb16002, 4, none⟩ = some (.int .i64 0) := (blk_cell BK16002.out 4).trans rfl; have hfz12_0 := blk_frozen BK16002.out 0; have hfz12_1 := blk_frozen BK16002.out 1; have hfz12_2 := blk_frozen BK16002.out 2; have hfz12_3 := blk_frozen BK16002.out 3; have hfz12_4 := blk_frozen BK16002.out 4) | (go_at_call 27; (with_reducible refine (reel_checkOne.calls k1 ((rd_T44 l0 x15_1).f0) ((rd_T44 l0 x15_1).f1) ((rd_T44 l0 x15_1).f2) ((rd_T44 l0 x15_1).f3) ((rd_T44 l0 x15_1).f4) t16003 _ A6.out).mono ?_); rintro e w13 ⟨rfl, hb⟩; have n0_ := Aside0.mk (blk_below (g := gb16002) (o := .cells #[.int .i64 ((rd_T44 l0 x15_1).f0), .int .i64 ((rd_T44 l0 x15_1).f1), .int .i64 ((rd_T44 l0 x15_1).f2), .int .i64 ((rd_T44 l0 x15_1).f3), .int .i64 ((rd_T44 l0 x15_1).f4)] 44 (0, 0)) (by (with_reducible repeat (first | refine blk_drewN ?_ _ | refine blk_drew ?_ | refine blk_alloc ?_ _)); refine blk_put (cs := #[.int .i64 ((rd_T44 l0 x15_1).f0), .int .i64 ((rd_T44 l0 x15_1).f1), .int .i64 ((rd_T44 l0 x15_1).f2), .int .i64 ((rd_T44 l0 x15_1).f3), .int .i64 0]) ?_ 4 _ rfl; (with_reducible repeat (first | refine blk_drewN ?_ _ | refine blk_drew ?_ | refine blk_alloc ?_ _)); refine blk_put (cs := #[.int .i64 ((rd_T44 l0 x15_1).f0), .int .i64 ((rd_T44 l0 x15_1).f1), .int .i64 ((rd_T44 l0 x15_1).f2), .int .i64 0, .int .i64 0]) ?_ 3 _ rfl; (with_reducible repeat (first | refine blk_drewN ?_ _ | refine blk_drew ?_ | refine blk_alloc ?_ _)); refine blk_put (cs := #[.int .i64 ((rd_T44 l0 x15_1).f0), .int .i64 ((rd_T44 l0 x15_1).f1), .int .i64 0, .int .i64 0, .int .i64 0]) ?_ 2 _ rfl; (with_reducible repeat (first | refine blk_drewN ?_ _ | refine blk_drew ?_ | refine blk_alloc ?_ _)); refine blk_put (cs := #[.int .i64 ((rd_T44 l0 x15_1).f0), .int .i64 0, .int .i64 0, .int .i64 0, .int .i64 0]) ?_ 1 _ rfl; (with_reducible repeat (first | refine blk_drewN ?_ _ | refine blk_drew ?_ | refine blk_alloc ?_ _)); refine blk_put (cs := #[.int .i64 0, .int .i64 0, .int .i64 0, .int .i64 0, .int .i64 0]) ?_ 0 _ rfl; (with_reducible repeat (first | refine blk_drewN ?_ _ | refine blk_drew ?_ | refine blk_alloc ?_ _)); exact BK16002.out) hb); have n1_ := Aside0.mk (below_step (by repeat (first | (with_reducible first | exact HB.out | apply below_alloc | apply pw_below_drewN | apply below_drew1 | refine below_set ?_ GE16002.out) | exact HB.out)) hb); clear BK16002; clear HB; have BK16002 := n0_; have HB := n1_; clear n0_ n1_; (try clear hb); (try clear hb2); (try clear hk); (try clear hi))))
                go_ret
                exact ⟨by first | rfl | (simp [errW_none, errW_some] <;> rfl) | (simp [*, errW_none, errW_some] <;> rfl), by repeat (first | (with_reducible first | exact HB.out | apply below_alloc | apply pw_below_drewN | apply below_drew1 | refine below_set ?_ GE16002.out) | exact HB.out)⟩
            · rw [if_neg c5] at H
              exact absurd H (by simp)
          · rw [if_neg c4] at H
            exact absurd H (by simp)
        · rw [if_neg c3] at H
          have c3b0 : decide (x15_1 < (l0.length : Int)) = false := decide_eq_false c3
          clear c3
          have H' := Aside0.mk H
          clear H
          go_wp2
          repeat (go_quiet (fail); try go_wp2)
          go_loopg [6, 7, 27] k1 (fun kq v6 v7 v27 w' => ∃ (x6_2 : Int) (x7_2 : Int) (x27_2 : Int), v6 = .int .i64 x6_2 ∧ v7 = .int .i64 x7_2 ∧ v27 = .int .i64 x27_2 ∧ Aside0 (reel_Check.l1 kq x6_2 x7_2 l0 (l0.length : Int) x27_2 = some r) ∧ Aside0 (kq ≤ k1) ∧ Aside0 (Below w.heap.size w w'))
          case atStart => exact ⟨(0), (0), (0), (by first | rfl | (simp; done) | (simp [*]; done)), (by first | rfl | (simp; done) | (simp [*]; done)), (by first | rfl | (simp; done) | (simp [*]; done)), H', ⟨Nat.le_refl _⟩, ⟨by repeat (first | (with_reducible first | exact HB.out | apply below_alloc | apply pw_below_drewN | apply below_drew1) | exact HB.out)⟩⟩
          case round =>
            clear H'
            try clear c1
            try clear p1
            try clear q1
            try clear hx1
            try clear c2
            try clear c2b0
            try clear c2b1
            try clear p2
            try clear c3
            try clear c3b0
            try clear c4
            try clear c4b0
            try clear c5
            try clear c5b0
            try clear p6
            try clear c7
            try clear c7b0
            try clear c7b1
            try clear hcz12_0
            try clear hcz12_1
            try clear hcz12_2
            try clear hcz12_3
            try clear hcz12_4
            try clear hcz9_0
            try clear hcz9_1
            try clear hcz9_2
            try clear hcz9_3
            try clear hcz9_4
            try clear hfz12_0
            try clear hfz12_1
            try clear hfz12_2
            try clear hfz12_3
            try clear hfz12_4
            try clear hfz9_0
            try clear hfz9_1
            try clear hfz9_2
            try clear hfz9_3
            try clear hfz9_4
            try clear hx16001_0
            try clear hx16001_1
            try clear hx16001_2
            try clear hx16001_3
            try clear hx16001_4
            try clear p16001
            try clear p2
            try clear q16001
            obtain ⟨x6_2, x7_2, x27_2, rfl, rfl, rfl, HA, HK2, HB⟩ := hrel
            cases gk with
            | zero => exact absurd HA.out (by simp [reel_Check.l1])
            | succ k2 =>
              have H := HA.out
              clear HA
              simp only [reel_Check.l1] at H
              by_cases c14 : x27_2 < (l0.length : Int)
              · rw [if_pos c14] at H
                have c14b0 : decide (x27_2 < (l0.length : Int)) = true := decide_eq_true c14
                clear c14
                by_cases c15 : 0 ≤ x27_2
                · rw [if_pos c15] at H
                  have c15b0 : decide (0 ≤ x27_2) = true := decide_eq_true c15
                  clear c15
                  by_cases c16 : x27_2 < (l0.length : Int)
                  · rw [if_pos c16] at H
                    have c16b0 : decide (x27_2 < (l0.length : Int)) = true := decide_eq_true c16
                    clear c16
                    by_cases c17 : ((rd_T44 l0 x27_2).f0) = x6_2
                    · rw [if_pos c17] at H
                      have c17b0 : (((rd_T44 l0 x27_2).f0) == x6_2) = true := beq_iff_eq.mpr c17
                      have c17b1 : (((rd_T44 l0 x27_2).f0) != x6_2) = false := bne_eq_false_iff_eq.mpr c17
                      clear c17
                      by_cases c18 : ((rd_T44 l0 x27_2).f4) < x7_2
                      · rw [if_pos c18] at H
                        have c18b0 : decide (((rd_T44 l0 x27_2).f4) < x7_2) = true := decide_eq_true c18
                        clear c18
                        obtain rfl := Option.some.inj H
                        have p16004 : 0 ≤ (x27_2 : Int) := of_decide_eq_true (by first | (with_reducible assumption) | assumption)
                        have q16004 : x27_2 < (l0.length : Int) := of_decide_eq_true (by first | (with_reducible assumption) | assumption)
                        obtain ⟨ad16004, e16004, hx16004_0, hx16004_1, hx16004_2, hx16004_3, hx16004_4⟩ := at_T44 HR0.out x27_2 p16004 q16004
                        cases e16004
                        replace hx16004_0 := (HB.out.cell (World.block_lt_of_cell? w _ hx16004_0)).trans hx16004_0
                        replace hx16004_1 := (HB.out.cell (World.block_lt_of_cell? w _ hx16004_1)).trans hx16004_1
                        replace hx16004_2 := (HB.out.cell (World.block_lt_of_cell? w _ hx16004_2)).trans hx16004_2
                        replace hx16004_3 := (HB.out.cell (World.block_lt_of_cell? w _ hx16004_3)).trans hx16004_3
                        replace hx16004_4 := (HB.out.cell (World.block_lt_of_cell? w _ hx16004_4)).trans hx16004_4
                        replace p16004 := eq_true p16004
                        replace q16004 := eq_true q16004
                        go_wp2_with (first | ((with_reducible refine gate_dst (N := 9) rfl ?_); refine box_event ?hg (N := 9) ?hd (cs := #[.int .i64 0, .int .i64 0, .int .i64 0, .int .i64 0, .int .i64 0]) (t := 44) ?hr ?_; (case hd => rfl); (case hg => rfl); (case hr => first | (go_simp; done) | (go_simp; rfl)); intro gb16005 hg w19 hbox hb; have n0_ := Aside0.mk (below_step (by repeat (first | (with_reducible first | exact HB.out | apply below_alloc | apply pw_below_drewN | apply below_drew1) | exact HB.out)) hb); have n1_ := Aside0.mk (hbox); have n2_ := Aside0.mk ((by rw [hg]; exact (below_size (by repeat (first | (with_reducible first | exact HB.out | apply below_alloc | apply pw_below_drewN | apply below_drew1) | exact HB.out))) : w.heap.size ≤ gb16005)); have n3_ := Aside0.mk ((by rw [hg]; exact (below_size (by repeat (first | (with_reducible first | exact HB.out | apply below_alloc | apply pw_below_drewN | apply below_drew1) | exact HB.out))) : w.heap.size ≤ gb16005)); clear HB; have HB := n0_; have BK16005 := n1_; have GW16005 := n2_; have GE16005 := n3_; clear n0_ n1_ n2_ n3_; clear hb hbox hg; have hcz20_0 : w19.cell? ⟨gb16005, 0, none⟩ = some (.int .i64 0) := (blk_cell BK16005.out 0).trans rfl; have hcz20_1 : w19.cell? ⟨gb16005, 1, none⟩ = some (.int .i64 0) := (blk_cell BK16005.out 1).trans rfl; have hcz20_2 : w19.cell? ⟨gb16005, 2, none⟩ = some (.int .i64 0) := (blk_cell BK16005.out 2).trans rfl; have hcz20_3 : w19.cell? ⟨gb16005, 3, none⟩ = some (.int .i64 0) := (blk_cell BK16005.out 3).trans rfl; have hcz20_4 : w19.cell? ⟨gb16005, 4, none⟩ = some (.int .i64 0) := (blk_cell BK16005.out 4).trans rfl; have hfz20_0 := blk_frozen BK16005.out 0; have hfz20_1 := blk_frozen BK16005.out 1; have hfz20_2 := blk_frozen BK16005.out 2; have hfz20_3 := blk_frozen BK16005.out 3; have hfz20_4 := blk_frozen BK16005.out 4))
                        repeat (go_quiet (first | ((with_reducible refine gate_dst (N := 9) rfl ?_); refine box_event ?hg (N := 9) ?hd (cs := #[.int .i64 0, .int .i64 0, .int .i64 0, .int .i64 0, .int .i64 0]) (t := 44) ?hr ?_; (case hd => rfl); (case hg => rfl); (case hr => first | (go_simp; done) | (go_simp; rfl)); intro gb16005 hg w19 hbox hb; have n0_ := Aside0.mk (below_step (by repeat (first | (with_reducible first | exact HB.out | apply below_alloc | apply pw_below_drewN | apply below_drew1) | exact HB.out)) hb); have n1_ := Aside0.mk (hbox); have n2_ := Aside0.mk ((by rw [hg]; exact (below_size (by repeat (first | (with_reducible first | exact HB.out | apply below_alloc | apply pw_below_drewN | apply below_drew1) | exact HB.out))) : w.heap.size ≤ gb16005)); have n3_ := Aside0.mk ((by rw [hg]; exact (below_size (by repeat (first | (with_reducible first | exact HB.out | apply below_alloc | apply pw_below_drewN | apply below_drew1) | exact HB.out))) : w.heap.size ≤ gb16005)); clear HB; have HB := n0_; have BK16005 := n1_; have GW16005 := n2_; have GE16005 := n3_; clear n0_ n1_ n2_ n3_; clear hb hbox hg; have hcz20_0 : w19.cell? ⟨gb16005, 0, none⟩ = some (.int .i64 0) := (blk_cell BK16005.out 0).trans rfl; have hcz20_1 : w19.cell? ⟨gb16005, 1, none⟩ = some (.int .i64 0) := (blk_cell BK16005.out 1).trans rfl; have hcz20_2 : w19.cell? ⟨gb16005, 2, none⟩ = some (.int .i64 0) := (blk_cell BK16005.out 2).trans rfl; have hcz20_3 : w19.cell? ⟨gb16005, 3, none⟩ = some (.int .i64 0) := (blk_cell BK16005.out 3).trans rfl; have hcz20_4 : w19.cell? ⟨gb16005, 4, none⟩ = some (.int .i64 0) := (blk_cell BK16005.out 4).trans rfl; have hfz20_0 := blk_frozen BK16005.out 0; have hfz20_1 := blk_frozen BK16005.out 1; have hfz20_2 := blk_frozen BK16005.out 2; have hfz20_3 := blk_frozen BK16005.out 3; have hfz20_4 := blk_frozen BK16005.out 4)); try go_wp2_with (first | ((with_reducible refine gate_dst (N := 9) rfl ?_); refine box_event ?hg (N := 9) ?hd (cs := #[.int .i64 0, .int .i64 0, .int .i64 0, .int .i64 0, .int .i64 0]) (t := 44) ?hr ?_; (case hd => rfl); (case hg => rfl); (case hr => first | (go_simp; done) | (go_simp; rfl)); intro gb16005 hg w19 hbox hb; have n0_ := Aside0.mk (below_step (by repeat (first | (with_reducible first | exact HB.out | apply below_alloc | apply pw_below_drewN | apply below_drew1) | exact HB.out)) hb); have n1_ := Aside0.mk (hbox); have n2_ := Aside0.mk ((by rw [hg]; exact (below_size (by repeat (first | (with_reducible first | exact HB.out | apply below_alloc | apply pw_below_drewN | apply below_drew1) | exact HB.out))) : w.heap.size ≤ gb16005)); have n3_ := Aside0.mk ((by rw [hg]; exact (below_size (by repeat (first | (with_reducible first | exact HB.out | apply below_alloc | apply pw_below_drewN | apply below_drew1) | exact HB.out))) : w.heap.size ≤ gb16005)); clear HB; have HB := n0_; have BK16005 := n1_; have GW16005 := n2_; have GE16005 := n3_; clear n0_ n1_ n2_ n3_; clear hb hbox hg; have hcz20_0 : w19.cell? ⟨gb16005, 0, none⟩ = some (.int .i64 0) := (blk_cell BK16005.out 0).trans rfl; have hcz20_1 : w19.cell? ⟨gb16005, 1, none⟩ = some (.int .i64 0) := (blk_cell BK16005.out 1).trans rfl; have hcz20_2 : w19.cell? ⟨gb16005, 2, none⟩ = some (.int .i64 0) := (blk_cell BK16005.out 2).trans rfl; have hcz20_3 : w19.cell? ⟨gb16005, 3, none⟩ = some (.int .i64 0) := (blk_cell BK16005.out 3).trans rfl; have hcz20_4 : w19.cell? ⟨gb16005, 4, none⟩ = some (.int .i64 0) := (blk_cell BK16005.out 4).trans rfl; have hfz20_0 := blk_frozen BK16005.out 0; have hfz20_1 := blk_frozen BK16005.out 1; have hfz20_2 := blk_frozen BK16005.out 2; have hfz20_3 := blk_frozen BK16005.out 3; have hfz20_4 := blk_frozen BK16005.out 4)))
                        go_ret
                        exact ⟨by first | rfl | (simp [errW_none, errW_some] <;> rfl) | (simp [*, errW_none, errW_some] <;> rfl), by repeat (first | (with_reducible first | exact HB.out | apply below_alloc | apply pw_below_drewN | apply below_drew1 | refine below_set ?_ GE16005.out) | exact HB.out)⟩
                      · rw [if_neg c18] at H
                        have c18b0 : decide (((rd_T44 l0 x27_2).f4) < x7_2) = false := decide_eq_false c18
                        clear c18
                        have H' := Aside0.mk H
                        clear H
                        have p16004 : 0 ≤ (x27_2 : Int) := of_decide_eq_true (by first | (with_reducible assumption) | assumption)
                        have q16004 : x27_2 < (l0.length : Int) := of_decide_eq_true (by first | (with_reducible assumption) | assumption)
                        obtain ⟨ad16004, e16004, hx16004_0, hx16004_1, hx16004_2, hx16004_3, hx16004_4⟩ := at_T44 HR0.out x27_2 p16004 q16004
                        cases e16004
                        replace hx16004_0 := (HB.out.cell (World.block_lt_of_cell? w _ hx16004_0)).trans hx16004_0
                        replace hx16004_1 := (HB.out.cell (World.block_lt_of_cell? w _ hx16004_1)).trans hx16004_1
                        replace hx16004_2 := (HB.out.cell (World.block_lt_of_cell? w _ hx16004_2)).trans hx16004_2
                        replace hx16004_3 := (HB.out.cell (World.block_lt_of_cell? w _ hx16004_3)).trans hx16004_3
                        replace hx16004_4 := (HB.out.cell (World.block_lt_of_cell? w _ hx16004_4)).trans hx16004_4
                        replace p16004 := eq_true p16004
                        replace q16004 := eq_true q16004
                        go_wp2_with (first | ((with_reducible refine gate_dst (N := 9) rfl ?_); refine box_event ?hg (N := 9) ?hd (cs := #[.int .i64 0, .int .i64 0, .int .i64 0, .int .i64 0, .int .i64 0]) (t := 44) ?hr ?_; (case hd => rfl); (case hg => rfl); (case hr => first | (go_simp; done) | (go_simp; rfl)); intro gb16005 hg w21 hbox hb; have n0_ := Aside0.mk (below_step (by repeat (first | (with_reducible first | exact HB.out | apply below_alloc | apply pw_below_drewN | apply below_drew1) | exact HB.out)) hb); have n1_ := Aside0.mk (hbox); have n2_ := Aside0.mk ((by rw [hg]; exact (below_size (by repeat (first | (with_reducible first | exact HB.out | apply below_alloc | apply pw_below_drewN | apply below_drew1) | exact HB.out))) : w.heap.size ≤ gb16005)); have n3_ := Aside0.mk ((by rw [hg]; exact (below_size (by repeat (first | (with_reducible first | exact HB.out | apply below_alloc | apply pw_below_drewN | apply below_drew1) | exact HB.out))) : w.heap.size ≤ gb16005)); clear HB; have HB := n0_; have BK16005 := n1_; have GW16005 := n2_; have GE16005 := n3_; clear n0_ n1_ n2_ n3_; clear hb hbox hg; have hcz22_0 : w21.cell? ⟨gb16005, 0, none⟩ = some (.int .i64 0) := (blk_cell BK16005.out 0).trans rfl; have hcz22_1 : w21.cell? ⟨gb16005, 1, none⟩ = some (.int .i64 0) := (blk_cell BK16005.out 1).trans rfl; have hcz22_2 : w21.cell? ⟨gb16005, 2, none⟩ = some (.int .i64 0) := (blk_cell BK16005.out 2).trans rfl; have hcz22_3 : w21.cell? ⟨gb16005, 3, none⟩ = some (.int .i64 0) := (blk_cell BK16005.out 3).trans rfl; have hcz22_4 : w21.cell? ⟨gb16005, 4, none⟩ = some (.int .i64 0) := (blk_cell BK16005.out 4).trans rfl; have hfz22_0 := blk_frozen BK16005.out 0; have hfz22_1 := blk_frozen BK16005.out 1; have hfz22_2 := blk_frozen BK16005.out 2; have hfz22_3 := blk_frozen BK16005.out 3; have hfz22_4 := blk_frozen BK16005.out 4))
                        repeat (go_quiet (first | ((with_reducible refine gate_dst (N := 9) rfl ?_); refine box_event ?hg (N := 9) ?hd (cs := #[.int .i64 0, .int .i64 0, .int .i64 0, .int .i64 0, .int .i64 0]) (t := 44) ?hr ?_; (case hd => rfl); (case hg => rfl); (case hr => first | (go_simp; done) | (go_simp; rfl)); intro gb16005 hg w21 hbox hb; have n0_ := Aside0.mk (below_step (by repeat (first | (with_reducible first | exact HB.out | apply below_alloc | apply pw_below_drewN | apply below_drew1) | exact HB.out)) hb); have n1_ := Aside0.mk (hbox); have n2_ := Aside0.mk ((by rw [hg]; exact (below_size (by repeat (first | (with_reducible first | exact HB.out | apply below_alloc | apply pw_below_drewN | apply below_drew1) | exact HB.out))) : w.heap.size ≤ gb16005)); have n3_ := Aside0.mk ((by rw [hg]; exact (below_size (by repeat (first | (with_reducible first | exact HB.out | apply below_alloc | apply pw_below_drewN | apply below_drew1) | exact HB.out))) : w.heap.size ≤ gb16005)); clear HB; have HB := n0_; have BK16005 := n1_; have GW16005 := n2_; have GE16005 := n3_; clear n0_ n1_ n2_ n3_; clear hb hbox hg; have hcz22_0 : w21.cell? ⟨gb16005, 0, none⟩ = some (.int .i64 0) := (blk_cell BK16005.out 0).trans rfl; have hcz22_1 : w21.cell? ⟨gb16005, 1, none⟩ = some (.int .i64 0) := (blk_cell BK16005.out 1).trans rfl; have hcz22_2 : w21.cell? ⟨gb16005, 2, none⟩ = some (.int .i64 0) := (blk_cell BK16005.out 2).trans rfl; have hcz22_3 : w21.cell? ⟨gb16005, 3, none⟩ = some (.int .i64 0) := (blk_cell BK16005.out 3).trans rfl; have hcz22_4 : w21.cell? ⟨gb16005, 4, none⟩ = some (.int .i64 0) := (blk_cell BK16005.out 4).trans rfl; have hfz22_0 := blk_frozen BK16005.out 0; have hfz22_1 := blk_frozen BK16005.out 1; have hfz22_2 := blk_frozen BK16005.out 2; have hfz22_3 := blk_frozen BK16005.out 3; have hfz22_4 := blk_frozen BK16005.out 4)); try go_wp2_with (first | ((with_reducible refine gate_dst (N := 9) rfl ?_); refine box_event ?hg (N := 9) ?hd (cs := #[.int .i64 0, .int .i64 0, .int .i64 0, .int .i64 0, .int .i64 0]) (t := 44) ?hr ?_; (case hd => rfl); (case hg => rfl); (case hr => first | (go_simp; done) | (go_simp; rfl)); intro gb16005 hg w21 hbox hb; have n0_ := Aside0.mk (below_step (by repeat (first | (with_reducible first | exact HB.out | apply below_alloc | apply pw_below_drewN | apply below_drew1) | exact HB.out)) hb); have n1_ := Aside0.mk (hbox); have n2_ := Aside0.mk ((by rw [hg]; exact (below_size (by repeat (first | (with_reducible first | exact HB.out | apply below_alloc | apply pw_below_drewN | apply below_drew1) | exact HB.out))) : w.heap.size ≤ gb16005)); have n3_ := Aside0.mk ((by rw [hg]; exact (below_size (by repeat (first | (with_reducible first | exact HB.out | apply below_alloc | apply pw_below_drewN | apply below_drew1) | exact HB.out))) : w.heap.size ≤ gb16005)); clear HB; have HB := n0_; have BK16005 := n1_; have GW16005 := n2_; have GE16005 := n3_; clear n0_ n1_ n2_ n3_; clear hb hbox hg; have hcz22_0 : w21.cell? ⟨gb16005, 0, none⟩ = some (.int .i64 0) := (blk_cell BK16005.out 0).trans rfl; have hcz22_1 : w21.cell? ⟨gb16005, 1, none⟩ = some (.int .i64 0) := (blk_cell BK16005.out 1).trans rfl; have hcz22_2 : w21.cell? ⟨gb16005, 2, none⟩ = some (.int .i64 0) := (blk_cell BK16005.out 2).trans rfl; have hcz22_3 : w21.cell? ⟨gb16005, 3, none⟩ = some (.int .i64 0) := (blk_cell BK16005.out 3).trans rfl; have hcz22_4 : w21.cell? ⟨gb16005, 4, none⟩ = some (.int .i64 0) := (blk_cell BK16005.out 4).trans rfl; have hfz22_0 := blk_frozen BK16005.out 0; have hfz22_1 := blk_frozen BK16005.out 1; have hfz22_2 := blk_frozen BK16005.out 2; have hfz22_3 := blk_frozen BK16005.out 3; have hfz22_4 := blk_frozen BK16005.out 4)))
                        go_roundg k2
                        case measure => have := HK1.out; have := HK2.out; omega
                        case rel => exact ⟨((rd_T44 l0 x27_2).f1), ((rd_T44 l0 x27_2).f4), (wrap64 (x27_2 + 1)), (by first | rfl | (simp; done) | (simp [*]; done)), (by first | rfl | (simp; done) | (simp [*]; done)), (by first | rfl | (simp; done) | (simp [*]; done)), H', ⟨by have := HK1.out; have := HK2.out; omega⟩, ⟨by repeat (first | (with_reducible first | exact HB.out | apply below_alloc | apply pw_below_drewN | apply below_drew1 | refine below_set ?_ GE16005.out) | exact HB.out)⟩⟩
                    · rw [if_neg c17] at H
                      have c17b0 : (((rd_T44 l0 x27_2).f0) == x6_2) = false := beq_eq_false_iff_ne.mpr c17
                      have c17b1 : (((rd_T44 l0 x27_2).f0) != x6_2) = true := bne_iff_ne.mpr c17
                      obtain rfl := Option.some.inj H
                      have p16004 : 0 ≤ (x27_2 : Int) := of_decide_eq_true (by first | (with_reducible assumption) | assumption)
                      have q16004 : x27_2 < (l0.length : Int) := of_decide_eq_true (by first | (with_reducible assumption) | assumption)
                      obtain ⟨ad16004, e16004, hx16004_0, hx16004_1, hx16004_2, hx16004_3, hx16004_4⟩ := at_T44 HR0.out x27_2 p16004 q16004
                      cases e16004
                      replace hx16004_0 := (HB.out.cell (World.block_lt_of_cell? w _ hx16004_0)).trans hx16004_0
                      replace hx16004_1 := (HB.out.cell (World.block_lt_of_cell? w _ hx16004_1)).trans hx16004_1
                      replace hx16004_2 := (HB.out.cell (World.block_lt_of_cell? w _ hx16004_2)).trans hx16004_2
                      replace hx16004_3 := (HB.out.cell (World.block_lt_of_cell? w _ hx16004_3)).trans hx16004_3
                      replace hx16004_4 := (HB.out.cell (World.block_lt_of_cell? w _ hx16004_4)).trans hx16004_4
                      replace p16004 := eq_true p16004
                      replace q16004 := eq_true q16004
                      go_wp2_with (first | ((with_reducible refine gate_dst (N := 9) rfl ?_); refine box_event ?hg (N := 9) ?hd (cs := #[.int .i64 0, .int .i64 0, .int .i64 0, .int .i64 0, .int .i64 0]) (t := 44) ?hr ?_; (case hd => rfl); (case hg => rfl); (case hr => first | (go_simp; done) | (go_simp; rfl)); intro gb16005 hg w23 hbox hb; have n0_ := Aside0.mk (below_step (by repeat (first | (with_reducible first | exact HB.out | apply below_alloc | apply pw_below_drewN | apply below_drew1) | exact HB.out)) hb); have n1_ := Aside0.mk (hbox); have n2_ := Aside0.mk ((by rw [hg]; exact (below_size (by repeat (first | (with_reducible first | exact HB.out | apply below_alloc | apply pw_below_drewN | apply below_drew1) | exact HB.out))) : w.heap.size ≤ gb16005)); have n3_ := Aside0.mk ((by rw [hg]; exact (below_size (by repeat (first | (with_reducible first | exact HB.out | apply below_alloc | apply pw_below_drewN | apply below_drew1) | exact HB.out))) : w.heap.size ≤ gb16005)); clear HB; have HB := n0_; have BK16005 := n1_; have GW16005 := n2_; have GE16005 := n3_; clear n0_ n1_ n2_ n3_; clear hb hbox hg; have hcz24_0 : w23.cell? ⟨gb16005, 0, none⟩ = some (.int .i64 0) := (blk_cell BK16005.out 0).trans rfl; have hcz24_1 : w23.cell? ⟨gb16005, 1, none⟩ = some (.int .i64 0) := (blk_cell BK16005.out 1).trans rfl; have hcz24_2 : w23.cell? ⟨gb16005, 2, none⟩ = some (.int .i64 0) := (blk_cell BK16005.out 2).trans rfl; have hcz24_3 : w23.cell? ⟨gb16005, 3, none⟩ = some (.int .i64 0) := (blk_cell BK16005.out 3).trans rfl; have hcz24_4 : w23.cell? ⟨gb16005, 4, none⟩ = some (.int .i64 0) := (blk_cell BK16005.out 4).trans rfl; have hfz24_0 := blk_frozen BK16005.out 0; have hfz24_1 := blk_frozen BK16005.out 1; have hfz24_2 := blk_frozen BK16005.out 2; have hfz24_3 := blk_frozen BK16005.out 3; have hfz24_4 := blk_frozen BK16005.out 4))
                      repeat (go_quiet (first | ((with_reducible refine gate_dst (N := 9) rfl ?_); refine box_event ?hg (N := 9) ?hd (cs := #[.int .i64 0, .int .i64 0, .int .i64 0, .int .i64 0, .int .i64 0]) (t := 44) ?hr ?_; (case hd => rfl); (case hg => rfl); (case hr => first | (go_simp; done) | (go_simp; rfl)); intro gb16005 hg w23 hbox hb; have n0_ := Aside0.mk (below_step (by repeat (first | (with_reducible first | exact HB.out | apply below_alloc | apply pw_below_drewN | apply below_drew1) | exact HB.out)) hb); have n1_ := Aside0.mk (hbox); have n2_ := Aside0.mk ((by rw [hg]; exact (below_size (by repeat (first | (with_reducible first | exact HB.out | apply below_alloc | apply pw_below_drewN | apply below_drew1) | exact HB.out))) : w.heap.size ≤ gb16005)); have n3_ := Aside0.mk ((by rw [hg]; exact (below_size (by repeat (first | (with_reducible first | exact HB.out | apply below_alloc | apply pw_below_drewN | apply below_drew1) | exact HB.out))) : w.heap.size ≤ gb16005)); clear HB; have HB := n0_; have BK16005 := n1_; have GW16005 := n2_; have GE16005 := n3_; clear n0_ n1_ n2_ n3_; clear hb hbox hg; have hcz24_0 : w23.cell? ⟨gb16005, 0, none⟩ = some (.int .i64 0) := (blk_cell BK16005.out 0).trans rfl; have hcz24_1 : w23.cell? ⟨gb16005, 1, none⟩ = some (.int .i64 0) := (blk_cell BK16005.out 1).trans rfl; have hcz24_2 : w23.cell? ⟨gb16005, 2, none⟩ = some (.int .i64 0) := (blk_cell BK16005.out 2).trans rfl; have hcz24_3 : w23.cell? ⟨gb16005, 3, none⟩ = some (.int .i64 0) := (blk_cell BK16005.out 3).trans rfl; have hcz24_4 : w23.cell? ⟨gb16005, 4, none⟩ = some (.int .i64 0) := (blk_cell BK16005.out 4).trans rfl; have hfz24_0 := blk_frozen BK16005.out 0; have hfz24_1 := blk_frozen BK16005.out 1; have hfz24_2 := blk_frozen BK16005.out 2; have hfz24_3 := blk_frozen BK16005.out 3; have hfz24_4 := blk_frozen BK16005.out 4)); try go_wp2_with (first | ((with_reducible refine gate_dst (N := 9) rfl ?_); refine box_event ?hg (N := 9) ?hd (cs := #[.int .i64 0, .int .i64 0, .int .i64 0, .int .i64 0, .int .i64 0]) (t := 44) ?hr ?_; (case hd => rfl); (case hg => rfl); (case hr => first | (go_simp; done) | (go_simp; rfl)); intro gb16005 hg w23 hbox hb; have n0_ := Aside0.mk (below_step (by repeat (first | (with_reducible first | exact HB.out | apply below_alloc | apply pw_below_drewN | apply below_drew1) | exact HB.out)) hb); have n1_ := Aside0.mk (hbox); have n2_ := Aside0.mk ((by rw [hg]; exact (below_size (by repeat (first | (with_reducible first | exact HB.out | apply below_alloc | apply pw_below_drewN | apply below_drew1) | exact HB.out))) : w.heap.size ≤ gb16005)); have n3_ := Aside0.mk ((by rw [hg]; exact (below_size (by repeat (first | (with_reducible first | exact HB.out | apply below_alloc | apply pw_below_drewN | apply below_drew1) | exact HB.out))) : w.heap.size ≤ gb16005)); clear HB; have HB := n0_; have BK16005 := n1_; have GW16005 := n2_; have GE16005 := n3_; clear n0_ n1_ n2_ n3_; clear hb hbox hg; have hcz24_0 : w23.cell? ⟨gb16005, 0, none⟩ = some (.int .i64 0) := (blk_cell BK16005.out 0).trans rfl; have hcz24_1 : w23.cell? ⟨gb16005, 1, none⟩ = some (.int .i64 0) := (blk_cell BK16005.out 1).trans rfl; have hcz24_2 : w23.cell? ⟨gb16005, 2, none⟩ = some (.int .i64 0) := (blk_cell BK16005.out 2).trans rfl; have hcz24_3 : w23.cell? ⟨gb16005, 3, none⟩ = some (.int .i64 0) := (blk_cell BK16005.out 3).trans rfl; have hcz24_4 : w23.cell? ⟨gb16005, 4, none⟩ = some (.int .i64 0) := (blk_cell BK16005.out 4).trans rfl; have hfz24_0 := blk_frozen BK16005.out 0; have hfz24_1 := blk_frozen BK16005.out 1; have hfz24_2 := blk_frozen BK16005.out 2; have hfz24_3 := blk_frozen BK16005.out 3; have hfz24_4 := blk_frozen BK16005.out 4)))
                      go_ret
                      exact ⟨by first | rfl | (simp [errW_none, errW_some] <;> rfl) | (simp [*, errW_none, errW_some] <;> rfl), by repeat (first | (with_reducible first | exact HB.out | apply below_alloc | apply pw_below_drewN | apply below_drew1 | refine below_set ?_ GE16005.out) | exact HB.out)⟩
                  · rw [if_neg c16] at H
                    exact absurd H (by simp)
                · rw [if_neg c15] at H
                  exact absurd H (by simp)
              · rw [if_neg c14] at H
                have c14b0 : decide (x27_2 < (l0.length : Int)) = false := decide_eq_false c14
                clear c14
                obtain rfl := Option.some.inj H
                go_wp2
                repeat (go_quiet (fail); try go_wp2)
                go_ret
                exact ⟨by first | rfl | (simp [errW_none, errW_some] <;> rfl) | (simp [*, errW_none, errW_some] <;> rfl), by repeat (first | (with_reducible first | exact HB.out | apply below_alloc | apply pw_below_drewN | apply below_drew1) | exact HB.out)⟩

end Go.Proofs.Ytfdfpdiemeomiaa.G
