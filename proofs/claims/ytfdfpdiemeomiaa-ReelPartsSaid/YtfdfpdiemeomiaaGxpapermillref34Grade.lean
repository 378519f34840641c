-- Printed by drive.py, this session's program over the kit's print.py. Not trusted: Lean checks it.
import Derived.Test.YtfdfpdiemeomiaaGx0
import Derived.Test.YtfdfpdiemeomiaaGhref34Parts
namespace Go.Proofs.Ytfdfpdiemeomiaa.G
open Go.RowKit Go.Proofs.YtfdfpdiemeomiaaW.PrintWords Go.Proofs.YtfdfpdiemeomiaaW.PrintLast Go.Proofs.YtfdfpdiemeomiaaW.PrintMore
attribute [local go_sem] max2_int min2_int max_two min_two max_three min_three max_four min_four   -- for this text's walks alone
set_option linter.unusedVariables false
set_option linter.unusedSimpArgs false

/-! ### papermillref34_Grade: function 23 -/
def papermillref34_Grade.l0 : Nat → List (S44) → Int → Bool → Int → Option (Int × Bool × Int)
  | 0, _, _, _, _ => none
  | k + 1, x7, x9, x10, x11 => if x11 < (x7.length : Int) then (if 0 ≤ x11 then (if 0 < (x7.length : Int) then (if ((rd_T44 x7 x11).f3) = ((rd_T44 x7 0).f3) then (if x10 = true then (papermillref34_Grade.l0 k x7 x9 (((rd_T44 x7 x11).f2) == 1) (wrap64 (x11 + 1))) else (papermillref34_Grade.l0 k x7 x9 false (wrap64 (x11 + 1)))) else (if x10 = true then (papermillref34_Grade.l0 k x7 (-1) (((rd_T44 x7 x11).f2) == 1) (wrap64 (x11 + 1))) else (papermillref34_Grade.l0 k x7 (-1) false (wrap64 (x11 + 1))))) else (none)) else (none)) else (some (x9, x10, 0))
def papermillref34_Grade.f (k : Nat) (l0 : List (S44)) (a1_0 : Int) (a1_1 : Int) : Option (Int × Bool × Int) := (papermillref34_Parts.f k l0 a1_0 a1_1).bind fun bt24002 => (if bt24002.2 = 0 then (if (bt24002.1.length : Int) = 0 then (some ((-1), false, 0)) else (if 0 < (bt24002.1.length : Int) then (papermillref34_Grade.l0 k bt24002.1 ((rd_T44 bt24002.1 0).f3) true 0) else (none))) else (some (0, false, bt24002.2)))
theorem papermillref34_Grade.mono_l : ∀ k, (∀ y0 y1 y2 y3, LeO (papermillref34_Grade.l0 k y0 y1 y2 y3) (papermillref34_Grade.l0 (k + 1) y0 y1 y2 y3))
  | 0 => fun _ _ _ _ r h => by simp [papermillref34_Grade.l0] at h
  | k + 1 => by
    have ih0 := papermillref34_Grade.mono_l k
    · intro y0 y1 y2 y3
      unfold papermillref34_Grade.l0
      repeat' first
      | (with_reducible exact ih0 _ _ _ _)
      | (with_reducible exact papermillref34_Parts.mono _ _ _ _)
      | (with_reducible exact LeO.refl _)
      | (with_reducible exact LeO.none _)
      | (with_reducible refine LeO.ite ?_ ?_)
      | (with_reducible refine LeO.bind ?_ (fun _ => ?_))
      | exact ih0 _ _ _ _
      | exact papermillref34_Parts.mono _ _ _ _
      | exact LeO.none _
      | refine LeO.ite ?_ ?_
      | refine LeO.bind ?_ (fun _ => ?_)
theorem papermillref34_Grade.mono : ∀ a0 a1 a2 k, LeO (papermillref34_Grade.f k a0 a1 a2) (papermillref34_Grade.f (k + 1) a0 a1 a2) := by
  intro a0 a1 a2 k
  have ih0 := papermillref34_Grade.mono_l k
  unfold papermillref34_Grade.f
  repeat' first
      | (with_reducible exact ih0 _ _ _ _)
      | (with_reducible exact papermillref34_Parts.mono _ _ _ _)
      | (with_reducible exact LeO.refl _)
      | (with_reducible exact LeO.none _)
      | (with_reducible refine LeO.ite ?_ ?_)
      | (with_reducible refine LeO.bind ?_ (fun _ => ?_))
      | exact ih0 _ _ _ _
      | exact papermillref34_Parts.mono _ _ _ _
      | exact LeO.none _
      | refine LeO.ite ?_ ?_
      | refine LeO.bind ?_ (fun _ => ?_)
set_option maxHeartbeats 8000000 in
set_option maxRecDepth 100000 in
theorem papermillref34_Grade.calls (k : Nat) (A0 : Option Addr) (c0 : Nat) (l0 : List (S44)) (a1_0 : Int) (a1_1 : Int) (r1 : Int) (r2 : Bool) (r3 : Int) (w : World) (hr0 : Kd.C k44 w A0 l0.length l0) (hc0 : l0.length ≤ c0) (h : papermillref34_Grade.f k l0 a1_0 a1_1 = some (r1, r2, r3)) :
    Calls Try.prog 23 #[.slice A0 l0.length c0, .agg #[.int .i64 a1_0, .int .i64 a1_1]] w fun e w' => e = .returned (.tuple #[.int .i64 r1, .bool r2, .int .i64 r3]) ∧ Below w.heap.size w w' := by
  have hu36 := Try.underlying36
  have HR0 := Aside0.mk hr0
  have HC0 := Aside0.mk hc0
  clear hr0 hc0
  have HB := Aside0.mk (Below.refl w.heap.size w)
  have H : ((papermillref34_Parts.f k l0 a1_0 a1_1).bind fun bt24002 => (if bt24002.2 = 0 then (if (bt24002.1.length : Int) = 0 then (some ((-1), false, 0)) else (if 0 < (bt24002.1.length : Int) then (papermillref34_Grade.l0 k bt24002.1 ((rd_T44 bt24002.1 0).f3) true 0) else (none))) else (some (0, false, bt24002.2)))) = some (r1, r2, r3) := h
  clear h
  replace H := Option.bind_eq_some_iff.mp H
  obtain ⟨⟨t24002, t24005⟩, A30, H⟩ := H
  replace H : (if t24005 = 0 then (if (t24002.length : Int) = 0 then (some ((-1), false, 0)) else (if 0 < (t24002.length : Int) then (papermillref34_Grade.l0 k t24002 ((rd_T44 t24002 0).f3) true 0) else (none))) else (some (0, false, t24005))) = some (r1, r2, r3) := H
  have A3 := Aside0.mk A30
  clear A30
  by_cases c4 : t24005 = 0
  · rw [if_pos c4] at H
    have c4b0 : (t24005 == 0) = true := beq_iff_eq.mpr c4
    have c4b1 : (t24005 != 0) = false := bne_eq_false_iff_eq.mpr c4
    clear c4
    by_cases c5 : (t24002.length : Int) = 0
    · rw [if_pos c5] at H
      have c5b0 : ((t24002.length : Int) == 0) = true := beq_iff_eq.mpr c5
      have c5b1 : ((t24002.length : Int) != 0) = false := bne_eq_false_iff_eq.mpr c5
      clear c5
      simp only [Option.some.injEq, Prod.mk.injEq] at H
      obtain ⟨rfl, rfl, rfl⟩ := H
      go_enter Try.func23, Try.ntmps23
      go_wp2_with (first | ((with_reducible refine gate_dst (N := 3) rfl ?_); refine box_event ?hg (N := 3) ?hd (cs := #[.int .i64 a1_0, .int .i64 a1_1]) (t := 36) ?hr ?_; (case hd => rfl); (case hg => rfl); (case hr => first | (go_simp; done) | (go_simp; rfl)); intro gb24001 hg w6 hbox hb; have n0_ := Aside0.mk (below_step (by repeat (first | (with_reducible first | exact HB.out | apply below_alloc | apply pw_below_drewN | apply below_drew1) | exact HB.out)) hb); have n1_ := Aside0.mk (hbox); have n2_ := Aside0.mk ((by rw [hg]; exact (below_size (by repeat (first | (with_reducible first | exact HB.out | apply below_alloc | apply pw_below_drewN | apply below_drew1) | exact HB.out))) : w.heap.size ≤ gb24001)); have n3_ := Aside0.mk ((by rw [hg]; exact (below_size (by repeat (first | (with_reducible first | exact HB.out | apply below_alloc | apply pw_below_drewN | apply below_drew1) | exact HB.out))) : w.heap.size ≤ gb24001)); clear HB; have HB := n0_; have BK24001 := n1_; have GW24001 := n2_; have GE24001 := n3_; clear n0_ n1_ n2_ n3_; clear hb hbox hg; have hcz7_0 : w6.cell? ⟨gb24001, 0, none⟩ = some (.int .i64 a1_0) := (blk_cell BK24001.out 0).trans rfl; have hcz7_1 : w6.cell? ⟨gb24001, 1, none⟩ = some (.int .i64 a1_1) := (blk_cell BK24001.out 1).trans rfl; have hfz7_0 := blk_frozen BK24001.out 0; have hfz7_1 := blk_frozen BK24001.out 1) | (go_at_call 21; (with_reducible refine (papermillref34_Parts.calls k _ _ l0 a1_0 a1_1 t24002 t24005 _ ?side1 ?side2 A3.out).mono ?_); (case side1 => repeat (first | exact (Kd.C_below HR0.out HB.out) | (with_reducible refine Kd.C_alloc ?_ _) | (with_reducible refine Kd.C_drewN ?_ _) | (with_reducible refine Kd.C_drew ?_))); (case side2 => exact HC0.out); rintro e w8 ⟨v24003, rfl, ho0, hb⟩; have n0_ := Aside0.mk (Kd.R_lower ho0 (below_size (by repeat (first | (with_reducible first | exact HB.out | apply below_alloc | apply pw_below_drewN | apply below_drew1 | refine below_set ?_ GE24001.out) | exact HB.out)))); have n1_ := Aside0.mk (blk_below (g := gb24001) (o := .cells #[.int .i64 a1_0, .int .i64 a1_1] 36 (0, 0)) (by (with_reducible repeat (first | refine blk_drewN ?_ _ | refine blk_drew ?_ | refine blk_alloc ?_ _)); exact BK24001.out) hb); have n2_ := Aside0.mk (below_step (by repeat (first | (with_reducible first | exact HB.out | apply below_alloc | apply pw_below_drewN | apply below_drew1 | refine below_set ?_ GE24001.out) | exact HB.out)) hb); clear BK24001; clear HB; have HO24004 := n0_; have BK24001 := n1_; have HB := n2_; clear n0_ n1_ n2_; (try clear hb); (try clear hb2); (try clear hk); (try clear hi); (try clear ho0); obtain ⟨Ao9, co9, eo9⟩ := Kd.R_slice HO24004.out; subst eo9))
      repeat (go_quiet (first | ((with_reducible refine gate_dst (N := 3) rfl ?_); refine box_event ?hg (N := 3) ?hd (cs := #[.int .i64 a1_0, .int .i64 a1_1]) (t := 36) ?hr ?_; (case hd => rfl); (case hg => rfl); (case hr => first | (go_simp; done) | (go_simp; rfl)); intro gb24001 hg w6 hbox hb; have n0_ := Aside0.mk (below_step (by repeat (first | (with_reducible first | exact HB.out | apply below_alloc | apply pw_below_drewN | apply below_drew1) | exact HB.out)) hb); have n1_ := Aside0.mk (hbox); have n2_ := Aside0.mk ((by rw [hg]; exact (below_size (by repeat (first | (with_reducible first | exact HB.out | apply below_alloc | apply pw_below_drewN | apply below_drew1) | exact HB.out))) : w.heap.size ≤ gb24001)); have n3_ := Aside0.mk ((by rw [hg]; exact (below_size (by repeat (first | (with_reducible first | exact HB.out | apply below_alloc | apply pw_below_drewN | apply below_drew1) | exact HB.out))) : w.heap.size ≤ gb24001)); clear HB; have HB := n0_; have BK24001 := n1_; have GW24001 := n2_; have GE24001 := n3_; clear n0_ n1_ n2_ n3_; clear hb hbox hg; have hcz7_0 : w6.cell? ⟨gb24001, 0, none⟩ = some (.int .i64 a1_0) := (blk_cell BK24001.out 0).trans rfl; have hcz7_1 : w6.cell? ⟨gb24001, 1, none⟩ = some (.int .i64 a1_1) := (blk_cell BK24001.out 1).trans rfl; have hfz7_0 := blk_frozen BK24001.out 0; have hfz7_1 := blk_frozen BK24001.out 1) | (go_at_call 21; (with_reducible refine (papermillref34_Parts.calls k _ _ l0 a1_0 a1_1 t24002 t24005 _ ?side1 ?side2 A3.out).mono ?_); (case side1 => repeat (first | exact (Kd.C_below HR0.out HB.out) | (with_reducible refine Kd.C_alloc ?_ _) | (with_reducible refine Kd.C_drewN ?_ _) | (with_reducible refine Kd.C_drew ?_))); (case side2 => exact HC0.out); rintro e w8 ⟨v24003, rfl, ho0, hb⟩; have n0_ := Aside0.mk (Kd.R_lower ho0 (below_size (by repeat (first | (with_reducible first | exact HB.out | apply below_alloc | apply pw_below_drewN | apply below_drew1 | refine below_set ?_ GE24001.out) | exact HB.out)))); have n1_ := Aside0.mk (blk_below (g := gb24001) (o := .cells #[.int .i64 a1_0, .int .i64 a1_1] 36 (0, 0)) (by (with_reducible repeat (first | refine blk_drewN ?_ _ | refine blk_drew ?_ | refine blk_alloc ?_ _)); exact BK24001.out) hb); have n2_ := Aside0.mk (below_step (by repeat (first | (with_reducible first | exact HB.out | apply below_alloc | apply pw_below_drewN | apply below_drew1 | refine below_set ?_ GE24001.out) | exact HB.out)) hb); clear BK24001; clear HB; have HO24004 := n0_; have BK24001 := n1_; have HB := n2_; clear n0_ n1_ n2_; (try clear hb); (try clear hb2); (try clear hk); (try clear hi); (try clear ho0); obtain ⟨Ao9, co9, eo9⟩ := Kd.R_slice HO24004.out; subst eo9)); try go_wp2_with (first | ((with_reducible refine gate_dst (N := 3) rfl ?_); refine box_event ?hg (N := 3) ?hd (cs := #[.int .i64 a1_0, .int .i64 a1_1]) (t := 36) ?hr ?_; (case hd => rfl); (case hg => rfl); (case hr => first | (go_simp; done) | (go_simp; rfl)); intro gb24001 hg w6 hbox hb; have n0_ := Aside0.mk (below_step (by repeat (first | (with_reducible first | exact HB.out | apply below_alloc | apply pw_below_drewN | apply below_drew1) | exact HB.out)) hb); have n1_ := Aside0.mk (hbox); have n2_ := Aside0.mk ((by rw [hg]; exact (below_size (by repeat (first | (with_reducible first | exact HB.out | apply below_alloc | apply pw_below_drewN | apply below_drew1) | exact HB.out))) : w.heap.size ≤ gb24001)); have n3_ := Aside0.mk ((by rw [hg]; exact (below_size (by repeat (first | (with_reducible first | exact HB.out | apply below_alloc | apply pw_below_drewN | apply below_drew1) | exact HB.out))) : w.heap.size ≤ gb24001)); clear HB; have HB := n0_; have BK24001 := n1_; have GW24001 := n2_; have GE24001 := n3_; clear n0_ n1_ n2_ n3_; clear hb hbox hg; have hcz7_0 : w6.cell? ⟨gb24001, 0, none⟩ = some (.int .i64 a1_0) := (blk_cell BK24001.out 0).trans rfl; have hcz7_1 : w6.cell? ⟨gb24001, 1, none⟩ = some (.int .i64 a1_1) := (blk_cell BK24001.out 1).trans rfl; have hfz7_0 := blk_frozen BK24001.out 0; have hfz7_1 := blk_frozen BK24001.out 1) | (go_at_call 21; (with_reducible refine (papermillref34_Parts.calls k _ _ l0 a1_0 a1_1 t24002 t24005 _ ?side1 ?side2 A3.out).mono ?_); (case side1 => repeat (first | exact (Kd.C_below HR0.out HB.out) | (with_reducible refine Kd.C_alloc ?_ _) | (with_reducible refine Kd.C_drewN ?_ _) | (with_reducible refine Kd.C_drew ?_))); (case side2 => exact HC0.out); rintro e w8 ⟨v24003, rfl, ho0, hb⟩; have n0_ := Aside0.mk (Kd.R_lower ho0 (below_size (by repeat (first | (with_reducible first | exact HB.out | apply below_alloc | apply pw_below_drewN | apply below_drew1 | refine below_set ?_ GE24001.out) | exact HB.out)))); have n1_ := Aside0.mk (blk_below (g := gb24001) (o := .cells #[.int .i64 a1_0, .int .i64 a1_1] 36 (0, 0)) (by (with_reducible repeat (first | refine blk_drewN ?_ _ | refine blk_drew ?_ | refine blk_alloc ?_ _)); exact BK24001.out) hb); have n2_ := Aside0.mk (below_step (by repeat (first | (with_reducible first | exact HB.out | apply below_alloc | apply pw_below_drewN | apply below_drew1 | refine below_set ?_ GE24001.out) | exact HB.out)) hb); clear BK24001; clear HB; have HO24004 := n0_; have BK24001 := n1_; have HB := n2_; clear n0_ n1_ n2_; (try clear hb); (try clear hb2); (try clear hk); (try clear hi); (try clear ho0); obtain ⟨Ao9, co9, eo9⟩ := Kd.R_slice HO24004.out; subst eo9)))
      go_ret3
      exact ⟨by first | rfl | (simp [errW_none, errW_some] <;> rfl) | (simp [*, errW_none, errW_some] <;> rfl), by repeat (first | (with_reducible first | exact HB.out | apply below_alloc | apply pw_below_drewN | apply below_drew1 | refine below_set ?_ GE24001.out) | exact HB.out)⟩
    · rw [if_neg c5] at H
      have c5b0 : ((t24002.length : Int) == 0) = false := beq_eq_false_iff_ne.mpr c5
      have c5b1 : ((t24002.length : Int) != 0) = true := bne_iff_ne.mpr c5
      have c5b2 : ¬ (t24002 = []) := fun h_ => c5 (by rw [h_]; rfl)
      by_cases c10 : 0 < (t24002.length : Int)
      · rw [if_pos c10] at H
        have c10b0 : decide (0 < (t24002.length : Int)) = true := decide_eq_true c10
        have c10b1 : decide (0 < t24002.length) = true := decide_eq_true (by omega)
        clear c10
        have H' := Aside0.mk H
        clear H
        go_enter Try.func23, Try.ntmps23
        go_wp2_with (first | ((with_reducible refine gate_dst (N := 3) rfl ?_); refine box_event ?hg (N := 3) ?hd (cs := #[.int .i64 a1_0, .int .i64 a1_1]) (t := 36) ?hr ?_; (case hd => rfl); (case hg => rfl); (case hr => first | (go_simp; done) | (go_simp; rfl)); intro gb24001 hg w11 hbox hb; have n0_ := Aside0.mk (below_step (by repeat (first | (with_reducible first | exact HB.out | apply below_alloc | apply pw_below_drewN | apply below_drew1) | exact HB.out)) hb); have n1_ := Aside0.mk (hbox); have n2_ := Aside0.mk ((by rw [hg]; exact (below_size (by repeat (first | (with_reducible first | exact HB.out | apply below_alloc | apply pw_below_drewN | apply below_drew1) | exact HB.out))) : w.heap.size ≤ gb24001)); have n3_ := Aside0.mk ((by rw [hg]; exact (below_size (by repeat (first | (with_reducible first | exact HB.out | apply below_alloc | apply pw_below_drewN | apply below_drew1) | exact HB.out))) : w.heap.size ≤ gb24001)); clear HB; have HB := n0_; have BK24001 := n1_; have GW24001 := n2_; have GE24001 := n3_; clear n0_ n1_ n2_ n3_; clear hb hbox hg; have hcz12_0 : w11.cell? ⟨gb24001, 0, none⟩ = some (.int .i64 a1_0) := (blk_cell BK24001.out 0).trans rfl; have hcz12_1 : w11.cell? ⟨gb24001, 1, none⟩ = some (.int .i64 a1_1) := (blk_cell BK24001.out 1).trans rfl; have hfz12_0 := blk_frozen BK24001.out 0; have hfz12_1 := blk_frozen BK24001.out 1) | (go_at_call 21; (with_reducible refine (papermillref34_Parts.calls k _ _ l0 a1_0 a1_1 t24002 t24005 _ ?side1 ?side2 A3.out).mono ?_); (case side1 => repeat (first | exact (Kd.C_below HR0.out HB.out) | (with_reducible refine Kd.C_alloc ?_ _) | (with_reducible refine Kd.C_drewN ?_ _) | (with_reducible refine Kd.C_drew ?_))); (case side2 => exact HC0.out); rintro e w13 ⟨v24003, rfl, ho0, hb⟩; have n0_ := Aside0.mk (Kd.R_lower ho0 (below_size (by repeat (first | (with_reducible first | exact HB.out | apply below_alloc | apply pw_below_drewN | apply below_drew1 | refine below_set ?_ GE24001.out) | exact HB.out)))); have n1_ := Aside0.mk (blk_below (g := gb24001) (o := .cells #[.int .i64 a1_0, .int .i64 a1_1] 36 (0, 0)) (by (with_reducible repeat (first | refine blk_drewN ?_ _ | refine blk_drew ?_ | refine blk_alloc ?_ _)); exact BK24001.out) hb); have n2_ := Aside0.mk (below_step (by repeat (first | (with_reducible first | exact HB.out | apply below_alloc | apply pw_below_drewN | apply below_drew1 | refine below_set ?_ GE24001.out) | exact HB.out)) hb); clear BK24001; clear HB; have HO24004 := n0_; have BK24001 := n1_; have HB := n2_; clear n0_ n1_ n2_; (try clear hb); (try clear hb2); (try clear hk); (try clear hi); (try clear ho0); obtain ⟨Ao14, co14, eo14⟩ := Kd.R_slice HO24004.out; subst eo14; have p24006 : 0 ≤ (0 : Int) := (by omega); have q24006 : 0 < (t24002.length : Int) := of_decide_eq_true (by first | (with_reducible assumption) | assumption); obtain ⟨ad24006, e24006, hx24006_0, hx24006_1, hx24006_2, hx24006_3, hx24006_4⟩ := at_T44 (Kd.R_reads' HO24004.out).2.2 0 p24006 q24006; cases e24006; have qi24006 : (0 < t24002.length) = True := eq_true (by omega); (try rw [show ((0 : Int)).toNat = 0 from rfl] at hx24006_0); (try rw [show 0 * 5 = 0 from rfl] at hx24006_0); (try rw [Addr.add_zero'] at hx24006_0); (try rw [show ((0 : Int)).toNat = 0 from rfl] at hx24006_1); (try rw [show 0 * 5 = 0 from rfl] at hx24006_1); (try rw [Addr.add_zero'] at hx24006_1); (try rw [show ((0 : Int)).toNat = 0 from rfl] at hx24006_2); (try rw [show 0 * 5 = 0 from rfl] at hx24006_2); (try rw [Addr.add_zero'] at hx24006_2); (try rw [show ((0 : Int)).toNat = 0 from rfl] at hx24006_3); (try rw [show 0 * 5 = 0 from rfl] at hx24006_3); (try rw [Addr.add_zero'] at hx24006_3); (try rw [show ((0 : Int)).toNat = 0 from rfl] at hx24006_4); (try rw [show 0 * 5 = 0 from rfl] at hx24006_4); (try rw [Addr.add_zero'] at hx24006_4); replace p24006 := eq_true p24006; replace q24006 := eq_true q24006))
        repeat (go_quiet (first | ((with_reducible refine gate_dst (N := 3) rfl ?_); refine box_event ?hg (N := 3) ?hd (cs := #[.int .i64 a1_0, .int .i64 a1_1]) (t := 36) ?hr ?_; (case hd => rfl); (case hg => rfl); (case hr => first | (go_simp; done) | (go_simp; rfl)); intro gb24001 hg w11 hbox hb; have n0_ := Aside0.mk (below_step (by repeat (first | (with_reducible first | exact HB.out | apply below_alloc | apply pw_below_drewN | apply below_drew1) | exact HB.out)) hb); have n1_ := Aside0.mk (hbox); have n2_ := Aside0.mk ((by rw [hg]; exact (below_size (by repeat (first | (with_reducible first | exact HB.out | apply below_alloc | apply pw_below_drewN | apply below_drew1) | exact HB.out))) : w.heap.size ≤ gb24001)); have n3_ := Aside0.mk ((by rw [hg]; exact (below_size (by repeat (first | (with_reducible first | exact HB.out | apply below_alloc | apply pw_below_drewN | apply below_drew1) | exact HB.out))) : w.heap.size ≤ gb24001)); clear HB; have HB := n0_; have BK24001 := n1_; have GW24001 := n2_; have GE24001 := n3_; clear n0_ n1_ n2_ n3_; clear hb hbox hg; have hcz12_0 : w11.cell? ⟨gb24001, 0, none⟩ = some (.int .i64 a1_0) := (blk_cell BK24001.out 0).trans rfl; have hcz12_1 : w11.cell? ⟨gb24001, 1, none⟩ = some (.int .i64 a1_1) := (blk_cell BK24001.out 1).trans rfl; have hfz12_0 := blk_frozen BK24001.out 0; have hfz12_1 := blk_frozen BK24001.out 1) | (go_at_call 21; (with_reducible refine (papermillref34_Parts.calls k _ _ l0 a1_0 a1_1 t24002 t24005 _ ?side1 ?side2 A3.out).mono ?_); (case side1 => repeat (first | exact (Kd.C_below HR0.out HB.out) | (with_reducible refine Kd.C_alloc ?_ _) | (with_reducible refine Kd.C_drewN ?_ _) | (with_reducible refine Kd.C_drew ?_))); (case side2 => exact HC0.out); rintro e w13 ⟨v24003, rfl, ho0, hb⟩; have n0_ := Aside0.mk (Kd.R_lower ho0 (below_size (by repeat (first | (with_reducible first | exact HB.out | apply below_alloc | apply pw_below_drewN | apply below_drew1 | refine below_set ?_ GE24001.out) | exact HB.out)))); have n1_ := Aside0.mk (blk_below (g := gb24001) (o := .cells #[.int .i64 a1_0, .int .i64 a1_1] 36 (0, 0)) (by (with_reducible repeat (first | refine blk_drewN ?_ _ | refine blk_drew ?_ | refine blk_alloc ?_ _)); exact BK24001.out) hb); have n2_ := Aside0.mk (below_step (by repeat (first | (with_reducible first | exact HB.out | apply below_alloc | apply pw_below_drewN | apply below_drew1 | refine below_set ?_ GE24001.out) | exact HB.out)) hb); clear BK24001; clear HB; have HO24004 := n0_; have BK24001 := n1_; have HB := n2_; clear n0_ n1_ n2_; (try clear hb); (try clear hb2); (try clear hk); (try clear hi); (try clear ho0); obtain ⟨Ao14, co14, eo14⟩ := Kd.R_slice HO24004.out; subst eo14; have p24006 : 0 ≤ (0 : Int) := (by omega); have q24006 : 0 < (t24002.length : Int) := of_decide_eq_true (by first | (with_reducible assumption) | assumption); obtain ⟨ad24006, e24006, hx24006_0, hx24006_1, hx24006_2, hx24006_3, hx24006_4⟩ := at_T44 (Kd.R_reads' HO24004.out).2.2 0 p24006 q24006; cases e24006; have qi24006 : (0 < t24002.length) = True := eq_true (by omega); (try rw [show ((0 : Int)).toNat = 0 from rfl] at hx24006_0); (try rw [show 0 * 5 = 0 from rfl] at hx24006_0); (try rw [Addr.add_zero'] at hx24006_0); (try rw [show ((0 : Int)).toNat = 0 from rfl] at hx24006_1); (try rw [show 0 * 5 = 0 from rfl] at hx24006_1); (try rw [Addr.add_zero'] at hx24006_1); (try rw [show ((0 : Int)).toNat = 0 from rfl] at hx24006_2); (try rw [show 0 * 5 = 0 from rfl] at hx24006_2); (try rw [Addr.add_zero'] at hx24006_2); (try rw [show ((0 : Int)).toNat = 0 from rfl] at hx24006_3); (try rw [show 0 * 5 = 0 from rfl] at hx24006_3); (try rw [Addr.add_zero'] at hx24006_3); (try rw [show ((0 : Int)).toNat = 0 from rfl] at hx24006_4); (try rw [show 0 * 5 = 0 from rfl] at hx24006_4); (try rw [Addr.add_zero'] at hx24006_4); replace p24006 := eq_true p24006; replace q24006 := eq_true q24006)); try go_wp2_with (first | ((with_reducible refine gate_dst (N := 3) rfl ?_); refine box_event ?hg (N := 3) ?hd (cs := #[.int .i64 a1_0, .int .i64 a1_1]) (t := 36) ?hr ?_; (case hd => rfl); (case hg => rfl); (case hr => first | (go_simp; done) | (go_simp; rfl)); intro gb24001 hg w11 hbox hb; have n0_ := Aside0.mk (below_step (by repeat (first | (with_reducible first | exact HB.out | apply below_alloc | apply pw_below_drewN | apply below_drew1) | exact HB.out)) hb); have n1_ := Aside0.mk (hbox); have n2_ := Aside0.mk ((by rw [hg]; exact (below_size (by repeat (first | (with_reducible first | exact HB.out | apply below_alloc | apply pw_below_drewN | apply below_drew1) | exact HB.out))) : w.heap.size ≤ gb24001)); have n3_ := Aside0.mk ((by rw [hg]; exact (below_size (by repeat (first | (with_reducible first | exact HB.out | apply below_alloc | apply pw_below_drewN | apply below_drew1) | exact HB.out))) : w.heap.size ≤ gb24001)); clear HB; have HB := n0_; have BK24001 := n1_; have GW24001 := n2_; have GE24001 := n3_; clear n0_ n1_ n2_ n3_; clear hb hbox hg; have hcz12_0 : w11.cell? ⟨gb24001, 0, none⟩ = some (.int .i64 a1_0) := (blk_cell BK24001.out 0).trans rfl; have hcz12_1 : w11.cell? ⟨gb24001, 1, none⟩ = some (.int .i64 a1_1) := (blk_cell BK24001.out 1).trans rfl; have hfz12_0 := blk_frozen BK24001.out 0; have hfz12_1 := blk_frozen BK24001.out 1) | (go_at_call 21; (with_reducible refine (papermillref34_Parts.calls k _ _ l0 a1_0 a1_1 t24002 t24005 _ ?side1 ?side2 A3.out).mono ?_); (case side1 => repeat (first | exact (Kd.C_below HR0.out HB.out) | (with_reducible refine Kd.C_alloc ?_ _) | (with_reducible refine Kd.C_drewN ?_ _) | (with_reducible refine Kd.C_drew ?_))); (case side2 => exact HC0.out); rintro e w13 ⟨v24003, rfl, ho0, hb⟩; have n0_ := Aside0.mk (Kd.R_lower ho0 (below_size (by repeat (first | (with_reducible first | exact HB.out | apply below_alloc | apply pw_below_drewN | apply below_drew1 | refine below_set ?_ GE24001.out) | exact HB.out)))); have n1_ := Aside0.mk (blk_below (g := gb24001) (o := .cells #[.int .i64 a1_0, .int .i64 a1_1] 36 (0, 0)) (by (with_reducible repeat (first | refine blk_drewN ?_ _ | refine blk_drew ?_ | refine blk_alloc ?_ _)); exact BK24001.out) hb); have n2_ := Aside0.mk (below_step (by repeat (first | (with_reducible first | exact HB.out | apply below_alloc | apply pw_below_drewN | apply below_drew1 | refine below_set ?_ GE24001.out) | exact HB.out)) hb); clear BK24001; clear HB; have HO24004 := n0_; have BK24001 := n1_; have HB := n2_; clear n0_ n1_ n2_; (try clear hb); (try clear hb2); (try clear hk); (try clear hi); (try clear ho0); obtain ⟨Ao14, co14, eo14⟩ := Kd.R_slice HO24004.out; subst eo14; have p24006 : 0 ≤ (0 : Int) := (by omega); have q24006 : 0 < (t24002.length : Int) := of_decide_eq_true (by first | (with_reducible assumption) | assumption); obtain ⟨ad24006, e24006, hx24006_0, hx24006_1, hx24006_2, hx24006_3, hx24006_4⟩ := at_T44 (Kd.R_reads' HO24004.out).2.2 0 p24006 q24006; cases e24006; have qi24006 : (0 < t24002.length) = True := eq_true (by omega); (try rw [show ((0 : Int)).toNat = 0 from rfl] at hx24006_0); (try rw [show 0 * 5 = 0 from rfl] at hx24006_0); (try rw [Addr.add_zero'] at hx24006_0); (try rw [show ((0 : Int)).toNat = 0 from rfl] at hx24006_1); (try rw [show 0 * 5 = 0 from rfl] at hx24006_1); (try rw [Addr.add_zero'] at hx24006_1); (try rw [show ((0 : Int)).toNat = 0 from rfl] at hx24006_2); (try rw [show 0 * 5 = 0 from rfl] at hx24006_2); (try rw [Addr.add_zero'] at hx24006_2); (try rw [show ((0 : Int)).toNat = 0 from rfl] at hx24006_3); (try rw [show 0 * 5 = 0 from rfl] at hx24006_3); (try rw [Addr.add_zero'] at hx24006_3); (try rw [show ((0 : Int)).toNat = 0 from rfl] at hx24006_4); (try rw [show 0 * 5 = 0 from rfl] at hx24006_4); (try rw [Addr.add_zero'] at hx24006_4); replace p24006 := eq_true p24006; replace q24006 := eq_true q24006)))
        go_loopg [9, 10, 11] k (fun kq v9 v10 v11 w' => ∃ (x9_1 : Int) (x10_1 : Bool) (x11_1 : Int), v9 = .int .i64 x9_1 ∧ v10 = .bool x10_1 ∧ v11 = .int .i64 x11_1 ∧ Aside0 (papermillref34_Grade.l0 kq t24002 x9_1 x10_1 x11_1 = some (r1, r2, r3)) ∧ Aside0 (kq ≤ k) ∧ Aside0 (Kd.R k44 44 w' w.heap.size (fun _ => True) (.slice (some ad24006) t24002.length co14) t24002) ∧ Aside0 (w'.heap[gb24001]? = some (.cells #[.int .i64 a1_0, .int .i64 a1_1] 36 (0, 0))) ∧ Aside0 (Below w.heap.size w w'))
        case atStart => exact ⟨((rd_T44 t24002 0).f3), (true), (0), (by first | rfl | (simp; done) | (simp [*]; done)), (by first | rfl | (simp; done) | (simp [*]; done)), (by first | rfl | (simp; done) | (simp [*]; done)), H', ⟨Nat.le_refl _⟩, ⟨by (with_reducible repeat (first | apply Kd.R_alloc | apply Kd.R_drewN | apply Kd.R_drew)); exact HO24004.out⟩, ⟨by (with_reducible repeat (first | refine blk_drewN ?_ _ | refine blk_drew ?_ | refine blk_alloc ?_ _)); exact BK24001.out⟩, ⟨by repeat (first | (with_reducible first | exact HB.out | apply below_alloc | apply pw_below_drewN | apply below_drew1 | refine below_set ?_ GE24001.out) | exact HB.out)⟩⟩
        case round =>
          clear H'
          try clear c1
          try clear c2
          try clear p2
          try clear q2
          try clear hx2
          try clear qi2
          try clear c4
          try clear c4b0
          try clear c4b1
          try clear c5
          try clear c5b0
          try clear c5b1
          try clear c5b2
          try clear c10
          try clear c10b0
          try clear c10b1
          try clear hcz12_0
          try clear hcz12_1
          try clear hcz7_0
          try clear hcz7_1
          try clear hfz12_0
          try clear hfz12_1
          try clear hfz7_0
          try clear hfz7_1
          try clear hx24006_0
          try clear hx24006_1
          try clear hx24006_2
          try clear hx24006_3
          try clear hx24006_4
          try clear p24006
          try clear q24006
          obtain ⟨x9_1, x10_1, x11_1, rfl, rfl, rfl, HA, HK1, HO_7, BK24001, HB⟩ := hrel
          cases gk with
          | zero => exact absurd HA.out (by simp [papermillref34_Grade.l0])
          | succ k1 =>
            have H := HA.out
            clear HA
            simp only [papermillref34_Grade.l0] at H
            by_cases c15 : x11_1 < (t24002.length : Int)
            · rw [if_pos c15] at H
              have c15b0 : decide (x11_1 < (t24002.length : Int)) = true := decide_eq_true c15
              clear c15
              by_cases c16 : 0 ≤ x11_1
              · rw [if_pos c16] at H
                have c16b0 : decide (0 ≤ x11_1) = true := decide_eq_true c16
                clear c16
                by_cases c17 : 0 < (t24002.length : Int)
                · rw [if_pos c17] at H
                  have c17b0 : decide (0 < (t24002.length : Int)) = true := decide_eq_true c17
                  have c17b1 : decide (0 < t24002.length) = true := decide_eq_true (by omega)
                  clear c17
                  by_cases c18 : ((rd_T44 t24002 x11_1).f3) = ((rd_T44 t24002 0).f3)
                  · rw [if_pos c18] at H
                    have c18b0 : (((rd_T44 t24002 x11_1).f3) == ((rd_T44 t24002 0).f3)) = true := beq_iff_eq.mpr c18
                    have c18b1 : (((rd_T44 t24002 x11_1).f3) != ((rd_T44 t24002 0).f3)) = false := bne_eq_false_iff_eq.mpr c18
                    clear c18
                    by_cases c19 : x10_1 = true
                    · subst c19
                      have H1 : (papermillref34_Grade.l0 k1 t24002 x9_1 (((rd_T44 t24002 x11_1).f2) == 1) (wrap64 (x11_1 + 1))) = some (r1, r2, r3) := by rw [if_pos rfl] at H; exact H
                      clear H
                      have H := H1
                      clear H1
                      have H' := Aside0.mk H
                      clear H
                      have p24007 : 0 ≤ (x11_1 : Int) := of_decide_eq_true (by first | (with_reducible assumption) | assumption)
                      have q24007 : x11_1 < (t24002.length : Int) := of_decide_eq_true (by first | (with_reducible assumption) | assumption)
                      obtain ⟨ad24007, e24007, hx24007_0, hx24007_1, hx24007_2, hx24007_3, hx24007_4⟩ := at_T44 (Kd.R_reads' HO_7.out).2.2 x11_1 p24007 q24007
                      obtain rfl : ad24006 = ad24007 := (by injection e24007)
                      replace p24007 := eq_true p24007
                      replace q24007 := eq_true q24007
                      have p24008 : 0 ≤ (0 : Int) := (by omega)
                      have q24008 : 0 < (t24002.length : Int) := of_decide_eq_true (by first | (with_reducible assumption) | assumption)
                      obtain ⟨ad24008, e24008, hx24008_0, hx24008_1, hx24008_2, hx24008_3, hx24008_4⟩ := at_T44 (Kd.R_reads' HO_7.out).2.2 0 p24008 q24008
                      obtain rfl : ad24006 = ad24008 := (by injection e24008)
                      have qi24008 : (0 < t24002.length) = True := eq_true (by omega)
                      (try rw [show ((0 : Int)).toNat = 0 from rfl] at hx24008_0)
                      (try rw [show 0 * 5 = 0 from rfl] at hx24008_0)
                      (try rw [Addr.add_zero'] at hx24008_0)
                      (try rw [show ((0 : Int)).toNat = 0 from rfl] at hx24008_1)
                      (try rw [show 0 * 5 = 0 from rfl] at hx24008_1)
                      (try rw [Addr.add_zero'] at hx24008_1)
                      (try rw [show ((0 : Int)).toNat = 0 from rfl] at hx24008_2)
                      (try rw [show 0 * 5 = 0 from rfl] at hx24008_2)
                      (try rw [Addr.add_zero'] at hx24008_2)
                      (try rw [show ((0 : Int)).toNat = 0 from rfl] at hx24008_3)
                      (try rw [show 0 * 5 = 0 from rfl] at hx24008_3)
                      (try rw [Addr.add_zero'] at hx24008_3)
                      (try rw [show ((0 : Int)).toNat = 0 from rfl] at hx24008_4)
                      (try rw [show 0 * 5 = 0 from rfl] at hx24008_4)
                      (try rw [Addr.add_zero'] at hx24008_4)
                      replace p24008 := eq_true p24008
                      replace q24008 := eq_true q24008
                      have p24009 : 0 ≤ (x11_1 : Int) := of_decide_eq_true (by first | (with_reducible assumption) | assumption)
                      have q24009 : x11_1 < (t24002.length : Int) := of_decide_eq_true (by first | (with_reducible assumption) | assumption)
                      obtain ⟨ad24009, e24009, hx24009_0, hx24009_1, hx24009_2, hx24009_3, hx24009_4⟩ := at_T44 (Kd.R_reads' HO_7.out).2.2 x11_1 p24009 q24009
                      obtain rfl : ad24006 = ad24009 := (by injection e24009)
                      replace p24009 := eq_true p24009
                      replace q24009 := eq_true q24009
                      go_wp2
                      repeat (go_quiet (fail); try go_wp2)
                      go_roundg k1
                      case measure => have := HK1.out; omega
                      case rel => exact ⟨(x9_1), ((((rd_T44 t24002 x11_1).f2) == 1)), (wrap64 (x11_1 + 1)), (by first | rfl | (simp; done) | (simp [*]; done)), (by first | rfl | (simp; done) | (simp [*]; done)), (by first | rfl | (simp; done) | (simp [*]; done)), H', ⟨by have := HK1.out; omega⟩, ⟨by (with_reducible repeat (first | apply Kd.R_alloc | apply Kd.R_drewN | apply Kd.R_drew)); exact HO_7.out⟩, ⟨by (with_reducible repeat (first | refine blk_drewN ?_ _ | refine blk_drew ?_ | refine blk_alloc ?_ _)); exact BK24001.out⟩, ⟨by repeat (first | (with_reducible first | exact HB.out | apply below_alloc | apply pw_below_drewN | apply below_drew1 | refine below_set ?_ GE24001.out) | exact HB.out)⟩⟩
                    · replace c19 := Bool.eq_false_iff.mpr c19
                      subst c19
                      have H1 : (papermillref34_Grade.l0 k1 t24002 x9_1 false (wrap64 (x11_1 + 1))) = some (r1, r2, r3) := by rw [if_neg (show ¬ (false = true) by decide)] at H; exact H
                      clear H
                      have H := H1
                      clear H1
                      have H' := Aside0.mk H
                      clear H
                      have p24007 : 0 ≤ (x11_1 : Int) := of_decide_eq_true (by first | (with_reducible assumption) | assumption)
                      have q24007 : x11_1 < (t24002.length : Int) := of_decide_eq_true (by first | (with_reducible assumption) | assumption)
                      obtain ⟨ad24007, e24007, hx24007_0, hx24007_1, hx24007_2, hx24007_3, hx24007_4⟩ := at_T44 (Kd.R_reads' HO_7.out).2.2 x11_1 p24007 q24007
                      obtain rfl : ad24006 = ad24007 := (by injection e24007)
                      replace p24007 := eq_true p24007
                      replace q24007 := eq_true q24007
                      have p24008 : 0 ≤ (0 : Int) := (by omega)
                      have q24008 : 0 < (t24002.length : Int) := of_decide_eq_true (by first | (with_reducible assumption) | assumption)
                      obtain ⟨ad24008, e24008, hx24008_0, hx24008_1, hx24008_2, hx24008_3, hx24008_4⟩ := at_T44 (Kd.R_reads' HO_7.out).2.2 0 p24008 q24008
                      obtain rfl : ad24006 = ad24008 := (by injection e24008)
                      have qi24008 : (0 < t24002.length) = True := eq_true (by omega)
                      (try rw [show ((0 : Int)).toNat = 0 from rfl] at hx24008_0)
                      (try rw [show 0 * 5 = 0 from rfl] at hx24008_0)
                      (try rw [Addr.add_zero'] at hx24008_0)
                      (try rw [show ((0 : Int)).toNat = 0 from rfl] at hx24008_1)
                      (try rw [show 0 * 5 = 0 from rfl] at hx24008_1)
                      (try rw [Addr.add_zero'] at hx24008_1)
                      (try rw [show ((0 : Int)).toNat = 0 from rfl] at hx24008_2)
                      (try rw [show 0 * 5 = 0 from rfl] at hx24008_2)
                      (try rw [Addr.add_zero'] at hx24008_2)
                      (try rw [show ((0 : Int)).toNat = 0 from rfl] at hx24008_3)
                      (try rw [show 0 * 5 = 0 from rfl] at hx24008_3)
                      (try rw [Addr.add_zero'] at hx24008_3)
                      (try rw [show ((0 : Int)).toNat = 0 from rfl] at hx24008_4)
                      (try rw [show 0 * 5 = 0 from rfl] at hx24008_4)
                      (try rw [Addr.add_zero'] at hx24008_4)
                      replace p24008 := eq_true p24008
                      replace q24008 := eq_true q24008
                      go_wp2
                      repeat (go_quiet (fail); try go_wp2)
                      go_roundg k1
                      case measure => have := HK1.out; omega
                      case rel => exact ⟨(x9_1), (false), (wrap64 (x11_1 + 1)), (by first | rfl | (simp; done) | (simp [*]; done)), (by first | rfl | (simp; done) | (simp [*]; done)), (by first | rfl | (simp; done) | (simp [*]; done)), H', ⟨by have := HK1.out; omega⟩, ⟨by (with_reducible repeat (first | apply Kd.R_alloc | apply Kd.R_drewN | apply Kd.R_drew)); exact HO_7.out⟩, ⟨by (with_reducible repeat (first | refine blk_drewN ?_ _ | refine blk_drew ?_ | refine blk_alloc ?_ _)); exact BK24001.out⟩, ⟨by repeat (first | (with_reducible first | exact HB.out | apply below_alloc | apply pw_below_drewN | apply below_drew1 | refine below_set ?_ GE24001.out) | exact HB.out)⟩⟩
                  · rw [if_neg c18] at H
                    have c18b0 : (((rd_T44 t24002 x11_1).f3) == ((rd_T44 t24002 0).f3)) = false := beq_eq_false_iff_ne.mpr c18
                    have c18b1 : (((rd_T44 t24002 x11_1).f3) != ((rd_T44 t24002 0).f3)) = true := bne_iff_ne.mpr c18
                    by_cases c20 : x10_1 = true
                    · subst c20
                      have H1 : (papermillref34_Grade.l0 k1 t24002 (-1) (((rd_T44 t24002 x11_1).f2) == 1) (wrap64 (x11_1 + 1))) = some (r1, r2, r3) := by rw [if_pos rfl] at H; exact H
                      clear H
                      have H := H1
                      clear H1
                      have H' := Aside0.mk H
                      clear H
                      have p24007 : 0 ≤ (x11_1 : Int) := of_decide_eq_true (by first | (with_reducible assumption) | assumption)
                      have q24007 : x11_1 < (t24002.length : Int) := of_decide_eq_true (by first | (with_reducible assumption) | assumption)
                      obtain ⟨ad24007, e24007, hx24007_0, hx24007_1, hx24007_2, hx24007_3, hx24007_4⟩ := at_T44 (Kd.R_reads' HO_7.out).2.2 x11_1 p24007 q24007
                      obtain rfl : ad24006 = ad24007 := (by injection e24007)
                      replace p24007 := eq_true p24007
                      replace q24007 := eq_true q24007
                      have p24008 : 0 ≤ (0 : Int) := (by omega)
                      have q24008 : 0 < (t24002.length : Int) := of_decide_eq_true (by first | (with_reducible assumption) | assumption)
                      obtain ⟨ad24008, e24008, hx24008_0, hx24008_1, hx24008_2, hx24008_3, hx24008_4⟩ := at_T44 (Kd.R_reads' HO_7.out).2.2 0 p24008 q24008
                      obtain rfl : ad24006 = ad24008 := (by injection e24008)
                      have qi24008 : (0 < t24002.length) = True := eq_true (by omega)
                      (try rw [show ((0 : Int)).toNat = 0 from rfl] at hx24008_0)
                      (try rw [show 0 * 5 = 0 from rfl] at hx24008_0)
                      (try rw [Addr.add_zero'] at hx24008_0)
                      (try rw [show ((0 : Int)).toNat = 0 from rfl] at hx24008_1)
                      (try rw [show 0 * 5 = 0 from rfl] at hx24008_1)
                      (try rw [Addr.add_zero'] at hx24008_1)
                      (try rw [show ((0 : Int)).toNat = 0 from rfl] at hx24008_2)
                      (try rw [show 0 * 5 = 0 from rfl] at hx24008_2)
                      (try rw [Addr.add_zero'] at hx24008_2)
                      (try rw [show ((0 : Int)).toNat = 0 from rfl] at hx24008_3)
                      (try rw [show 0 * 5 = 0 from rfl] at hx24008_3)
                      (try rw [Addr.add_zero'] at hx24008_3)
                      (try rw [show ((0 : Int)).toNat = 0 from rfl] at hx24008_4)
                      (try rw [show 0 * 5 = 0 from rfl] at hx24008_4)
                      (try rw [Addr.add_zero'] at hx24008_4)
                      replace p24008 := eq_true p24008
                      replace q24008 := eq_true q24008
                      have p24010 : 0 ≤ (x11_1 : Int) := of_decide_eq_true (by first | (with_reducible assumption) | assumption)
                      have q24010 : x11_1 < (t24002.length : Int) := of_decide_eq_true (by first | (with_reducible assumption) | assumption)
                      obtain ⟨ad24010, e24010, hx24010_0, hx24010_1, hx24010_2, hx24010_3, hx24010_4⟩ := at_T44 (Kd.R_reads' HO_7.out).2.2 x11_1 p24010 q24010
                      obtain rfl : ad24006 = ad24010 := (by injection e24010)
                      replace p24010 := eq_true p24010
                      replace q24010 := eq_true q24010
                      go_wp2
                      repeat (go_quiet (fail); try go_wp2)
                      go_roundg k1
                      case measure => have := HK1.out; omega
                      case rel => exact ⟨((-1)), ((((rd_T44 t24002 x11_1).f2) == 1)), (wrap64 (x11_1 + 1)), (by first | rfl | (simp; done) | (simp [*]; done)), (by first | rfl | (simp; done) | (simp [*]; done)), (by first | rfl | (simp; done) | (simp [*]; done)), H', ⟨by have := HK1.out; omega⟩, ⟨by (with_reducible repeat (first | apply Kd.R_alloc | apply Kd.R_drewN | apply Kd.R_drew)); exact HO_7.out⟩, ⟨by (with_reducible repeat (first | refine blk_drewN ?_ _ | refine blk_drew ?_ | refine blk_alloc ?_ _)); exact BK24001.out⟩, ⟨by repeat (first | (with_reducible first | exact HB.out | apply below_alloc | apply pw_below_drewN | apply below_drew1 | refine below_set ?_ GE24001.out) | exact HB.out)⟩⟩
                    · replace c20 := Bool.eq_false_iff.mpr c20
                      subst c20
                      have H1 : (papermillref34_Grade.l0 k1 t24002 (-1) false (wrap64 (x11_1 + 1))) = some (r1, r2, r3) := by rw [if_neg (show ¬ (false = true) by decide)] at H; exact H
                      clear H
                      have H := H1
                      clear H1
                      have H' := Aside0.mk H
                      clear H
                      have p24007 : 0 ≤ (x11_1 : Int) := of_decide_eq_true (by first | (with_reducible assumption) | assumption)
                      have q24007 : x11_1 < (t24002.length : Int) := of_decide_eq_true (by first | (with_reducible assumption) | assumption)
                      obtain ⟨ad24007, e24007, hx24007_0, hx24007_1, hx24007_2, hx24007_3, hx24007_4⟩ := at_T44 (Kd.R_reads' HO_7.out).2.2 x11_1 p24007 q24007
                      obtain rfl : ad24006 = ad24007 := (by injection e24007)
                      replace p24007 := eq_true p24007
                      replace q24007 := eq_true q24007
                      have p24008 : 0 ≤ (0 : Int) := (by omega)
                      have q24008 : 0 < (t24002.length : Int) := of_decide_eq_true (by first | (with_reducible assumption) | assumption)
                      obtain ⟨ad24008, e24008, hx24008_0, hx24008_1, hx24008_2, hx24008_3, hx24008_4⟩ := at_T44 (Kd.R_reads' HO_7.out).2.2 0 p24008 q24008
                      obtain rfl : ad24006 = ad24008 := (by injection e24008)
                      have qi24008 : (0 < t24002.length) = True := eq_true (by omega)
                      (try rw [show ((0 : Int)).toNat = 0 from rfl] at hx24008_0)
                      (try rw [show 0 * 5 = 0 from rfl] at hx24008_0)
                      (try rw [Addr.add_zero'] at hx24008_0)
                      (try rw [show ((0 : Int)).toNat = 0 from rfl] at hx24008_1)
                      (try rw [show 0 * 5 = 0 from rfl] at hx24008_1)
                      (try rw [Addr.add_zero'] at hx24008_1)
                      (try rw [show ((0 : Int)).toNat = 0 from rfl] at hx24008_2)
                      (try rw [show 0 * 5 = 0 from rfl] at hx24008_2)
                      (try rw [Addr.add_zero'] at hx24008_2)
                      (try rw [show ((0 : Int)).toNat = 0 from rfl] at hx24008_3)
                      (try rw [show 0 * 5 = 0 from rfl] at hx24008_3)
                      (try rw [Addr.add_zero'] at hx24008_3)
                      (try rw [show ((0 : Int)).toNat = 0 from rfl] at hx24008_4)
                      (try rw [show 0 * 5 = 0 from rfl] at hx24008_4)
                      (try rw [Addr.add_zero'] at hx24008_4)
                      replace p24008 := eq_true p24008
                      replace q24008 := eq_true q24008
                      go_wp2
                      repeat (go_quiet (fail); try go_wp2)
                      go_roundg k1
                      case measure => have := HK1.out; omega
                      case rel => exact ⟨((-1)), (false), (wrap64 (x11_1 + 1)), (by first | rfl | (simp; done) | (simp [*]; done)), (by first | rfl | (simp; done) | (simp [*]; done)), (by first | rfl | (simp; done) | (simp [*]; done)), H', ⟨by have := HK1.out; omega⟩, ⟨by (with_reducible repeat (first | apply Kd.R_alloc | apply Kd.R_drewN | apply Kd.R_drew)); exact HO_7.out⟩, ⟨by (with_reducible repeat (first | refine blk_drewN ?_ _ | refine blk_drew ?_ | refine blk_alloc ?_ _)); exact BK24001.out⟩, ⟨by repeat (first | (with_reducible first | exact HB.out | apply below_alloc | apply pw_below_drewN | apply below_drew1 | refine below_set ?_ GE24001.out) | exact HB.out)⟩⟩
                · rw [if_neg c17] at H
                  exact absurd H (by simp)
              · rw [if_neg c16] at H
                exact absurd H (by simp)
            · rw [if_neg c15] at H
              have c15b0 : decide (x11_1 < (t24002.length : Int)) = false := decide_eq_false c15
              clear c15
              simp only [Option.some.injEq, Prod.mk.injEq] at H
              obtain ⟨rfl, rfl, rfl⟩ := H
              go_wp2
              repeat (go_quiet (fail); try go_wp2)
              go_ret3
              exact ⟨by first | rfl | (simp [errW_none, errW_some] <;> rfl) | (simp [*, errW_none, errW_some] <;> rfl), by repeat (first | (with_reducible first | exact HB.out | apply below_alloc | apply pw_below_drewN | apply below_drew1 | refine below_set ?_ GE24001.out) | exact HB.out)⟩
      · rw [if_neg c10] at H
        exact absurd H (by simp)
  · rw [if_neg c4] at H
    have c4b0 : (t24005 == 0) = false := beq_eq_false_iff_ne.mpr c4
    have c4b1 : (t24005 != 0) = true := bne_iff_ne.mpr c4
    simp only [Option.some.injEq, Prod.mk.injEq] at H
    obtain ⟨rfl, rfl, rfl⟩ := H
    go_enter Try.func23, Try.ntmps23
    go_wp2_with (first | ((with_reducible refine gate_dst (N := 3) rfl ?_); refine box_event ?hg (N := 3) ?hd (cs := #[.int .i64 a1_0, .int .i64 a1_1]) (t := 36) ?hr ?_; (case hd => rfl); (case hg => rfl); (case hr => first | (go_simp; done) | (go_simp; rfl)); intro gb24001 hg w21 hbox hb; have n0_ := Aside0.mk (below_step (by repeat (first | (with_reducible first | exact HB.out | apply below_alloc | apply pw_below_drewN | apply below_drew1) | exact HB.out)) hb); have n1_ := Aside0.mk (hbox); have n2_ := Aside0.mk ((by rw [hg]; exact (below_size (by repeat (first | (with_reducible first | exact HB.out | apply below_alloc | apply pw_below_drewN | apply below_drew1) | exact HB.out))) : w.heap.size ≤ gb24001)); have n3_ := Aside0.mk ((by rw [hg]; exact (below_size (by repeat (first | (with_reducible first | exact HB.out | apply below_alloc | apply pw_below_drewN | apply below_drew1) | exact HB.out))) : w.heap.size ≤ gb24001)); clear HB; have HB := n0_; have BK24001 := n1_; have GW24001 := n2_; have GE24001 := n3_; clear n0_ n1_ n2_ n3_; clear hb hbox hg; have hcz22_0 : w21.cell? ⟨gb24001, 0, none⟩ = some (.int .i64 a1_0) := (blk_cell BK24001.out 0).trans rfl; have hcz22_1 : w21.cell? ⟨gb24001, 1, none⟩ = some (.int .i64 a1_1) := (blk_cell BK24001.out 1).trans rfl; have hfz22_0 := blk_frozen BK24001.out 0; have hfz22_1 := blk_frozen BK24001.out 1) | (go_at_call 21; (with_reducible refine (papermillref34_Parts.calls k _ _ l0 a1_0 a1_1 t24002 t24005 _ ?side1 ?side2 A3.out).mono ?_); (case side1 => repeat (first | exact (Kd.C_below HR0.out HB.out) | (with_reducible refine Kd.C_alloc ?_ _) | (with_reducible refine Kd.C_drewN ?_ _) | (with_reducible refine Kd.C_drew ?_))); (case side2 => exact HC0.out); rintro e w23 ⟨v24003, rfl, ho0, hb⟩; have n0_ := Aside0.mk (Kd.R_lower ho0 (below_size (by repeat (first | (with_reducible first | exact HB.out | apply below_alloc | apply pw_below_drewN | apply below_drew1 | refine below_set ?_ GE24001.out) | exact HB.out)))); have n1_ := Aside0.mk (blk_below (g := gb24001) (o := .cells #[.int .i64 a1_0, .int .i64 a1_1] 36 (0, 0)) (by (with_reducible repeat (first | refine blk_drewN ?_ _ | refine blk_drew ?_ | refine blk_alloc ?_ _)); exact BK24001.out) hb); have n2_ := Aside0.mk (below_step (by repeat (first | (with_reducible first | exact HB.out | apply below_alloc | apply pw_below_drewN | apply below_drew1 | refine below_set ?_ GE24001.out) | exact HB.out)) hb); clear BK24001; clear HB; have HO24004 := n0_; have BK24001 := n1_; have HB := n2_; clear n0_ n1_ n2_; (try clear hb); (try clear hb2); (try clear hk); (try clear hi); (try clear ho0)))
    repeat (go_quiet (first | ((with_reducible refine gate_dst (N := 3) rfl ?_); refine box_event ?hg (N := 3) ?hd (cs := #[.int .i64 a1_0, .int .i64 a1_1]) (t := 36) ?hr ?_; (case hd => rfl); (case hg => rfl); (case hr => first | (go_simp; done) | (go_simp; rfl)); intro gb24001 hg w21 hbox hb; have n0_ := Aside0.mk (below_step (by repeat (first | (with_reducible first | exact HB.out | apply below_alloc | apply pw_below_drewN | apply below_drew1) | exact HB.out)) hb); have n1_ := Aside0.mk (hbox); have n2_ := Aside0.mk ((by rw [hg]; exact (below_size (by repeat (first | (with_reducible first | exact HB.out | apply below_alloc | apply pw_below_drewN | apply below_drew1) | exact HB.out))) : w.heap.size ≤ gb24001)); have n3_ := Aside0.mk ((by rw [hg]; exact (below_size (by repeat (first | (with_reducible first | exact HB.out | apply below_alloc | apply pw_below_drewN | apply below_drew1) | exact HB.out))) : w.heap.size ≤ gb24001)); clear HB; have HB := n0_; have BK24001 := n1_; have GW24001 := n2_; have GE24001 := n3_; clear n0_ n1_ n2_ n3_; clear hb hbox hg; have hcz22_0 : w21.cell? ⟨gb24001, 0, none⟩ = some (.int .i64 a1_0) := (blk_cell BK24001.out 0).trans rfl; have hcz22_1 : w21.cell? ⟨gb24001, 1, none⟩ = some (.int .i64 a1_1) := (blk_cell BK24001.out 1).trans rfl; have hfz22_0 := blk_frozen BK24001.out 0; have hfz22_1 := blk_frozen BK24001.out 1) | (go_at_call 21; (with_reducible refine (papermillref34_Parts.calls k _ _ l0 a1_0 a1_1 t24002 t24005 _ ?side1 ?side2 A3.out).mono ?_); (case side1 => repeat (first | exact (Kd.C_below HR0.out HB.out) | (with_reducible refine Kd.C_alloc ?_ _) | (with_reducible refine Kd.C_drewN ?_ _) | (with_reducible refine Kd.C_drew ?_))); (case side2 => exact HC0.out); rintro e w23 ⟨v24003, rfl, ho0, hb⟩; have n0_ := Aside0.mk (Kd.R_lower ho0 (below_size (by repeat (first | (with_reducible first | exact HB.out | apply below_alloc | apply pw_below_drewN | apply below_drew1 | refine below_set ?_ GE24001.out) | exact HB.out)))); have n1_ := Aside0.mk (blk_below (g := gb24001) (o := .cells #[.int .i64 a1_0, .int .i64 a1_1] 36 (0, 0)) (by (with_reducible repeat (first | refine blk_drewN ?_ _ | refine blk_drew ?_ | refine blk_alloc ?_ _)); exact BK24001.out) hb); have n2_ := Aside0.mk (below_step (by repeat (first | (with_reducible first | exact HB.out | apply below_alloc | apply pw_below_drewN | apply below_drew1 | refine below_set ?_ GE24001.out) | exact HB.out)) hb); clear BK24001; clear HB; have HO24004 := n0_; have BK24001 := n1_; have HB := n2_; clear n0_ n1_ n2_; (try clear hb); (try clear hb2); (try clear hk); (try clear hi); (try clear ho0))); try go_wp2_with (first | ((with_reducible refine gate_dst (N := 3) rfl ?_); refine box_event ?hg (N := 3) ?hd (cs := #[.int .i64 a1_0, .int .i64 a1_1]) (t := 36) ?hr ?_; (case hd => rfl); (case hg => rfl); (case hr => first | (go_simp; done) | (go_simp; rfl)); intro gb24001 hg w21 hbox hb; have n0_ := Aside0.mk (below_step (by repeat (first | (with_reducible first | exact HB.out | apply below_alloc | apply pw_below_drewN | apply below_drew1) | exact HB.out)) hb); have n1_ := Aside0.mk (hbox); have n2_ := Aside0.mk ((by rw [hg]; exact (below_size (by repeat (first | (with_reducible first | exact HB.out | apply below_alloc | apply pw_below_drewN | apply below_drew1) | exact HB.out))) : w.heap.size ≤ gb24001)); have n3_ := Aside0.mk ((by rw [hg]; exact (below_size (by repeat (first | (with_reducible first | exact HB.out | apply below_alloc | apply pw_below_drewN | apply below_drew1) | exact HB.out))) : w.heap.size ≤ gb24001)); clear HB; have HB := n0_; have BK24001 := n1_; have GW24001 := n2_; have GE24001 := n3_; clear n0_ n1_ n2_ n3_; clear hb hbox hg; have hcz22_0 : w21.cell? ⟨gb24001, 0, none⟩ = some (.int .i64 a1_0) := (blk_cell BK24001.out 0).trans rfl; have hcz22_1 : w21.cell? ⟨gb24001, 1, none⟩ = some (.int .i64 a1_1) := (blk_cell BK24001.out 1).trans rfl; have hfz22_0 := blk_frozen BK24001.out 0; have hfz22_1 := blk_frozen BK24001.out 1) | (go_at_call 21; (with_reducible refine (papermillref34_Parts.calls k _ _ l0 a1_0 a1_1 t24002 t24005 _ ?side1 ?side2 A3.out).mono ?_); (case side1 => repeat (first | exact (Kd.C_below HR0.out HB.out) | (with_reducible refine Kd.C_alloc ?_ _) | (with_reducible refine Kd.C_drewN ?_ _) | (with_reducible refine Kd.C_drew ?_))); (case side2 => exact HC0.out); rintro e w23 ⟨v24003, rfl, ho0, hb⟩; have n0_ := Aside0.mk (Kd.R_lower ho0 (below_size (by repeat (first | (with_reducible first | exact HB.out | apply below_alloc | apply pw_below_drewN | apply below_drew1 | refine below_set ?_ GE24001.out) | exact HB.out)))); have n1_ := Aside0.mk (blk_below (g := gb24001) (o := .cells #[.int .i64 a1_0, .int .i64 a1_1] 36 (0, 0)) (by (with_reducible repeat (first | refine blk_drewN ?_ _ | refine blk_drew ?_ | refine blk_alloc ?_ _)); exact BK24001.out) hb); have n2_ := Aside0.mk (below_step (by repeat (first | (with_reducible first | exact HB.out | apply below_alloc | apply pw_below_drewN | apply below_drew1 | refine below_set ?_ GE24001.out) | exact HB.out)) hb); clear BK24001; clear HB; have HO24004 := n0_; have BK24001 := n1_; have HB := n2_; clear n0_ n1_ n2_; (try clear hb); (try clear hb2); (try clear hk); (try clear hi); (try clear ho0))))
    go_ret3
    exact ⟨by first | rfl | (simp [errW_none, errW_some] <;> rfl) | (simp [*, errW_none, errW_some] <;> rfl), by repeat (first | (with_reducible first | exact HB.out | apply below_alloc | apply pw_below_drewN | apply below_drew1 | refine below_set ?_ GE24001.out) | exact HB.out)⟩

end Go.Proofs.Ytfdfpdiemeomiaa.G
