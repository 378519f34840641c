import Derived.Test.YtnfcpcgbdoiiiaaQ1
import Derived.Test.YtnfcpcgbdoiiiaaQ3
namespace Go.Proofs.Ytnfcpcgbdoiiiaa.G
open Go.RowKit Go.Proofs.YtnfcpcgbdoiiiaaW.PrintWords Go.Proofs.YtnfcpcgbdoiiiaaW.PrintLast Go.Proofs.YtnfcpcgbdoiiiaaW.PrintMore
attribute [local go_sem] max2_int min2_int max_two min_two max_three min_three max_four min_four   -- for this text's walks alone
set_option linter.unusedVariables false
set_option linter.unusedSimpArgs false

mutual
def sheet_Together.l0 : Nat → List (S25) → Int → Int → Option (Int × (List (S50)) × Int × Int)
 | 0, _, _, _ => none
 | k + 1, x0, x20, x21 => if x21 < x20 then (if 0 ≤ x21 then (if x21 < (x0.length : Int) then ((sheet_one.f k ((rd_T25 x0 x21).f0) ((rd_T25 x0 x21).f1) ((rd_T25 x0 x21).f2)).bind fun t22003 => (if t22003 = 0 then (sheet_Together.l0 k x0 x20 (wrap64 (x21 + 1))) else (some (0, ([] : List (S50)), 0, t22003)))) else (none)) else (none)) else (if 0 < (x0.length : Int) then ((slices_Clone_api_Span_api_Span.f ((rd_T25 x0 0).f1)).bind fun t22006 => (sheet_Together.l1 k x0 (wrap64 ((x0.length : Int) - 1)) 0 ((rd_T25 x0 0).f0) t22006 0)) else (none))
def sheet_Together.l1 : Nat → List (S25) → Int → Int → Int → List (S50) → Int → Option (Int × (List (S50)) × Int × Int)
 | 0, _, _, _, _, _, _ => none
 | k + 1, x0, x46, x47, x22010000, x22010001, x22010002 => if x47 < x46 then (if 0 ≤ (wrap64 (x47 + 1)) then (if (wrap64 (x47 + 1)) < (x0.length : Int) then ((span_Common.f k x22010001 ((rd_T25 x0 (wrap64 (x47 + 1))).f1)).bind fun bt22012 => (if bt22012.2 = 0 then (sheet_Together.l1 k x0 x46 (wrap64 (x47 + 1)) (mn x22010000 ((rd_T25 x0 (wrap64 (x47 + 1))).f0)) bt22012.1 0) else (some (0, ([] : List (S50)), 0, bt22012.2)))) else (none)) else (none)) else (some (x22010000, x22010001, x22010002, 0))
end
def sheet_Together.f (k : Nat) (l0 : List (S25)) : Option (Int × (List (S50)) × Int × Int) := if (l0.length : Int) = 0 then (some (0, ([] : List (S50)), 0, 10)) else (if (l0.length : Int) > 16 then (some (0, ([] : List (S50)), 0, 8)) else (sheet_Together.l0 k l0 (l0.length : Int) 0))
theorem sheet_Together.mono_l : ∀ k, (∀ y0 y1 y2, LeO (sheet_Together.l0 k y0 y1 y2) (sheet_Together.l0 (k + 1) y0 y1 y2)) ∧ (∀ y0 y1 y2 y3 y4 y5, LeO (sheet_Together.l1 k y0 y1 y2 y3 y4 y5) (sheet_Together.l1 (k + 1) y0 y1 y2 y3 y4 y5))
 | 0 => ⟨fun _ _ _ r h => by simp [sheet_Together.l0] at h, fun _ _ _ _ _ _ r h => by simp [sheet_Together.l1] at h⟩
 | k + 1 => by
  obtain ⟨ih0, ih1⟩ := sheet_Together.mono_l k
  refine ⟨?_, ?_⟩
  ·intro y0 y1 y2
   unfold sheet_Together.l0
   repeat' first
   | (with_reducible exact ih0 _ _ _)
   | (with_reducible exact ih1 _ _ _ _ _ _)
   | (with_reducible exact sheet_one.mono _ _ _ _)
   | (with_reducible exact span_Common.mono _ _ _)
   | (with_reducible exact LeO.refl _)
   | (with_reducible exact LeO.none _)
   | (with_reducible refine LeO.ite ?_ ?_)
   | (with_reducible refine LeO.bind ?_ (fun _ => ?_))
   | exact ih0 _ _ _
   | exact ih1 _ _ _ _ _ _
   | exact sheet_one.mono _ _ _ _
   | exact span_Common.mono _ _ _
   | exact LeO.none _
   | refine LeO.ite ?_ ?_
   | refine LeO.bind ?_ (fun _ => ?_)
  ·intro y0 y1 y2 y3 y4 y5
   unfold sheet_Together.l1
   repeat' first
   | (with_reducible exact ih0 _ _ _)
   | (with_reducible exact ih1 _ _ _ _ _ _)
   | (with_reducible exact sheet_one.mono _ _ _ _)
   | (with_reducible exact span_Common.mono _ _ _)
   | (with_reducible exact LeO.refl _)
   | (with_reducible exact LeO.none _)
   | (with_reducible refine LeO.ite ?_ ?_)
   | (with_reducible refine LeO.bind ?_ (fun _ => ?_))
   | exact ih0 _ _ _
   | exact ih1 _ _ _ _ _ _
   | exact sheet_one.mono _ _ _ _
   | exact span_Common.mono _ _ _
   | exact LeO.none _
   | refine LeO.ite ?_ ?_
   | refine LeO.bind ?_ (fun _ => ?_)
theorem sheet_Together.mono : ∀ a0 k, LeO (sheet_Together.f k a0) (sheet_Together.f (k + 1) a0) := by
 intro a0 k
 obtain ⟨ih0, ih1⟩ := sheet_Together.mono_l k
 unfold sheet_Together.f
 repeat' first
   | (with_reducible exact ih0 _ _ _)
   | (with_reducible exact ih1 _ _ _ _ _ _)
   | (with_reducible exact sheet_one.mono _ _ _ _)
   | (with_reducible exact span_Common.mono _ _ _)
   | (with_reducible exact LeO.refl _)
   | (with_reducible exact LeO.none _)
   | (with_reducible refine LeO.ite ?_ ?_)
   | (with_reducible refine LeO.bind ?_ (fun _ => ?_))
   | exact ih0 _ _ _
   | exact ih1 _ _ _ _ _ _
   | exact sheet_one.mono _ _ _ _
   | exact span_Common.mono _ _ _
   | exact LeO.none _
   | refine LeO.ite ?_ ?_
   | refine LeO.bind ?_ (fun _ => ?_)
def sheet_Together.T12 : Bool × List (List Nat × List Nat) := (true, [([], []), ([0], [0]), ([1], [1]), ([2], [2]), ([], []), ([4], [4]), ([5], [5]), ([6], [6]), ([7], [7]), ([3, 8], [3, 8]), ([], []), ([10, 9, 8, 0, 1, 2, 3, 4, 5, 6, 7, 8, 9, 10], [9, 10])])
def sheet_Together.B12 : List Nat := [0, 1, 3, 7, 0, 16, 48, 112, 240, 511, 0, 2047]
theorem sheet_Together.tab12 : rtab .any (opsOf Try.f21 12) = sheet_Together.T12 := by kernel_rfl
theorem sheet_Together.bits12 : waitsOk sheet_Together.T12.2 sheet_Together.B12 = true := by kernel_rfl
set_option maxHeartbeats 8000000 in
set_option maxRecDepth 100000 in
theorem sheet_Together.calls (k : Nat) (A0 : Option Addr) (c0 : Nat) (l0 : List (S25)) (r1 : Int) (r2 : List (S50)) (r3 : Int) (r4 : Int) (w : World) (hr0 : Kd.C k25 w A0 l0.length l0) (hc0 : l0.length ≤ c0) (h : sheet_Together.f k l0 = some (r1, r2, r3, r4)) :
  Calls Try.prog 21 #[.slice A0 l0.length c0] w fun e w' => ∃ v1_ : Value, e = .returned (.tuple #[.agg #[.int .i64 r1, v1_, .int .i64 r3], .int .i64 r4]) ∧ Kd.R k50 50 w' w.heap.size (fun _ => True) v1_ r2 ∧ Below w.heap.size w w' := by
 have hu25 := Try.underlying25
 have HR0 := Aside0.mk hr0
 have HC0 := Aside0.mk hc0
 clear hr0 hc0
 have HB := Aside0.mk (Below.refl w.heap.size w)
 have H : (if (l0.length : Int) = 0 then (some (0, ([] : List (S50)), 0, 10)) else (if (l0.length : Int) > 16 then (some (0, ([] : List (S50)), 0, 8)) else (sheet_Together.l0 k l0 (l0.length : Int) 0))) = some (r1, r2, r3, r4) := h
 clear h
 by_cases c2 : (l0.length : Int) = 0
 ·rw [if_pos c2] at H
  have c2b0 : ((l0.length : Int) == 0) = true := beq_iff_eq.mpr c2
  have c2b1 : ((l0.length : Int) != 0) = false := bne_eq_false_iff_eq.mpr c2
  clear c2
  simp only [Option.some.injEq, Prod.mk.injEq] at H
  obtain ⟨rfl, rfl, rfl, rfl⟩ := H
  go_enter Try.func21, Try.ntmps21
  go_wp2_with (first | ((with_reducible refine gate_dst (N := 2) rfl ?_); refine box_event ?hg (N := 2) ?hd (cs := #[.int .i64 0, .slice none 0 0, .int .i64 0]) (t := 25) ?hr ?_; (case hd => rfl); (case hg => rfl); (case hr => first | (go_simp; done) | (go_simp; rfl)); intro gb22001 hg w3 hbox hb; have n0_ := Aside0.mk (below_step (by repeat (first | exact HB.out | apply below_alloc | apply pw_below_drewN | apply below_drew1)) hb); have n1_ := Aside0.mk (hbox); have n2_ := Aside0.mk ((by rw [hg]; exact (below_size (by repeat (first | exact HB.out | apply below_alloc | apply pw_below_drewN | apply below_drew1))) : w.heap.size ≤ gb22001)); have n3_ := Aside0.mk ((by rw [hg]; exact (below_size (by repeat (first | exact HB.out | apply below_alloc | apply pw_below_drewN | apply below_drew1))) : w.heap.size ≤ gb22001)); clear HB; have HB := n0_; have BK22001 := n1_; have GW22001 := n2_; have GE22001 := n3_; clear n0_ n1_ n2_ n3_; clear hb hbox hg; have hcz4_0 : w3.cell? ⟨gb22001, 0, none⟩ = some (.int .i64 0) := (blk_cell BK22001.out 0).trans rfl; have hcz4_1 : w3.cell? ⟨gb22001, 1, none⟩ = some (.slice none 0 0) := (blk_cell BK22001.out 1).trans rfl; have hcz4_2 : w3.cell? ⟨gb22001, 2, none⟩ = some (.int .i64 0) := (blk_cell BK22001.out 2).trans rfl; have hfz4_0 := blk_frozen BK22001.out 0; have hfz4_1 := blk_frozen BK22001.out 1; have hfz4_2 := blk_frozen BK22001.out 2))
  refine bodyPost_ret (results_ct rfl _ _ gb22001 25 #[.int .i64 0, .slice none 0 0, .int .i64 0] (0, 0) _ rfl (by refine blk_put (cs := #[.int .i64 0, .slice none 0 0, .int .i64 0]) ?_ 2 _ rfl; refine blk_put (cs := #[.int .i64 0, .slice none 0 0, .int .i64 0]) ?_ 1 _ rfl; refine blk_put (cs := #[.int .i64 0, .slice none 0 0, .int .i64 0]) ?_ 0 _ rfl; exact BK22001.out) Try.underlying25 rfl (by kernel_rfl)) rfl ?_
  exact ⟨_, by first | rfl | (simp [errW_none, errW_some] <;> rfl) | (simp [*, errW_none, errW_some] <;> rfl), by first | exact Kd.R_nil _ _ _ _ _ | exact Kd.N_nil _ _ _ _ _ | exact Kd.V_nil _ _ _ _ _ | exact Kd.Q_nil _ _ _ _ _ | exact Kd.S_nil _ _ _ _ _, by repeat (first | exact HB.out | apply below_alloc | apply pw_below_drewN | apply below_drew1 | refine below_set ?_ GE22001.out)⟩
 ·rw [if_neg c2] at H
  have c2b0 : ((l0.length : Int) == 0) = false := beq_eq_false_iff_ne.mpr c2
  have c2b1 : ((l0.length : Int) != 0) = true := bne_iff_ne.mpr c2
  have c2b2 : ¬ (l0 = []) := fun h_ => c2 (by rw [h_]; rfl)
  by_cases c5 : (l0.length : Int) > 16
  ·rw [if_pos c5] at H
   have c5b0 : decide (16 < (l0.length : Int)) = true := decide_eq_true c5
   have c5b1 : decide (16 < l0.length) = true := decide_eq_true (by omega)
   clear c5
   simp only [Option.some.injEq, Prod.mk.injEq] at H
   obtain ⟨rfl, rfl, rfl, rfl⟩ := H
   go_enter Try.func21, Try.ntmps21
   go_wp2_with (first | ((with_reducible refine gate_dst (N := 2) rfl ?_); refine box_event ?hg (N := 2) ?hd (cs := #[.int .i64 0, .slice none 0 0, .int .i64 0]) (t := 25) ?hr ?_; (case hd => rfl); (case hg => rfl); (case hr => first | (go_simp; done) | (go_simp; rfl)); intro gb22001 hg w6 hbox hb; have n0_ := Aside0.mk (below_step (by repeat (first | exact HB.out | apply below_alloc | apply pw_below_drewN | apply below_drew1)) hb); have n1_ := Aside0.mk (hbox); have n2_ := Aside0.mk ((by rw [hg]; exact (below_size (by repeat (first | exact HB.out | apply below_alloc | apply pw_below_drewN | apply below_drew1))) : w.heap.size ≤ gb22001)); have n3_ := Aside0.mk ((by rw [hg]; exact (below_size (by repeat (first | exact HB.out | apply below_alloc | apply pw_below_drewN | apply below_drew1))) : w.heap.size ≤ gb22001)); clear HB; have HB := n0_; have BK22001 := n1_; have GW22001 := n2_; have GE22001 := n3_; clear n0_ n1_ n2_ n3_; clear hb hbox hg; have hcz7_0 : w6.cell? ⟨gb22001, 0, none⟩ = some (.int .i64 0) := (blk_cell BK22001.out 0).trans rfl; have hcz7_1 : w6.cell? ⟨gb22001, 1, none⟩ = some (.slice none 0 0) := (blk_cell BK22001.out 1).trans rfl; have hcz7_2 : w6.cell? ⟨gb22001, 2, none⟩ = some (.int .i64 0) := (blk_cell BK22001.out 2).trans rfl; have hfz7_0 := blk_frozen BK22001.out 0; have hfz7_1 := blk_frozen BK22001.out 1; have hfz7_2 := blk_frozen BK22001.out 2))
   refine bodyPost_ret (results_ct rfl _ _ gb22001 25 #[.int .i64 0, .slice none 0 0, .int .i64 0] (0, 0) _ rfl (by refine blk_put (cs := #[.int .i64 0, .slice none 0 0, .int .i64 0]) ?_ 2 _ rfl; refine blk_put (cs := #[.int .i64 0, .slice none 0 0, .int .i64 0]) ?_ 1 _ rfl; refine blk_put (cs := #[.int .i64 0, .slice none 0 0, .int .i64 0]) ?_ 0 _ rfl; exact BK22001.out) Try.underlying25 rfl (by kernel_rfl)) rfl ?_
   exact ⟨_, by first | rfl | (simp [errW_none, errW_some] <;> rfl) | (simp [*, errW_none, errW_some] <;> rfl), by first | exact Kd.R_nil _ _ _ _ _ | exact Kd.N_nil _ _ _ _ _ | exact Kd.V_nil _ _ _ _ _ | exact Kd.Q_nil _ _ _ _ _ | exact Kd.S_nil _ _ _ _ _, by repeat (first | exact HB.out | apply below_alloc | apply pw_below_drewN | apply below_drew1 | refine below_set ?_ GE22001.out)⟩
  ·rw [if_neg c5] at H
   have c5b0 : decide (16 < (l0.length : Int)) = false := decide_eq_false c5
   have c5b1 : decide (16 < l0.length) = false := decide_eq_false (by omega)
   clear c5
   have H' := Aside0.mk H
   clear H
   go_enter Try.func21, Try.ntmps21
   go_wp2_with (first | ((with_reducible refine gate_dst (N := 2) rfl ?_); refine box_event ?hg (N := 2) ?hd (cs := #[.int .i64 0, .slice none 0 0, .int .i64 0]) (t := 25) ?hr ?_; (case hd => rfl); (case hg => rfl); (case hr => first | (go_simp; done) | (go_simp; rfl)); intro gb22001 hg w8 hbox hb; have n0_ := Aside0.mk (below_step (by repeat (first | exact HB.out | apply below_alloc | apply pw_below_drewN | apply below_drew1)) hb); have n1_ := Aside0.mk (hbox); have n2_ := Aside0.mk ((by rw [hg]; exact (below_size (by repeat (first | exact HB.out | apply below_alloc | apply pw_below_drewN | apply below_drew1))) : w.heap.size ≤ gb22001)); have n3_ := Aside0.mk ((by rw [hg]; exact (below_size (by repeat (first | exact HB.out | apply below_alloc | apply pw_below_drewN | apply below_drew1))) : w.heap.size ≤ gb22001)); clear HB; have HB := n0_; have BK22001 := n1_; have GW22001 := n2_; have GE22001 := n3_; clear n0_ n1_ n2_ n3_; clear hb hbox hg))
   go_loopg [21] k (fun kq v21 w' => ∃ (x21_1 : Int) (x22002000_1 : Int) (x22002002_1 : Int), v21 = .int .i64 x21_1 ∧ Aside0 (sheet_Together.l0 kq l0 (l0.length : Int) x21_1 = some (r1, r2, r3, r4)) ∧ Aside0 (kq ≤ k) ∧ Aside0 (w'.heap[gb22001]? = some (.cells #[.int .i64 x22002000_1, (.slice none 0 0), .int .i64 x22002002_1] 25 (0, 0))) ∧ Aside0 (Below w.heap.size w w'))
   case atStart => exact ⟨(0), (0), (0), (by first | rfl | (simp; done) | (simp [*]; done)), H', ⟨Nat.le_refl _⟩, ⟨BK22001.out⟩, ⟨by repeat (first | exact HB.out | apply below_alloc | apply pw_below_drewN | apply below_drew1 | refine below_set ?_ GE22001.out)⟩⟩
   case round =>
    clear H'
    try clear c2
    try clear c2b0
    try clear c2b1
    try clear c2b2
    try clear p2
    try clear c5
    try clear c5b0
    try clear c5b1
    try clear hcz4_0
    try clear hcz4_1
    try clear hcz4_2
    try clear hcz7_0
    try clear hcz7_1
    try clear hcz7_2
    try clear hfz4_0
    try clear hfz4_1
    try clear hfz4_2
    try clear hfz7_0
    try clear hfz7_1
    try clear hfz7_2
    obtain ⟨x21_1, x22002000_1, x22002002_1, rfl, HA, HK1, BK22001, HB⟩ := hrel
    cases gk with
    | zero => exact absurd HA.out (by simp [sheet_Together.l0])
    | succ k1 =>
     have H := HA.out
     clear HA
     simp only [sheet_Together.l0] at H
     by_cases c9 : x21_1 < (l0.length : Int)
     ·rw [if_pos c9] at H
      have c9b0 : decide (x21_1 < (l0.length : Int)) = true := decide_eq_true c9
      clear c9
      by_cases c10 : 0 ≤ x21_1
      ·rw [if_pos c10] at H
       have c10b0 : decide (0 ≤ x21_1) = true := decide_eq_true c10
       clear c10
       by_cases c11 : x21_1 < (l0.length : Int)
       ·rw [if_pos c11] at H
        have c11b0 : decide (x21_1 < (l0.length : Int)) = true := decide_eq_true c11
        clear c11
        replace H := Option.bind_eq_some_iff.mp H
        obtain ⟨t22003, A120, H⟩ := H
        replace H : (if t22003 = 0 then (sheet_Together.l0 k1 l0 (l0.length : Int) (wrap64 (x21_1 + 1))) else (some (0, ([] : List (S50)), 0, t22003))) = some (r1, r2, r3, r4) := H
        have A12 := Aside0.mk A120
        clear A120
        by_cases c13 : t22003 = 0
        ·rw [if_pos c13] at H
         have c13b0 : (t22003 == 0) = true := beq_iff_eq.mpr c13
         have c13b1 : (t22003 != 0) = false := bne_eq_false_iff_eq.mpr c13
         clear c13
         have H' := Aside0.mk H
         clear H
         have p22002 : 0 ≤ (x21_1 : Int) := of_decide_eq_true (by assumption)
         have q22002 : x21_1 < (l0.length : Int) := of_decide_eq_true (by assumption)
         obtain ⟨ad22002, A22002_1, c22002_1, e22002, hx22002_0, hx22002_1, hx22002_2, hl22002_1, hi22002_1⟩ := at_T25 HR0.out x21_1 p22002 q22002
         cases e22002
         replace hx22002_0 := (HB.out.cell (World.block_lt_of_cell? w _ hx22002_0)).trans hx22002_0
         replace hx22002_1 := (HB.out.cell (World.block_lt_of_cell? w _ hx22002_1)).trans hx22002_1
         replace hx22002_2 := (HB.out.cell (World.block_lt_of_cell? w _ hx22002_2)).trans hx22002_2
         have HR22002_1 := Aside0.mk hi22002_1
         have HC22002_1 := Aside0.mk hl22002_1
         clear hi22002_1 hl22002_1
         replace p22002 := eq_true p22002
         replace q22002 := eq_true q22002
         go_wp2_with (first | ((with_reducible refine gate_callee (f := 39) rfl ?_); refine goesL_ (some 28) rfl rfl Try.func39 (by kernel_rfl) rfl #[.agg #[.int .i64 ((rd_T25 l0 x21_1).f0), .slice A22002_1 ((rd_T25 l0 x21_1).f1).length c22002_1, .int .i64 ((rd_T25 l0 x21_1).f2)]] rfl (by (try simp only [List.map_toArray, List.map_cons, List.map_nil]); first | done | rfl | (simp only [List.length_drop, List.length_take]; rfl)) ?_; (with_reducible refine (sheet_one.calls k1 ((rd_T25 l0 x21_1).f0) _ _ ((rd_T25 l0 x21_1).f1) ((rd_T25 l0 x21_1).f2) t22003 _ ?side1 ?side2 A12.out).mono ?_); (case side1 => exact (Kd.C_below HR22002_1.out HB.out)); (case side2 => exact HC22002_1.out); rintro e w14 ⟨rfl, hb⟩; refine ⟨_, rfl, ?_⟩; have n0_ := Aside0.mk (blk_below (g := gb22001) (o := .cells #[.int .i64 x22002000_1, .slice none 0 0, .int .i64 x22002002_1] 25 (0, 0)) (BK22001.out) hb); have n1_ := Aside0.mk (below_step (by repeat (first | exact HB.out | apply below_alloc | apply pw_below_drewN | apply below_drew1 | refine below_set ?_ GE22001.out)) hb); clear BK22001; clear HB; have BK22001 := n0_; have HB := n1_; clear n0_ n1_; (try clear hb); (try clear hb2); (try clear hk); (try clear hi)))
         go_roundg k1
         case measure => have := HK1.out; omega
         case rel => exact ⟨(wrap64 (x21_1 + 1)), (x22002000_1), (x22002002_1), (by first | rfl | (simp; done) | (simp [*]; done)), H', ⟨by have := HK1.out; omega⟩, ⟨BK22001.out⟩, ⟨by repeat (first | exact HB.out | apply below_alloc | apply pw_below_drewN | apply below_drew1 | refine below_set ?_ GE22001.out)⟩⟩
        ·rw [if_neg c13] at H
         have c13b0 : (t22003 == 0) = false := beq_eq_false_iff_ne.mpr c13
         have c13b1 : (t22003 != 0) = true := bne_iff_ne.mpr c13
         simp only [Option.some.injEq, Prod.mk.injEq] at H
         obtain ⟨rfl, rfl, rfl, rfl⟩ := H
         have p22002 : 0 ≤ (x21_1 : Int) := of_decide_eq_true (by assumption)
         have q22002 : x21_1 < (l0.length : Int) := of_decide_eq_true (by assumption)
         obtain ⟨ad22002, A22002_1, c22002_1, e22002, hx22002_0, hx22002_1, hx22002_2, hl22002_1, hi22002_1⟩ := at_T25 HR0.out x21_1 p22002 q22002
         cases e22002
         replace hx22002_0 := (HB.out.cell (World.block_lt_of_cell? w _ hx22002_0)).trans hx22002_0
         replace hx22002_1 := (HB.out.cell (World.block_lt_of_cell? w _ hx22002_1)).trans hx22002_1
         replace hx22002_2 := (HB.out.cell (World.block_lt_of_cell? w _ hx22002_2)).trans hx22002_2
         have HR22002_1 := Aside0.mk hi22002_1
         have HC22002_1 := Aside0.mk hl22002_1
         clear hi22002_1 hl22002_1
         replace p22002 := eq_true p22002
         replace q22002 := eq_true q22002
         go_wp2_with (first | ((with_reducible refine gate_callee (f := 39) rfl ?_); refine goesL_ (some 28) rfl rfl Try.func39 (by kernel_rfl) rfl #[.agg #[.int .i64 ((rd_T25 l0 x21_1).f0), .slice A22002_1 ((rd_T25 l0 x21_1).f1).length c22002_1, .int .i64 ((rd_T25 l0 x21_1).f2)]] rfl (by (try simp only [List.map_toArray, List.map_cons, List.map_nil]); first | done | rfl | (simp only [List.length_drop, List.length_take]; rfl)) ?_; (with_reducible refine (sheet_one.calls k1 ((rd_T25 l0 x21_1).f0) _ _ ((rd_T25 l0 x21_1).f1) ((rd_T25 l0 x21_1).f2) t22003 _ ?side1 ?side2 A12.out).mono ?_); (case side1 => exact (Kd.C_below HR22002_1.out HB.out)); (case side2 => exact HC22002_1.out); rintro e w15 ⟨rfl, hb⟩; refine ⟨_, rfl, ?_⟩; have n0_ := Aside0.mk (blk_below (g := gb22001) (o := .cells #[.int .i64 x22002000_1, .slice none 0 0, .int .i64 x22002002_1] 25 (0, 0)) (BK22001.out) hb); have n1_ := Aside0.mk (below_step (by repeat (first | exact HB.out | apply below_alloc | apply pw_below_drewN | apply below_drew1 | refine below_set ?_ GE22001.out)) hb); clear BK22001; clear HB; have BK22001 := n0_; have HB := n1_; clear n0_ n1_; (try clear hb); (try clear hb2); (try clear hk); (try clear hi); have hcz16_0 : w15.cell? ⟨gb22001, 0, none⟩ = some (.int .i64 x22002000_1) := (blk_cell BK22001.out 0).trans rfl; have hcz16_1 : w15.cell? ⟨gb22001, 1, none⟩ = some (.slice none 0 0) := (blk_cell BK22001.out 1).trans rfl; have hcz16_2 : w15.cell? ⟨gb22001, 2, none⟩ = some (.int .i64 x22002002_1) := (blk_cell BK22001.out 2).trans rfl; have hfz16_0 := blk_frozen BK22001.out 0; have hfz16_1 := blk_frozen BK22001.out 1; have hfz16_2 := blk_frozen BK22001.out 2))
         refine bodyPost_ret (results_ct rfl _ _ gb22001 25 #[.int .i64 0, .slice none 0 0, .int .i64 0] (0, 0) _ rfl (by refine blk_put (cs := #[.int .i64 0, .slice none 0 0, .int .i64 x22002002_1]) ?_ 2 _ rfl; refine blk_put (cs := #[.int .i64 0, .slice none 0 0, .int .i64 x22002002_1]) ?_ 1 _ rfl; refine blk_put (cs := #[.int .i64 x22002000_1, .slice none 0 0, .int .i64 x22002002_1]) ?_ 0 _ rfl; exact BK22001.out) Try.underlying25 rfl (by kernel_rfl)) rfl ?_
         exact ⟨_, by first | rfl | (simp [errW_none, errW_some] <;> rfl) | (simp [*, errW_none, errW_some] <;> rfl), by first | exact Kd.R_nil _ _ _ _ _ | exact Kd.N_nil _ _ _ _ _ | exact Kd.V_nil _ _ _ _ _ | exact Kd.Q_nil _ _ _ _ _ | exact Kd.S_nil _ _ _ _ _, by repeat (first | exact HB.out | apply below_alloc | apply pw_below_drewN | apply below_drew1 | refine below_set ?_ GE22001.out)⟩
       ·rw [if_neg c11] at H
        exact absurd H (by simp)
      ·rw [if_neg c10] at H
       exact absurd H (by simp)
     ·rw [if_neg c9] at H
      have c9b0 : decide (x21_1 < (l0.length : Int)) = false := decide_eq_false c9
      clear c9
      by_cases c17 : 0 < (l0.length : Int)
      ·rw [if_pos c17] at H
       have c17b0 : decide (0 < (l0.length : Int)) = true := decide_eq_true c17
       have c17b1 : decide (0 < l0.length) = true := decide_eq_true (by omega)
       clear c17
       replace H := Option.bind_eq_some_iff.mp H
       obtain ⟨t22006, A180, H⟩ := H
       replace H : (sheet_Together.l1 k1 l0 (wrap64 ((l0.length : Int) - 1)) 0 ((rd_T25 l0 0).f0) t22006 0) = some (r1, r2, r3, r4) := H
       have A18 := Aside0.mk A180
       clear A180
       have H' := Aside0.mk H
       clear H
       try go_wp2
       have n0_ := Aside0.mk (blk_drew BK22001.out)
       have n1_ := Aside0.mk (below_drew1 HB.out)
       clear BK22001
       clear HB
       have BK22001 := n0_
       have HB := n1_
       clear n0_ n1_
       have p22004 : 0 ≤ (0 : Int) := (by omega)
       have q22004 : 0 < (l0.length : Int) := of_decide_eq_true (by assumption)
       obtain ⟨ad22004, A22004_1, c22004_1, e22004, hx22004_0, hx22004_1, hx22004_2, hl22004_1, hi22004_1⟩ := at_T25 HR0.out 0 p22004 q22004
       have hw22004_2 := hx22004_2
       (try rw [show ((0 : Int)).toNat = 0 from rfl] at hw22004_2)
       (try rw [show 0 * 3 = 0 from rfl] at hw22004_2)
       (try rw [Addr.add_zero'] at hw22004_2)
       have hw22004_1 := hx22004_1
       (try rw [show ((0 : Int)).toNat = 0 from rfl] at hw22004_1)
       (try rw [show 0 * 3 = 0 from rfl] at hw22004_1)
       (try rw [Addr.add_zero'] at hw22004_1)
       have hw22004_0 := hx22004_0
       (try rw [show ((0 : Int)).toNat = 0 from rfl] at hw22004_0)
       (try rw [show 0 * 3 = 0 from rfl] at hw22004_0)
       (try rw [Addr.add_zero'] at hw22004_0)
       cases e22004
       have qi22004 : (0 < l0.length) = True := eq_true (by omega)
       (try rw [show ((0 : Int)).toNat = 0 from rfl] at hx22004_0)
       (try rw [show 0 * 3 = 0 from rfl] at hx22004_0)
       (try rw [Addr.add_zero'] at hx22004_0)
       (try rw [show ((0 : Int)).toNat = 0 from rfl] at hx22004_1)
       (try rw [show 0 * 3 = 0 from rfl] at hx22004_1)
       (try rw [Addr.add_zero'] at hx22004_1)
       (try rw [show ((0 : Int)).toNat = 0 from rfl] at hx22004_2)
       (try rw [show 0 * 3 = 0 from rfl] at hx22004_2)
       (try rw [Addr.add_zero'] at hx22004_2)
       replace hx22004_0 := (HB.out.cell (World.block_lt_of_cell? w _ hx22004_0)).trans hx22004_0
       replace hx22004_1 := (HB.out.cell (World.block_lt_of_cell? w _ hx22004_1)).trans hx22004_1
       replace hx22004_2 := (HB.out.cell (World.block_lt_of_cell? w _ hx22004_2)).trans hx22004_2
       have HR22004_1 := Aside0.mk hi22004_1
       have HC22004_1 := Aside0.mk hl22004_1
       clear hi22004_1 hl22004_1
       replace p22004 := eq_true p22004
       replace q22004 := eq_true q22004
       have p22005 : 0 ≤ (0 : Int) := (by omega)
       have q22005 : 0 < (l0.length : Int) := of_decide_eq_true (by assumption)
       obtain ⟨ad22005, A22005_1, c22005_1, e22005, hx22005_0, hx22005_1, hx22005_2, hl22005_1, hi22005_1⟩ := at_T25 HR0.out 0 p22005 q22005
       have hw22005_2 := hx22005_2
       (try rw [show ((0 : Int)).toNat = 0 from rfl] at hw22005_2)
       (try rw [show 0 * 3 = 0 from rfl] at hw22005_2)
       (try rw [Addr.add_zero'] at hw22005_2)
       have hw22005_1 := hx22005_1
       (try rw [show ((0 : Int)).toNat = 0 from rfl] at hw22005_1)
       (try rw [show 0 * 3 = 0 from rfl] at hw22005_1)
       (try rw [Addr.add_zero'] at hw22005_1)
       have hw22005_0 := hx22005_0
       (try rw [show ((0 : Int)).toNat = 0 from rfl] at hw22005_0)
       (try rw [show 0 * 3 = 0 from rfl] at hw22005_0)
       (try rw [Addr.add_zero'] at hw22005_0)
       obtain rfl : ad22004 = ad22005 := (by injection e22005)
       have qi22005 : (0 < l0.length) = True := eq_true (by omega)
       (try rw [show ((0 : Int)).toNat = 0 from rfl] at hx22005_0)
       (try rw [show 0 * 3 = 0 from rfl] at hx22005_0)
       (try rw [Addr.add_zero'] at hx22005_0)
       (try rw [show ((0 : Int)).toNat = 0 from rfl] at hx22005_1)
       (try rw [show 0 * 3 = 0 from rfl] at hx22005_1)
       (try rw [Addr.add_zero'] at hx22005_1)
       (try rw [show ((0 : Int)).toNat = 0 from rfl] at hx22005_2)
       (try rw [show 0 * 3 = 0 from rfl] at hx22005_2)
       (try rw [Addr.add_zero'] at hx22005_2)
       replace hx22005_0 := (HB.out.cell (World.block_lt_of_cell? w _ hx22005_0)).trans hx22005_0
       replace hx22005_1 := (HB.out.cell (World.block_lt_of_cell? w _ hx22005_1)).trans hx22005_1
       replace hx22005_2 := (HB.out.cell (World.block_lt_of_cell? w _ hx22005_2)).trans hx22005_2
       have HR22005_1 := Aside0.mk hi22005_1
       have HC22005_1 := Aside0.mk hl22005_1
       clear hi22005_1 hl22005_1
       replace p22005 := eq_true p22005
       replace q22005 := eq_true q22005
       have ea_ := Option.some.inj (hx22004_1.symm.trans hx22005_1)
       injection ea_ with ea_ en_ ec_
       subst ea_
       subst ec_
       clear en_
       refine start_ (n := 12) (S := fun w' => w'.cell? ad22004 = some (.int .i64 ((rd_T25 l0 0).f0)) ∧ w'.cell? ⟨ad22004.block, ad22004.off + 1, none⟩ = some (.slice A22004_1 ((rd_T25 l0 0).f1).length c22004_1) ∧ w'.cell? ⟨ad22004.block, ad22004.off + 2, none⟩ = some (.int .i64 ((rd_T25 l0 0).f2)) ∧ w'.cell? ad22004 = some (.int .i64 ((rd_T25 l0 0).f0)) ∧ w'.cell? ⟨ad22004.block, ad22004.off + 1, none⟩ = some (.slice A22004_1 ((rd_T25 l0 0).f1).length c22004_1) ∧ w'.cell? ⟨ad22004.block, ad22004.off + 2, none⟩ = some (.int .i64 ((rd_T25 l0 0).f2))) (ds := []) #[false, false, false, false, false, false, false, false, false, false, false, false] (by kernel_rfl) rfl rfl ⟨((HB.out.cell (World.block_lt_of_cell? w _ hw22004_0)).trans hw22004_0), ((HB.out.cell (World.block_lt_of_cell? w _ hw22004_1)).trans hw22004_1), ((HB.out.cell (World.block_lt_of_cell? w _ hw22004_2)).trans hw22004_2), ((HB.out.cell (World.block_lt_of_cell? w _ hw22005_0)).trans hw22005_0), ((HB.out.cell (World.block_lt_of_cell? w _ hw22005_1)).trans hw22005_1), ((HB.out.cell (World.block_lt_of_cell? w _ hw22005_2)).trans hw22005_2)⟩ (fun hHeld => ?_); refine with_tabW sheet_Together.tab12 sheet_Together.bits12 (fun HT_ HW_ => ?_)
       generalize wr.drew = w19 at BK22001 HB HR22004_1 HR22005_1 hx22004_0 hx22004_1 hx22004_2 hx22005_0 hx22005_1 hx22005_2 hHeld ⊢
       refine pure_ (i := 0) (N := some 34) (v := ?_) (a' := ?_) #[true, false, false, false, false, false, false, false, false, false, false, false] rfl rfl (any_of HT_.out (by kernel_rfl)) (fun _ _ _ h => h) (Or.inl ⟨by rfl, ?_⟩) ?_ ?_
       rotate_left
       ·intro w'
        go_simp
        with_reducible rfl
       rotate_left
       ·simp only [Act.put, List.setIfInBounds_toArray, List.set_cons_zero, List.set_cons_succ, i64_w, i32_w]
        rfl
       refine pure_ (i := 1) (N := some 35) (v := ?_) (a' := ?_) #[true, true, false, false, false, false, false, false, false, false, false, false] rfl rfl (any_of HT_.out (by kernel_rfl)) (fun _ _ _ h => h) (Or.inl ⟨by rfl, ?_⟩) ?_ ?_
       rotate_left
       ·intro w'
        go_simp
        with_reducible rfl
       rotate_left
       ·simp only [Act.put, List.setIfInBounds_toArray, List.set_cons_zero, List.set_cons_succ, i64_w, i32_w]
        rfl
       refine pure_ (i := 2) (N := some 36) (v := ?_) (a' := ?_) #[true, true, true, false, false, false, false, false, false, false, false, false] rfl rfl (any_of HT_.out (by kernel_rfl)) (fun _ _ _ h => h) (Or.inl ⟨by rfl, ?_⟩) ?_ ?_
       rotate_left
       ·intro w'
        go_simp
        with_reducible rfl
       rotate_left
       ·simp only [Act.put, List.setIfInBounds_toArray, List.set_cons_zero, List.set_cons_succ, i64_w, i32_w]
        rfl
       refine pure_ (i := 4) (N := some 38) (v := ?_) (a' := ?_) #[true, true, true, false, true, false, false, false, false, false, false, false] rfl rfl (any_of HT_.out (by kernel_rfl)) (fun _ _ _ h => h) (Or.inl ⟨by rfl, ?_⟩) ?_ ?_
       rotate_left
       ·intro w'
        go_simp
        with_reducible rfl
       rotate_left
       ·simp only [Act.put, List.setIfInBounds_toArray, List.set_cons_zero, List.set_cons_succ, i64_w, i32_w]
        rfl
       refine pure_ (i := 5) (N := some 39) (v := ?_) (a' := ?_) #[true, true, true, false, true, true, false, false, false, false, false, false] rfl rfl (any_of HT_.out (by kernel_rfl)) (fun _ _ _ h => h) (Or.inl ⟨by rfl, ?_⟩) ?_ ?_
       rotate_left
       ·intro w'
        go_simp
        with_reducible rfl
       rotate_left
       ·simp only [Act.put, List.setIfInBounds_toArray, List.set_cons_zero, List.set_cons_succ, i64_w, i32_w]
        rfl
       refine pure_ (i := 6) (N := some 40) (v := ?_) (a' := ?_) #[true, true, true, false, true, true, true, false, false, false, false, false] rfl rfl (any_of HT_.out (by kernel_rfl)) (fun _ _ _ h => h) (Or.inl ⟨by rfl, ?_⟩) ?_ ?_
       rotate_left
       ·intro w'
        go_simp
        with_reducible rfl
       rotate_left
       ·simp only [Act.put, List.setIfInBounds_toArray, List.set_cons_zero, List.set_cons_succ, i64_w, i32_w]
        rfl
       refine take_ (i := 3) (N := some 37) (v := ?_) (a' := ?_) #[true, true, true, true, true, true, true, false, false, false, false, false] rfl rfl (take_ofW HT_.out HW_.out (by kernel_rfl)) (fun _ _ _ h => h) (Or.inl ⟨by rfl, ?_⟩) hHeld ?_ ?_
       rotate_left
       ·rintro w' ⟨s0, s1, s2, s3, s4, s5⟩
        go_simp
        with_reducible rfl
       rotate_left
       ·simp only [Act.put, List.setIfInBounds_toArray, List.set_cons_zero, List.set_cons_succ, i64_w, i32_w]
        rfl
       refine take_ (i := 7) (N := some 41) (v := ?_) (a' := ?_) #[true, true, true, true, true, true, true, true, false, false, false, false] rfl rfl (take_ofW HT_.out HW_.out (by kernel_rfl)) (fun _ _ _ h => h) (Or.inl ⟨by rfl, ?_⟩) hHeld ?_ ?_
       rotate_left
       ·rintro w' ⟨s0, s1, s2, s3, s4, s5⟩
        go_simp
        with_reducible rfl
       rotate_left
       ·simp only [Act.put, List.setIfInBounds_toArray, List.set_cons_zero, List.set_cons_succ, i64_w, i32_w]
        rfl
       refine join_ (σ := Value × Nat) 1 #[true, true, true, true, true, true, true, true, true, true, true, false] (fun s_ => [(42, s_.1), (6, .pointer (some ⟨s_.2, 0, none⟩)), (43, .agg #[.int .i64 ((rd_T25 l0 0).f0), s_.1, .int .i64 0])]) (fun s_ w' => (w'.cell? ad22004 = some (.int .i64 ((rd_T25 l0 0).f0)) ∧ w'.cell? ⟨ad22004.block, ad22004.off + 1, none⟩ = some (.slice A22004_1 ((rd_T25 l0 0).f1).length c22004_1) ∧ w'.cell? ⟨ad22004.block, ad22004.off + 2, none⟩ = some (.int .i64 ((rd_T25 l0 0).f2)) ∧ w'.cell? ad22004 = some (.int .i64 ((rd_T25 l0 0).f0)) ∧ w'.cell? ⟨ad22004.block, ad22004.off + 1, none⟩ = some (.slice A22004_1 ((rd_T25 l0 0).f1).length c22004_1) ∧ w'.cell? ⟨ad22004.block, ad22004.off + 2, none⟩ = some (.int .i64 ((rd_T25 l0 0).f2))) ∧ (Kd.R k50 50 w' w.heap.size (fun _ => True) s_.1 t22006) ∧ (w'.heap[gb22001]? = some (.cells #[.int .i64 x22002000_1, .slice none 0 0, .int .i64 x22002002_1] 25 (0, 0))) ∧ (w'.heap[s_.2]? = some (.cells #[.int .i64 0, .slice none 0 0, .int .i64 0] 25 (0, 0))) ∧ (w.heap.size ≤ s_.2) ∧ (w.heap.size ≤ s_.2) ∧ (gb22001 ≠ s_.2) ∧ (s_.2 ≠ gb22001) ∧ (Below w.heap.size w w')) ?_ ?_
       rotate_left
       ·intro hCont
        refine two_ (i := 8) (j := 10) (Ni := some 42) (Nj := some 6) #[true, true, true, true, true, true, true, true, true, false, false, false] #[true, true, true, true, true, true, true, true, false, false, true, false] rfl rfl rfl rfl (two_of HT_.out (by kernel_rfl)) (by decide) (by decide) (fun K hK => ?_) (fun K hK => ?_)
        ·skip
         refine goes_ Try.func40 (by kernel_rfl) rfl #[.slice A22004_1 ((rd_T25 l0 0).f1).length c22004_1] (by rfl) rfl rfl (by (try simp only [List.map_toArray, List.map_cons, List.map_nil]); first | done | rfl | (simp only [List.length_drop, List.length_take]; rfl)) ?_
         with_reducible refine (slices_Clone_api_Span_api_Span.calls _ _ ((rd_T25 l0 0).f1) t22006 _ ?side1 ?side2 A18.out).mono ?_
         (case side1 => exact (Kd.C_below HR22005_1.out HB.out))
         (case side2 => exact HC22005_1.out)
         rintro e w20 ⟨v22007, rfl, ho0, hb⟩
         refine ⟨_, rfl, ?_⟩
         have n0_ := Aside0.mk (Kd.R_lower ho0 (below_size (by repeat (first | exact HB.out | apply below_alloc | apply pw_below_drewN | apply below_drew1 | refine below_set ?_ GE22001.out))))
         have n1_ := Aside0.mk (blk_below (g := gb22001) (o := .cells #[.int .i64 x22002000_1, .slice none 0 0, .int .i64 x22002002_1] 25 (0, 0)) (BK22001.out) hb)
         have n2_ := Aside0.mk (below_step (by repeat (first | exact HB.out | apply below_alloc | apply pw_below_drewN | apply below_drew1 | refine below_set ?_ GE22001.out)) hb)
         clear BK22001
         clear HB
         have HO22008 := n0_
         have BK22001 := n1_
         have HB := n2_
         clear n0_ n1_ n2_
         (try clear hb)
         (try clear hb2)
         (try clear hk)
         (try clear hi)
         (try clear ho0)
         obtain ⟨Ao21, co21, eo21⟩ := Kd.R_slice HO22008.out
         (first | subst eo21 | (injection eo21 with f1_ f2_ f3_; have f4_ := f1_.symm; have f5_ := f3_.symm; clear f1_ f2_ f3_; subst f4_; subst f5_))
         refine hK.out _ _ ⟨((HB.out.cell (World.block_lt_of_cell? w _ hw22004_0)).trans hw22004_0), ((HB.out.cell (World.block_lt_of_cell? w _ hw22004_1)).trans hw22004_1), ((HB.out.cell (World.block_lt_of_cell? w _ hw22004_2)).trans hw22004_2), ((HB.out.cell (World.block_lt_of_cell? w _ hw22005_0)).trans hw22005_0), ((HB.out.cell (World.block_lt_of_cell? w _ hw22005_1)).trans hw22005_1), ((HB.out.cell (World.block_lt_of_cell? w _ hw22005_2)).trans hw22005_2)⟩ (fun hHeld => ?_)
         clear hK K
         refine norm_ (a' := ?_) ?_ ?_
         rotate_left
         ·show Act.put _ (some 42) _ = _
          simp only [Act.put, List.setIfInBounds_toArray, List.set_cons_zero, List.set_cons_succ, i64_w, i32_w]
          rfl
         refine pure_ (i := 9) (N := some 43) (v := ?_) (a' := ?_) #[true, true, true, true, true, true, true, true, true, true, false, false] rfl rfl (any_of HT_.out (by kernel_rfl)) (fun _ _ _ h => h) (Or.inl ⟨by rfl, ?_⟩) ?_ ?_
         rotate_left
         ·intro w'
          go_simp
          with_reducible rfl
         rotate_left
         ·simp only [Act.put, List.setIfInBounds_toArray, List.set_cons_zero, List.set_cons_succ, i64_w, i32_w]
          rfl
         refine one_ (i := 10) (N := some 6) #[true, true, true, true, true, true, true, true, true, true, true, false] rfl rfl (one_of HT_.out (by kernel_rfl)) (by decide) (fun K hK => ?_)
         refine box_step ?hg (N := 6) ?hd (cs := #[.int .i64 0, .slice none 0 0, .int .i64 0]) (t := 25) ?hr ?_; (case hd => rfl); (case hg => rfl); (case hr => first | (go_simp; done) | (go_simp; rfl))
         intro gb22009 hg w22 hbox hb
         have n0_ := Aside0.mk (Kd.R_below (HO22008.out) hb)
         have n1_ := Aside0.mk (blk_below (g := gb22001) (o := .cells #[.int .i64 x22002000_1, .slice none 0 0, .int .i64 x22002002_1] 25 (0, 0)) (BK22001.out) hb)
         have n2_ := Aside0.mk (below_step (by repeat (first | exact HB.out | apply below_alloc | apply pw_below_drewN | apply below_drew1 | refine below_set ?_ GE22001.out)) hb)
         have n3_ := Aside0.mk (hbox)
         have n4_ := Aside0.mk ((by rw [hg]; exact (below_size (by repeat (first | exact HB.out | apply below_alloc | apply pw_below_drewN | apply below_drew1 | refine below_set ?_ GE22001.out))) : w.heap.size ≤ gb22009))
         have n5_ := Aside0.mk ((by rw [hg]; exact (below_size (by repeat (first | exact HB.out | apply below_alloc | apply pw_below_drewN | apply below_drew1 | refine below_set ?_ GE22001.out))) : w.heap.size ≤ gb22009))
         have n6_ := Aside0.mk ((by rw [hg]; exact Nat.ne_of_lt (blk_lt (g := gb22001) (o := .cells #[.int .i64 x22002000_1, .slice none 0 0, .int .i64 x22002002_1] 25 (0, 0)) (BK22001.out)) : gb22001 ≠ gb22009))
         have n7_ := Aside0.mk ((by rw [hg]; exact Nat.ne_of_gt (blk_lt (g := gb22001) (o := .cells #[.int .i64 x22002000_1, .slice none 0 0, .int .i64 x22002002_1] 25 (0, 0)) (BK22001.out)) : gb22009 ≠ gb22001))
         clear HO22008
         clear BK22001
         clear HB
         have HO22008 := n0_
         have BK22001 := n1_
         have HB := n2_
         have BK22009 := n3_
         have GW22009 := n4_
         have GE22009 := n5_
         have NB22001_22009 := n6_
         have NB22009_22001 := n7_
         clear n0_ n1_ n2_ n3_ n4_ n5_ n6_ n7_
         clear hb hbox hg
         refine hK.out _ _ ⟨((HB.out.cell (World.block_lt_of_cell? w _ hw22004_0)).trans hw22004_0), ((HB.out.cell (World.block_lt_of_cell? w _ hw22004_1)).trans hw22004_1), ((HB.out.cell (World.block_lt_of_cell? w _ hw22004_2)).trans hw22004_2), ((HB.out.cell (World.block_lt_of_cell? w _ hw22005_0)).trans hw22005_0), ((HB.out.cell (World.block_lt_of_cell? w _ hw22005_1)).trans hw22005_1), ((HB.out.cell (World.block_lt_of_cell? w _ hw22005_2)).trans hw22005_2)⟩ (fun hHeld => ?_)
         clear hK K
         refine norm_ (a' := ?_) ?_ ?_
         rotate_left
         ·show Act.put _ (some 6) _ = _
          simp only [Act.put, List.setIfInBounds_toArray, List.set_cons_zero, List.set_cons_succ, i64_w, i32_w]
          rfl
         exact norm_ (by simp only [putAll, Act.put, List.setIfInBounds_toArray, List.set_cons_zero, List.set_cons_succ]) (hCont (.slice Ao21 t22006.length co21, gb22009) _ ⟨hHeld, (HO22008.out), (BK22001.out), (BK22009.out), GW22009.out, GE22009.out, NB22001_22009.out, NB22009_22001.out, (by repeat (first | exact HB.out | apply below_alloc | apply pw_below_drewN | apply below_drew1 | refine below_set ?_ GE22001.out | refine below_set ?_ GE22009.out))⟩)
        ·skip
         refine box_step ?hg (N := 6) ?hd (cs := #[.int .i64 0, .slice none 0 0, .int .i64 0]) (t := 25) ?hr ?_; (case hd => rfl); (case hg => rfl); (case hr => first | (go_simp; done) | (go_simp; rfl))
         intro gb22009 hg w20 hbox hb
         have n0_ := Aside0.mk (blk_below (g := gb22001) (o := .cells #[.int .i64 x22002000_1, .slice none 0 0, .int .i64 x22002002_1] 25 (0, 0)) (BK22001.out) hb)
         have n1_ := Aside0.mk (below_step (by repeat (first | exact HB.out | apply below_alloc | apply pw_below_drewN | apply below_drew1 | refine below_set ?_ GE22001.out)) hb)
         have n2_ := Aside0.mk (hbox)
         have n3_ := Aside0.mk ((by rw [hg]; exact (below_size (by repeat (first | exact HB.out | apply below_alloc | apply pw_below_drewN | apply below_drew1 | refine below_set ?_ GE22001.out))) : w.heap.size ≤ gb22009))
         have n4_ := Aside0.mk ((by rw [hg]; exact (below_size (by repeat (first | exact HB.out | apply below_alloc | apply pw_below_drewN | apply below_drew1 | refine below_set ?_ GE22001.out))) : w.heap.size ≤ gb22009))
         have n5_ := Aside0.mk ((by rw [hg]; exact Nat.ne_of_lt (blk_lt (g := gb22001) (o := .cells #[.int .i64 x22002000_1, .slice none 0 0, .int .i64 x22002002_1] 25 (0, 0)) (BK22001.out)) : gb22001 ≠ gb22009))
         have n6_ := Aside0.mk ((by rw [hg]; exact Nat.ne_of_gt (blk_lt (g := gb22001) (o := .cells #[.int .i64 x22002000_1, .slice none 0 0, .int .i64 x22002002_1] 25 (0, 0)) (BK22001.out)) : gb22009 ≠ gb22001))
         clear BK22001
         clear HB
         have BK22001 := n0_
         have HB := n1_
         have BK22009 := n2_
         have GW22009 := n3_
         have GE22009 := n4_
         have NB22001_22009 := n5_
         have NB22009_22001 := n6_
         clear n0_ n1_ n2_ n3_ n4_ n5_ n6_
         clear hb hbox hg
         refine hK.out _ _ ⟨((HB.out.cell (World.block_lt_of_cell? w _ hw22004_0)).trans hw22004_0), ((HB.out.cell (World.block_lt_of_cell? w _ hw22004_1)).trans hw22004_1), ((HB.out.cell (World.block_lt_of_cell? w _ hw22004_2)).trans hw22004_2), ((HB.out.cell (World.block_lt_of_cell? w _ hw22005_0)).trans hw22005_0), ((HB.out.cell (World.block_lt_of_cell? w _ hw22005_1)).trans hw22005_1), ((HB.out.cell (World.block_lt_of_cell? w _ hw22005_2)).trans hw22005_2)⟩ (fun hHeld => ?_)
         clear hK K
         refine norm_ (a' := ?_) ?_ ?_
         rotate_left
         ·show Act.put _ (some 6) _ = _
          simp only [Act.put, List.setIfInBounds_toArray, List.set_cons_zero, List.set_cons_succ, i64_w, i32_w]
          rfl
         refine one_ (i := 8) (N := some 42) #[true, true, true, true, true, true, true, true, true, false, true, false] rfl rfl (one_of HT_.out (by kernel_rfl)) (by decide) (fun K hK => ?_)
         refine goes_ Try.func40 (by kernel_rfl) rfl #[.slice A22004_1 ((rd_T25 l0 0).f1).length c22004_1] (by rfl) rfl rfl (by (try simp only [List.map_toArray, List.map_cons, List.map_nil]); first | done | rfl | (simp only [List.length_drop, List.length_take]; rfl)) ?_
         with_reducible refine (slices_Clone_api_Span_api_Span.calls _ _ ((rd_T25 l0 0).f1) t22006 _ ?side1 ?side2 A18.out).mono ?_
         (case side1 => exact (Kd.C_below HR22005_1.out HB.out))
         (case side2 => exact HC22005_1.out)
         rintro e w21 ⟨v22007, rfl, ho0, hb⟩
         refine ⟨_, rfl, ?_⟩
         have n0_ := Aside0.mk (Kd.R_lower ho0 (below_size (by repeat (first | exact HB.out | apply below_alloc | apply pw_below_drewN | apply below_drew1 | refine below_set ?_ GE22001.out | refine below_set ?_ GE22009.out))))
         have n1_ := Aside0.mk (blk_below (g := gb22001) (o := .cells #[.int .i64 x22002000_1, .slice none 0 0, .int .i64 x22002002_1] 25 (0, 0)) (BK22001.out) hb)
         have n2_ := Aside0.mk (blk_below (g := gb22009) (o := .cells #[.int .i64 0, .slice none 0 0, .int .i64 0] 25 (0, 0)) (BK22009.out) hb)
         have n3_ := Aside0.mk (below_step (by repeat (first | exact HB.out | apply below_alloc | apply pw_below_drewN | apply below_drew1 | refine below_set ?_ GE22001.out | refine below_set ?_ GE22009.out)) hb)
         clear BK22001
         clear BK22009
         clear HB
         have HO22008 := n0_
         have BK22001 := n1_
         have BK22009 := n2_
         have HB := n3_
         clear n0_ n1_ n2_ n3_
         (try clear hb)
         (try clear hb2)
         (try clear hk)
         (try clear hi)
         (try clear ho0)
         obtain ⟨Ao22, co22, eo22⟩ := Kd.R_slice HO22008.out
         (first | subst eo22 | (injection eo22 with f1_ f2_ f3_; have f4_ := f1_.symm; have f5_ := f3_.symm; clear f1_ f2_ f3_; subst f4_; subst f5_))
         refine hK.out _ _ ⟨((HB.out.cell (World.block_lt_of_cell? w _ hw22004_0)).trans hw22004_0), ((HB.out.cell (World.block_lt_of_cell? w _ hw22004_1)).trans hw22004_1), ((HB.out.cell (World.block_lt_of_cell? w _ hw22004_2)).trans hw22004_2), ((HB.out.cell (World.block_lt_of_cell? w _ hw22005_0)).trans hw22005_0), ((HB.out.cell (World.block_lt_of_cell? w _ hw22005_1)).trans hw22005_1), ((HB.out.cell (World.block_lt_of_cell? w _ hw22005_2)).trans hw22005_2)⟩ (fun hHeld => ?_)
         clear hK K
         refine norm_ (a' := ?_) ?_ ?_
         rotate_left
         ·show Act.put _ (some 42) _ = _
          simp only [Act.put, List.setIfInBounds_toArray, List.set_cons_zero, List.set_cons_succ, i64_w, i32_w]
          rfl
         refine pure_ (i := 9) (N := some 43) (v := ?_) (a' := ?_) #[true, true, true, true, true, true, true, true, true, true, true, false] rfl rfl (any_of HT_.out (by kernel_rfl)) (fun _ _ _ h => h) (Or.inl ⟨by rfl, ?_⟩) ?_ ?_
         rotate_left
         ·intro w'
          go_simp
          with_reducible rfl
         rotate_left
         ·simp only [Act.put, List.setIfInBounds_toArray, List.set_cons_zero, List.set_cons_succ, i64_w, i32_w]
          rfl
         exact norm_ (by simp only [putAll, Act.put, List.setIfInBounds_toArray, List.set_cons_zero, List.set_cons_succ]) (hCont (.slice Ao22 t22006.length co22, gb22009) _ ⟨hHeld, (HO22008.out), (BK22001.out), (BK22009.out), GW22009.out, GE22009.out, NB22001_22009.out, NB22009_22001.out, (by repeat (first | exact HB.out | apply below_alloc | apply pw_below_drewN | apply below_drew1 | refine below_set ?_ GE22001.out | refine below_set ?_ GE22009.out))⟩)
       rintro ⟨v22007, gb22009⟩ w23 ⟨hS_, h0_, h1_, h2_, h3_, h4_, h5_, h6_, h7_⟩
       have n0_ : Aside0 (Kd.R k50 50 w23 w.heap.size (fun _ => True) v22007 t22006) := ⟨h0_⟩
       have n1_ : Aside0 (w23.heap[gb22001]? = some (.cells #[.int .i64 x22002000_1, .slice none 0 0, .int .i64 x22002002_1] 25 (0, 0))) := ⟨h1_⟩
       have n2_ : Aside0 (w23.heap[gb22009]? = some (.cells #[.int .i64 0, .slice none 0 0, .int .i64 0] 25 (0, 0))) := ⟨h2_⟩
       have n3_ : Aside0 (w.heap.size ≤ gb22009) := ⟨h3_⟩
       have n4_ : Aside0 (w.heap.size ≤ gb22009) := ⟨h4_⟩
       have n5_ : Aside0 (gb22001 ≠ gb22009) := ⟨h5_⟩
       have n6_ : Aside0 (gb22009 ≠ gb22001) := ⟨h6_⟩
       have n7_ : Aside0 (Below w.heap.size w w23) := ⟨h7_⟩
       clear BK22001
       clear HB
       clear h0_ h1_ h2_ h3_ h4_ h5_ h6_ h7_
       have HO22008 := n0_
       have BK22001 := n1_
       have BK22009 := n2_
       have GW22009 := n3_
       have GE22009 := n4_
       have NB22001_22009 := n5_
       have NB22009_22001 := n6_
       have HB := n7_
       clear n0_ n1_ n2_ n3_ n4_ n5_ n6_ n7_
       have hHeld : w23.cell? ad22004 = some (.int .i64 ((rd_T25 l0 0).f0)) ∧ w23.cell? ⟨ad22004.block, ad22004.off + 1, none⟩ = some (.slice A22004_1 ((rd_T25 l0 0).f1).length c22004_1) ∧ w23.cell? ⟨ad22004.block, ad22004.off + 2, none⟩ = some (.int .i64 ((rd_T25 l0 0).f2)) ∧ w23.cell? ad22004 = some (.int .i64 ((rd_T25 l0 0).f0)) ∧ w23.cell? ⟨ad22004.block, ad22004.off + 1, none⟩ = some (.slice A22004_1 ((rd_T25 l0 0).f1).length c22004_1) ∧ w23.cell? ⟨ad22004.block, ad22004.off + 2, none⟩ = some (.int .i64 ((rd_T25 l0 0).f2)) := hS_
       obtain ⟨Ao24, co24, eo24⟩ := Kd.R_slice HO22008.out
       (first | subst eo24 | (injection eo24 with f1_ f2_ f3_; have f4_ := f1_.symm; have f5_ := f3_.symm; clear f1_ f2_ f3_; subst f4_; subst f5_))
       refine norm_ (a' := ?_) ?_ ?_
       rotate_left
       ·simp only [putAll, Act.put, List.setIfInBounds_toArray, List.set_cons_zero, List.set_cons_succ]
        rfl
       refine one_ (i := 11) (N := none) #[true, true, true, true, true, true, true, true, true, true, true, true] rfl rfl (one_of HT_.out (by kernel_rfl)) (by decide) (fun K hK => ?_)
       have hs25 : w23.cell? ⟨gb22009, 0, none⟩ = some (.int .i64 0) := (blk_cell BK22009.out 0).trans rfl
       have hfs25 := blk_frozen BK22009.out 0
       have hns25_0 := NB22001_22009.out
       have hms25_0 := NB22009_22001.out
       have hs26 : w23.cell? ⟨gb22009, 1, none⟩ = some (.slice none 0 0) := (blk_cell BK22009.out 1).trans rfl
       have hfs26 := blk_frozen BK22009.out 1
       have hns26_0 := NB22001_22009.out
       have hms26_0 := NB22009_22001.out
       have hs27 : w23.cell? ⟨gb22009, 2, none⟩ = some (.int .i64 0) := (blk_cell BK22009.out 2).trans rfl
       have hfs27 := blk_frozen BK22009.out 2
       have hns27_0 := NB22001_22009.out
       have hms27_0 := NB22009_22001.out
       refine skip_ (w1 := ?_) (by rfl) rfl ?_ ?_
       rotate_left
       ·go_simp
        rfl
       refine hK.out _ _ ⟨((cell_far (p := ⟨gb22009, _, none⟩) (by first | exact Nat.ne_of_lt (Nat.lt_of_lt_of_le (by have := World.block_lt_of_cell? _ _ hw22004_0; first | rwa [add_block] at this | exact this) GW22009.out) | (rw [add_block]; exact Nat.ne_of_lt (Nat.lt_of_lt_of_le (by have := World.block_lt_of_cell? _ _ hw22004_0; first | rwa [add_block] at this | exact this) GW22009.out)) | (show (Addr.add _ _).block ≠ _; rw [add_block]; exact Nat.ne_of_lt (Nat.lt_of_lt_of_le (by have := World.block_lt_of_cell? _ _ hw22004_0; first | rwa [add_block] at this | exact this) GW22009.out)) | (dsimp only; exact Nat.ne_of_lt (Nat.lt_of_lt_of_le (by have := World.block_lt_of_cell? _ _ hw22004_0; first | rwa [add_block] at this | exact this) GW22009.out))) _).trans (((cell_far (p := ⟨gb22009, _, none⟩) (by first | exact Nat.ne_of_lt (Nat.lt_of_lt_of_le (by have := World.block_lt_of_cell? _ _ hw22004_0; first | rwa [add_block] at this | exact this) GW22009.out) | (rw [add_block]; exact Nat.ne_of_lt (Nat.lt_of_lt_of_le (by have := World.block_lt_of_cell? _ _ hw22004_0; first | rwa [add_block] at this | exact this) GW22009.out)) | (show (Addr.add _ _).block ≠ _; rw [add_block]; exact Nat.ne_of_lt (Nat.lt_of_lt_of_le (by have := World.block_lt_of_cell? _ _ hw22004_0; first | rwa [add_block] at this | exact this) GW22009.out)) | (dsimp only; exact Nat.ne_of_lt (Nat.lt_of_lt_of_le (by have := World.block_lt_of_cell? _ _ hw22004_0; first | rwa [add_block] at this | exact this) GW22009.out))) _).trans (((cell_far (p := ⟨gb22009, _, none⟩) (by first | exact Nat.ne_of_lt (Nat.lt_of_lt_of_le (by have := World.block_lt_of_cell? _ _ hw22004_0; first | rwa [add_block] at this | exact this) GW22009.out) | (rw [add_block]; exact Nat.ne_of_lt (Nat.lt_of_lt_of_le (by have := World.block_lt_of_cell? _ _ hw22004_0; first | rwa [add_block] at this | exact this) GW22009.out)) | (show (Addr.add _ _).block ≠ _; rw [add_block]; exact Nat.ne_of_lt (Nat.lt_of_lt_of_le (by have := World.block_lt_of_cell? _ _ hw22004_0; first | rwa [add_block] at this | exact this) GW22009.out)) | (dsimp only; exact Nat.ne_of_lt (Nat.lt_of_lt_of_le (by have := World.block_lt_of_cell? _ _ hw22004_0; first | rwa [add_block] at this | exact this) GW22009.out))) _).trans (hHeld.1)))))), ((cell_far (p := ⟨gb22009, _, none⟩) (by first | exact Nat.ne_of_lt (Nat.lt_of_lt_of_le (by have := World.block_lt_of_cell? _ _ hw22004_1; first | rwa [add_block] at this | exact this) GW22009.out) | (rw [add_block]; exact Nat.ne_of_lt (Nat.lt_of_lt_of_le (by have := World.block_lt_of_cell? _ _ hw22004_1; first | rwa [add_block] at this | exact this) GW22009.out)) | (show (Addr.add _ _).block ≠ _; rw [add_block]; exact Nat.ne_of_lt (Nat.lt_of_lt_of_le (by have := World.block_lt_of_cell? _ _ hw22004_1; first | rwa [add_block] at this | exact this) GW22009.out)) | (dsimp only; exact Nat.ne_of_lt (Nat.lt_of_lt_of_le (by have := World.block_lt_of_cell? _ _ hw22004_1; first | rwa [add_block] at this | exact this) GW22009.out))) _).trans (((cell_far (p := ⟨gb22009, _, none⟩) (by first | exact Nat.ne_of_lt (Nat.lt_of_lt_of_le (by have := World.block_lt_of_cell? _ _ hw22004_1; first | rwa [add_block] at this | exact this) GW22009.out) | (rw [add_block]; exact Nat.ne_of_lt (Nat.lt_of_lt_of_le (by have := World.block_lt_of_cell? _ _ hw22004_1; first | rwa [add_block] at this | exact this) GW22009.out)) | (show (Addr.add _ _).block ≠ _; rw [add_block]; exact Nat.ne_of_lt (Nat.lt_of_lt_of_le (by have := World.block_lt_of_cell? _ _ hw22004_1; first | rwa [add_block] at this | exact this) GW22009.out)) | (dsimp only; exact Nat.ne_of_lt (Nat.lt_of_lt_of_le (by have := World.block_lt_of_cell? _ _ hw22004_1; first | rwa [add_block] at this | exact this) GW22009.out))) _).trans (((cell_far (p := ⟨gb22009, _, none⟩) (by first | exact Nat.ne_of_lt (Nat.lt_of_lt_of_le (by have := World.block_lt_of_cell? _ _ hw22004_1; first | rwa [add_block] at this | exact this) GW22009.out) | (rw [add_block]; exact Nat.ne_of_lt (Nat.lt_of_lt_of_le (by have := World.block_lt_of_cell? _ _ hw22004_1; first | rwa [add_block] at this | exact this) GW22009.out)) | (show (Addr.add _ _).block ≠ _; rw [add_block]; exact Nat.ne_of_lt (Nat.lt_of_lt_of_le (by have := World.block_lt_of_cell? _ _ hw22004_1; first | rwa [add_block] at this | exact this) GW22009.out)) | (dsimp only; exact Nat.ne_of_lt (Nat.lt_of_lt_of_le (by have := World.block_lt_of_cell? _ _ hw22004_1; first | rwa [add_block] at this | exact this) GW22009.out))) _).trans (hHeld.2.1)))))), ((cell_far (p := ⟨gb22009, _, none⟩) (by first | exact Nat.ne_of_lt (Nat.lt_of_lt_of_le (by have := World.block_lt_of_cell? _ _ hw22004_2; first | rwa [add_block] at this | exact this) GW22009.out) | (rw [add_block]; exact Nat.ne_of_lt (Nat.lt_of_lt_of_le (by have := World.block_lt_of_cell? _ _ hw22004_2; first | rwa [add_block] at this | exact this) GW22009.out)) | (show (Addr.add _ _).block ≠ _; rw [add_block]; exact Nat.ne_of_lt (Nat.lt_of_lt_of_le (by have := World.block_lt_of_cell? _ _ hw22004_2; first | rwa [add_block] at this | exact this) GW22009.out)) | (dsimp only; exact Nat.ne_of_lt (Nat.lt_of_lt_of_le (by have := World.block_lt_of_cell? _ _ hw22004_2; first | rwa [add_block] at this | exact this) GW22009.out))) _).trans (((cell_far (p := ⟨gb22009, _, none⟩) (by first | exact Nat.ne_of_lt (Nat.lt_of_lt_of_le (by have := World.block_lt_of_cell? _ _ hw22004_2; first | rwa [add_block] at this | exact this) GW22009.out) | (rw [add_block]; exact Nat.ne_of_lt (Nat.lt_of_lt_of_le (by have := World.block_lt_of_cell? _ _ hw22004_2; first | rwa [add_block] at this | exact this) GW22009.out)) | (show (Addr.add _ _).block ≠ _; rw [add_block]; exact Nat.ne_of_lt (Nat.lt_of_lt_of_le (by have := World.block_lt_of_cell? _ _ hw22004_2; first | rwa [add_block] at this | exact this) GW22009.out)) | (dsimp only; exact Nat.ne_of_lt (Nat.lt_of_lt_of_le (by have := World.block_lt_of_cell? _ _ hw22004_2; first | rwa [add_block] at this | exact this) GW22009.out))) _).trans (((cell_far (p := ⟨gb22009, _, none⟩) (by first | exact Nat.ne_of_lt (Nat.lt_of_lt_of_le (by have := World.block_lt_of_cell? _ _ hw22004_2; first | rwa [add_block] at this | exact this) GW22009.out) | (rw [add_block]; exact Nat.ne_of_lt (Nat.lt_of_lt_of_le (by have := World.block_lt_of_cell? _ _ hw22004_2; first | rwa [add_block] at this | exact this) GW22009.out)) | (show (Addr.add _ _).block ≠ _; rw [add_block]; exact Nat.ne_of_lt (Nat.lt_of_lt_of_le (by have := World.block_lt_of_cell? _ _ hw22004_2; first | rwa [add_block] at this | exact this) GW22009.out)) | (dsimp only; exact Nat.ne_of_lt (Nat.lt_of_lt_of_le (by have := World.block_lt_of_cell? _ _ hw22004_2; first | rwa [add_block] at this | exact this) GW22009.out))) _).trans (hHeld.2.2.1)))))), ((cell_far (p := ⟨gb22009, _, none⟩) (by first | exact Nat.ne_of_lt (Nat.lt_of_lt_of_le (by have := World.block_lt_of_cell? _ _ hw22005_0; first | rwa [add_block] at this | exact this) GW22009.out) | (rw [add_block]; exact Nat.ne_of_lt (Nat.lt_of_lt_of_le (by have := World.block_lt_of_cell? _ _ hw22005_0; first | rwa [add_block] at this | exact this) GW22009.out)) | (show (Addr.add _ _).block ≠ _; rw [add_block]; exact Nat.ne_of_lt (Nat.lt_of_lt_of_le (by have := World.block_lt_of_cell? _ _ hw22005_0; first | rwa [add_block] at this | exact this) GW22009.out)) | (dsimp only; exact Nat.ne_of_lt (Nat.lt_of_lt_of_le (by have := World.block_lt_of_cell? _ _ hw22005_0; first | rwa [add_block] at this | exact this) GW22009.out))) _).trans (((cell_far (p := ⟨gb22009, _, none⟩) (by first | exact Nat.ne_of_lt (Nat.lt_of_lt_of_le (by have := World.block_lt_of_cell? _ _ hw22005_0; first | rwa [add_block] at this | exact this) GW22009.out) | (rw [add_block]; exact Nat.ne_of_lt (Nat.lt_of_lt_of_le (by have := World.block_lt_of_cell? _ _ hw22005_0; first | rwa [add_block] at this | exact this) GW22009.out)) | (show (Addr.add _ _).block ≠ _; rw [add_block]; exact Nat.ne_of_lt (Nat.lt_of_lt_of_le (by have := World.block_lt_of_cell? _ _ hw22005_0; first | rwa [add_block] at this | exact this) GW22009.out)) | (dsimp only; exact Nat.ne_of_lt (Nat.lt_of_lt_of_le (by have := World.block_lt_of_cell? _ _ hw22005_0; first | rwa [add_block] at this | exact this) GW22009.out))) _).trans (((cell_far (p := ⟨gb22009, _, none⟩) (by first | exact Nat.ne_of_lt (Nat.lt_of_lt_of_le (by have := World.block_lt_of_cell? _ _ hw22005_0; first | rwa [add_block] at this | exact this) GW22009.out) | (rw [add_block]; exact Nat.ne_of_lt (Nat.lt_of_lt_of_le (by have := World.block_lt_of_cell? _ _ hw22005_0; first | rwa [add_block] at this | exact this) GW22009.out)) | (show (Addr.add _ _).block ≠ _; rw [add_block]; exact Nat.ne_of_lt (Nat.lt_of_lt_of_le (by have := World.block_lt_of_cell? _ _ hw22005_0; first | rwa [add_block] at this | exact this) GW22009.out)) | (dsimp only; exact Nat.ne_of_lt (Nat.lt_of_lt_of_le (by have := World.block_lt_of_cell? _ _ hw22005_0; first | rwa [add_block] at this | exact this) GW22009.out))) _).trans (hHeld.2.2.2.1)))))), ((cell_far (p := ⟨gb22009, _, none⟩) (by first | exact Nat.ne_of_lt (Nat.lt_of_lt_of_le (by have := World.block_lt_of_cell? _ _ hw22005_1; first | rwa [add_block] at this | exact this) GW22009.out) | (rw [add_block]; exact Nat.ne_of_lt (Nat.lt_of_lt_of_le (by have := World.block_lt_of_cell? _ _ hw22005_1; first | rwa [add_block] at this | exact this) GW22009.out)) | (show (Addr.add _ _).block ≠ _; rw [add_block]; exact Nat.ne_of_lt (Nat.lt_of_lt_of_le (by have := World.block_lt_of_cell? _ _ hw22005_1; first | rwa [add_block] at this | exact this) GW22009.out)) | (dsimp only; exact Nat.ne_of_lt (Nat.lt_of_lt_of_le (by have := World.block_lt_of_cell? _ _ hw22005_1; first | rwa [add_block] at this | exact this) GW22009.out))) _).trans (((cell_far (p := ⟨gb22009, _, none⟩) (by first | exact Nat.ne_of_lt (Nat.lt_of_lt_of_le (by have := World.block_lt_of_cell? _ _ hw22005_1; first | rwa [add_block] at this | exact this) GW22009.out) | (rw [add_block]; exact Nat.ne_of_lt (Nat.lt_of_lt_of_le (by have := World.block_lt_of_cell? _ _ hw22005_1; first | rwa [add_block] at this | exact this) GW22009.out)) | (show (Addr.add _ _).block ≠ _; rw [add_block]; exact Nat.ne_of_lt (Nat.lt_of_lt_of_le (by have := World.block_lt_of_cell? _ _ hw22005_1; first | rwa [add_block] at this | exact this) GW22009.out)) | (dsimp only; exact Nat.ne_of_lt (Nat.lt_of_lt_of_le (by have := World.block_lt_of_cell? _ _ hw22005_1; first | rwa [add_block] at this | exact this) GW22009.out))) _).trans (((cell_far (p := ⟨gb22009, _, none⟩) (by first | exact Nat.ne_of_lt (Nat.lt_of_lt_of_le (by have := World.block_lt_of_cell? _ _ hw22005_1; first | rwa [add_block] at this | exact this) GW22009.out) | (rw [add_block]; exact Nat.ne_of_lt (Nat.lt_of_lt_of_le (by have := World.block_lt_of_cell? _ _ hw22005_1; first | rwa [add_block] at this | exact this) GW22009.out)) | (show (Addr.add _ _).block ≠ _; rw [add_block]; exact Nat.ne_of_lt (Nat.lt_of_lt_of_le (by have := World.block_lt_of_cell? _ _ hw22005_1; first | rwa [add_block] at this | exact this) GW22009.out)) | (dsimp only; exact Nat.ne_of_lt (Nat.lt_of_lt_of_le (by have := World.block_lt_of_cell? _ _ hw22005_1; first | rwa [add_block] at this | exact this) GW22009.out))) _).trans (hHeld.2.2.2.2.1)))))), ((cell_far (p := ⟨gb22009, _, none⟩) (by first | exact Nat.ne_of_lt (Nat.lt_of_lt_of_le (by have := World.block_lt_of_cell? _ _ hw22005_2; first | rwa [add_block] at this | exact this) GW22009.out) | (rw [add_block]; exact Nat.ne_of_lt (Nat.lt_of_lt_of_le (by have := World.block_lt_of_cell? _ _ hw22005_2; first | rwa [add_block] at this | exact this) GW22009.out)) | (show (Addr.add _ _).block ≠ _; rw [add_block]; exact Nat.ne_of_lt (Nat.lt_of_lt_of_le (by have := World.block_lt_of_cell? _ _ hw22005_2; first | rwa [add_block] at this | exact this) GW22009.out)) | (dsimp only; exact Nat.ne_of_lt (Nat.lt_of_lt_of_le (by have := World.block_lt_of_cell? _ _ hw22005_2; first | rwa [add_block] at this | exact this) GW22009.out))) _).trans (((cell_far (p := ⟨gb22009, _, none⟩) (by first | exact Nat.ne_of_lt (Nat.lt_of_lt_of_le (by have := World.block_lt_of_cell? _ _ hw22005_2; first | rwa [add_block] at this | exact this) GW22009.out) | (rw [add_block]; exact Nat.ne_of_lt (Nat.lt_of_lt_of_le (by have := World.block_lt_of_cell? _ _ hw22005_2; first | rwa [add_block] at this | exact this) GW22009.out)) | (show (Addr.add _ _).block ≠ _; rw [add_block]; exact Nat.ne_of_lt (Nat.lt_of_lt_of_le (by have := World.block_lt_of_cell? _ _ hw22005_2; first | rwa [add_block] at this | exact this) GW22009.out)) | (dsimp only; exact Nat.ne_of_lt (Nat.lt_of_lt_of_le (by have := World.block_lt_of_cell? _ _ hw22005_2; first | rwa [add_block] at this | exact this) GW22009.out))) _).trans (((cell_far (p := ⟨gb22009, _, none⟩) (by first | exact Nat.ne_of_lt (Nat.lt_of_lt_of_le (by have := World.block_lt_of_cell? _ _ hw22005_2; first | rwa [add_block] at this | exact this) GW22009.out) | (rw [add_block]; exact Nat.ne_of_lt (Nat.lt_of_lt_of_le (by have := World.block_lt_of_cell? _ _ hw22005_2; first | rwa [add_block] at this | exact this) GW22009.out)) | (show (Addr.add _ _).block ≠ _; rw [add_block]; exact Nat.ne_of_lt (Nat.lt_of_lt_of_le (by have := World.block_lt_of_cell? _ _ hw22005_2; first | rwa [add_block] at this | exact this) GW22009.out)) | (dsimp only; exact Nat.ne_of_lt (Nat.lt_of_lt_of_le (by have := World.block_lt_of_cell? _ _ hw22005_2; first | rwa [add_block] at this | exact this) GW22009.out))) _).trans (hHeld.2.2.2.2.2))))))⟩ (fun hHeld => ?_)
       clear hK K
       refine done_ (done_of HT_.out (by kernel_rfl)) ?_
       try go_wp2
       go_loopg [47] k1 (fun kq v47 w' => ∃ (x47_2 : Int) (x22002000_2 : Int) (x22002002_2 : Int) (x22010000_2 : Int) (x22010001_2 : List (S50)) (x22010002_2 : Int) (u22010001 : Value), v47 = .int .i64 x47_2 ∧ Aside0 (sheet_Together.l1 kq l0 (wrap64 ((l0.length : Int) - 1)) x47_2 x22010000_2 x22010001_2 x22010002_2 = some (r1, r2, r3, r4)) ∧ Aside0 (kq ≤ k1) ∧ Aside0 (Kd.R k50 50 w' w.heap.size (fun _ => True) u22010001 x22010001_2) ∧ Aside0 (w'.heap[gb22001]? = some (.cells #[.int .i64 x22002000_2, (.slice none 0 0), .int .i64 x22002002_2] 25 (0, 0))) ∧ Aside0 (w'.heap[gb22009]? = some (.cells #[.int .i64 x22010000_2, u22010001, .int .i64 x22010002_2] 25 (0, 0))) ∧ Aside0 (Below w.heap.size w w'))
       case atStart => exact ⟨(0), (x22002000_1), (x22002002_1), ((rd_T25 l0 0).f0), (t22006), (0), (.slice Ao24 t22006.length co24), (by first | rfl | (simp; done) | (simp [*]; done)), H', ⟨Nat.le_refl _⟩, ⟨by exact Kd.R_mono (Kd.R_far (p := ⟨gb22009, 2, none⟩) (Kd.R_far (p := ⟨gb22009, 1, none⟩) (Kd.R_far (p := ⟨gb22009, 0, none⟩) (Kd.R_types HO22008.out BK22009.out (by decide)) (fun _ hk => hk.2) (.int .i64 ((rd_T25 l0 0).f0))) (fun _ hk => hk.2) (.slice Ao24 t22006.length co24)) (fun _ hk => hk.2) (.int .i64 0)) (fun _ hk => trivial)⟩, ⟨by refine blk_far ?_ NB22001_22009.out _; refine blk_far ?_ NB22001_22009.out _; refine blk_far ?_ NB22001_22009.out _; exact BK22001.out⟩, ⟨by refine blk_put (cs := #[.int .i64 ((rd_T25 l0 0).f0), .slice Ao24 t22006.length co24, .int .i64 0]) ?_ 2 _ rfl; refine blk_put (cs := #[.int .i64 ((rd_T25 l0 0).f0), .slice none 0 0, .int .i64 0]) ?_ 1 _ rfl; refine blk_put (cs := #[.int .i64 0, .slice none 0 0, .int .i64 0]) ?_ 0 _ rfl; exact BK22009.out⟩, ⟨by repeat (first | exact HB.out | apply below_alloc | apply pw_below_drewN | apply below_drew1 | refine below_set ?_ GE22001.out | refine below_set ?_ GE22009.out)⟩⟩
       case round =>
        clear H'
        try clear c1
        try clear c2
        try clear c2b0
        try clear c2b1
        try clear c2b2
        try clear p2
        try clear q2
        try clear hx2
        try clear qi2
        try clear c3
        try clear c4
        try clear c5
        try clear c5b0
        try clear c5b1
        try clear p6
        try clear c9
        try clear c9b0
        try clear c10
        try clear c10b0
        try clear c11
        try clear c11b0
        try clear c13
        try clear c13b0
        try clear c13b1
        try clear c17
        try clear c17b0
        try clear c17b1
        try clear c21
        try clear c22
        try clear p22
        try clear q22
        try clear hx22
        try clear qi22
        try clear hcz16_0
        try clear hcz16_1
        try clear hcz16_2
        try clear hcz4_0
        try clear hcz4_1
        try clear hcz4_2
        try clear hcz7_0
        try clear hcz7_1
        try clear hcz7_2
        try clear hfz16_0
        try clear hfz16_1
        try clear hfz16_2
        try clear hfz4_0
        try clear hfz4_1
        try clear hfz4_2
        try clear hfz7_0
        try clear hfz7_1
        try clear hfz7_2
        try clear hx22002_0
        try clear hx22002_1
        try clear hx22002_2
        try clear hx22004_0
        try clear hx22004_1
        try clear hx22004_2
        try clear hx22005_0
        try clear hx22005_1
        try clear hx22005_2
        try clear p2
        try clear p22002
        try clear p22004
        try clear p22005
        try clear q22002
        try clear q22004
        try clear q22005
        obtain ⟨x47_2, x22002000_2, x22002002_2, x22010000_2, x22010001_2, x22010002_2, u22010001, rfl, HA, HK2, HO_22010001, BK22001, BK22009, HB⟩ := hrel
        cases gk with
        | zero => exact absurd HA.out (by simp [sheet_Together.l1])
        | succ k2 =>
         have H := HA.out
         clear HA
         simp only [sheet_Together.l1] at H
         by_cases c28 : x47_2 < (wrap64 ((l0.length : Int) - 1))
         ·rw [if_pos c28] at H
          have c28b0 : decide (x47_2 < (wrap64 ((l0.length : Int) - 1))) = true := decide_eq_true c28
          clear c28
          obtain ⟨ji29, hji29⟩ : ∃ j_ : Int, (wrap64 (x47_2 + 1)) = j_ := ⟨_, rfl⟩
          replace H : (if 0 ≤ (ji29) then (if (ji29) < (l0.length : Int) then ((span_Common.f k2 x22010001_2 ((rd_T25 l0 (ji29)).f1)).bind fun bt22012 => (if bt22012.2 = 0 then (sheet_Together.l1 k2 l0 (wrap64 ((l0.length : Int) - 1)) ji29 (mn x22010000_2 ((rd_T25 l0 (ji29)).f0)) bt22012.1 0) else (some (0, ([] : List (S50)), 0, bt22012.2)))) else (none)) else (none)) = some (r1, r2, r3, r4) := by first | (rw [hji29] at H; exact H) | (simp only [hji29] at H ⊢; exact H)
          have hji29w : (IntKind.i64.wrap (x47_2 + 1)) = ji29 := (i64_w _).trans hji29
          by_cases c30 : 0 ≤ (ji29)
          ·rw [if_pos c30] at H
           have c30b0 : decide (0 ≤ (ji29)) = true := decide_eq_true c30
           clear c30
           by_cases c31 : (ji29) < (l0.length : Int)
           ·rw [if_pos c31] at H
            have c31b0 : decide ((ji29) < (l0.length : Int)) = true := decide_eq_true c31
            clear c31
            replace H := Option.bind_eq_some_iff.mp H
            obtain ⟨⟨t22012, t22013⟩, A320, H⟩ := H
            replace H : (if t22013 = 0 then (sheet_Together.l1 k2 l0 (wrap64 ((l0.length : Int) - 1)) ji29 (mn x22010000_2 ((rd_T25 l0 (ji29)).f0)) t22012 0) else (some (0, ([] : List (S50)), 0, t22013))) = some (r1, r2, r3, r4) := H
            have A32 := Aside0.mk A320
            clear A320
            by_cases c33 : t22013 = 0
            ·rw [if_pos c33] at H
             have c33b0 : (t22013 == 0) = true := beq_iff_eq.mpr c33
             have c33b1 : (t22013 != 0) = false := bne_eq_false_iff_eq.mpr c33
             clear c33
             obtain ⟨ji34, hji34⟩ : ∃ j_ : Int, (mn x22010000_2 ((rd_T25 l0 (ji29)).f0)) = j_ := ⟨_, rfl⟩
             replace H : (sheet_Together.l1 k2 l0 (wrap64 ((l0.length : Int) - 1)) ji29 ji34 t22012 0) = some (r1, r2, r3, r4) := by first | (rw [hji34] at H; exact H) | (simp only [hji34] at H ⊢; exact H)
             (try rw [hji34] at A32)
             have hji34_ : (if ((rd_T25 l0 (ji29)).f0) < x22010000_2 then ((rd_T25 l0 (ji29)).f0) else x22010000_2) = ji34 := hji34
             have H' := Aside0.mk H
             clear H
             have p22010 : 0 ≤ ((ji29) : Int) := of_decide_eq_true (by assumption)
             have q22010 : (ji29) < (l0.length : Int) := of_decide_eq_true (by assumption)
             obtain ⟨ad22010, A22010_1, c22010_1, e22010, hx22010_0, hx22010_1, hx22010_2, hl22010_1, hi22010_1⟩ := at_T25 HR0.out (ji29) p22010 q22010
             obtain rfl : ad22004 = ad22010 := (by injection e22010)
             replace hx22010_0 := (HB.out.cell (World.block_lt_of_cell? w _ hx22010_0)).trans hx22010_0
             replace hx22010_1 := (HB.out.cell (World.block_lt_of_cell? w _ hx22010_1)).trans hx22010_1
             replace hx22010_2 := (HB.out.cell (World.block_lt_of_cell? w _ hx22010_2)).trans hx22010_2
             have HR22010_1 := Aside0.mk hi22010_1
             have HC22010_1 := Aside0.mk hl22010_1
             clear hi22010_1 hl22010_1
             replace p22010 := eq_true p22010
             replace q22010 := eq_true q22010
             go_wp2_with (first | ((with_reducible refine gate_dst (N := 8) rfl ?_); refine box_event ?hg (N := 8) ?hd (cs := #[.int .i64 0, .slice none 0 0, .int .i64 0]) (t := 25) ?hr ?_; (case hd => rfl); (case hg => rfl); (case hr => first | (go_simp; done) | (go_simp; rfl)); intro gb22011 hg w35 hbox hb; have n0_ := Aside0.mk (Kd.R_below (HO_22010001.out) hb); have n1_ := Aside0.mk (blk_below (g := gb22001) (o := .cells #[.int .i64 x22002000_2, .slice none 0 0, .int .i64 x22002002_2] 25 (0, 0)) (BK22001.out) hb); have n2_ := Aside0.mk (blk_below (g := gb22009) (o := .cells #[.int .i64 x22010000_2, u22010001, .int .i64 x22010002_2] 25 (0, 0)) (BK22009.out) hb); have n3_ := Aside0.mk (below_step (by repeat (first | exact HB.out | apply below_alloc | apply pw_below_drewN | apply below_drew1 | refine below_set ?_ GE22001.out | refine below_set ?_ GE22009.out)) hb); have n4_ := Aside0.mk (hbox); have n5_ := Aside0.mk ((by rw [hg]; exact (below_size (by repeat (first | exact HB.out | apply below_alloc | apply pw_below_drewN | apply below_drew1 | refine below_set ?_ GE22001.out | refine below_set ?_ GE22009.out))) : w.heap.size ≤ gb22011)); have n6_ := Aside0.mk ((by rw [hg]; exact (below_size (by repeat (first | exact HB.out | apply below_alloc | apply pw_below_drewN | apply below_drew1 | refine below_set ?_ GE22001.out | refine below_set ?_ GE22009.out))) : w.heap.size ≤ gb22011)); have n7_ := Aside0.mk ((by rw [hg]; exact Nat.ne_of_lt (blk_lt (g := gb22001) (o := .cells #[.int .i64 x22002000_2, .slice none 0 0, .int .i64 x22002002_2] 25 (0, 0)) (BK22001.out)) : gb22001 ≠ gb22011)); have n8_ := Aside0.mk ((by rw [hg]; exact Nat.ne_of_gt (blk_lt (g := gb22001) (o := .cells #[.int .i64 x22002000_2, .slice none 0 0, .int .i64 x22002002_2] 25 (0, 0)) (BK22001.out)) : gb22011 ≠ gb22001)); have n9_ := Aside0.mk ((by rw [hg]; exact Nat.ne_of_lt (blk_lt (g := gb22009) (o := .cells #[.int .i64 x22010000_2, u22010001, .int .i64 x22010002_2] 25 (0, 0)) (BK22009.out)) : gb22009 ≠ gb22011)); have n10_ := Aside0.mk ((by rw [hg]; exact Nat.ne_of_gt (blk_lt (g := gb22009) (o := .cells #[.int .i64 x22010000_2, u22010001, .int .i64 x22010002_2] 25 (0, 0)) (BK22009.out)) : gb22011 ≠ gb22009)); clear HO_22010001; clear BK22001; clear BK22009; clear HB; have HO_22010001 := n0_; have BK22001 := n1_; have BK22009 := n2_; have HB := n3_; have BK22011 := n4_; have GW22011 := n5_; have GE22011 := n6_; have NB22001_22011 := n7_; have NB22011_22001 := n8_; have NB22009_22011 := n9_; have NB22011_22009 := n10_; clear n0_ n1_ n2_ n3_ n4_ n5_ n6_ n7_ n8_ n9_ n10_; clear hb hbox hg; have hnb36 := NB22011_22001.out; have hnc36 := NB22001_22011.out; have hnb37 := NB22011_22009.out; have hnc37 := NB22009_22011.out; have hcz38_0 : w35.cell? ⟨gb22011, 0, none⟩ = some (.int .i64 0) := (blk_cell BK22011.out 0).trans rfl; have hcz38_1 : w35.cell? ⟨gb22011, 1, none⟩ = some (.slice none 0 0) := (blk_cell BK22011.out 1).trans rfl; have hcz38_2 : w35.cell? ⟨gb22011, 2, none⟩ = some (.int .i64 0) := (blk_cell BK22011.out 2).trans rfl; have hfz38_0 := blk_frozen BK22011.out 0; have hfz38_1 := blk_frozen BK22011.out 1; have hfz38_2 := blk_frozen BK22011.out 2; have hnb39 := NB22009_22001.out; have hnc39 := NB22001_22009.out; have hcz40_0 : w35.cell? ⟨gb22009, 0, none⟩ = some (.int .i64 x22010000_2) := (blk_cell BK22009.out 0).trans rfl; have hcz40_1 : w35.cell? ⟨gb22009, 1, none⟩ = some (u22010001) := (blk_cell BK22009.out 1).trans rfl; have hcz40_2 : w35.cell? ⟨gb22009, 2, none⟩ = some (.int .i64 x22010002_2) := (blk_cell BK22009.out 2).trans rfl; have hfz40_0 := blk_frozen BK22009.out 0; have hfz40_1 := blk_frozen BK22009.out 1; have hfz40_2 := blk_frozen BK22009.out 2; obtain ⟨Ao41, co41, eo41⟩ := Kd.R_slice HO_22010001.out; subst eo41) | ((with_reducible refine gate_callee (f := 31) rfl ?_); refine goesL_ (some 60) rfl rfl Try.func31 (by kernel_rfl) rfl #[.slice Ao41 x22010001_2.length co41, .slice A22010_1 ((rd_T25 l0 (ji29)).f1).length c22010_1] rfl (by (try simp only [List.map_toArray, List.map_cons, List.map_nil]); first | done | (simp only [hji29]; rfl) | rfl | (simp only [List.length_drop, List.length_take]; rfl)) ?_; (with_reducible refine (span_Common.calls k2 _ _ x22010001_2 _ _ ((rd_T25 l0 (ji29)).f1) t22012 t22013 _ ?side1 ?side2 ?side3 ?side4 A32.out).mono ?_); (case side1 => refine (Kd.R_reads' (e := 50) (base := w.heap.size) (ok := fun k_ => True) (n := x22010001_2.length) (c := co41) ?_).2.2; exact (by exact (Kd.R_mono (Kd.R_far (p := ⟨gb22011, 2, none⟩) (Kd.R_far (p := ⟨gb22011, 1, none⟩) (Kd.R_far (p := ⟨gb22011, 0, none⟩) (Kd.R_types HO_22010001.out BK22011.out (by decide)) (fun _ hk => hk.2) (.int .i64 ((rd_T25 l0 (ji29)).f0))) (fun _ hk => hk.2) (.slice A22010_1 ((rd_T25 l0 (ji29)).f1).length c22010_1)) (fun _ hk => hk.2) (.int .i64 ((rd_T25 l0 (ji29)).f2))) (fun _ h_ => h_.1)))); (case side2 => exact (Kd.R_reads' HO_22010001.out).2.1); (case side3 => exact Kd.C_below HR22010_1.out (by repeat (first | exact HB.out | apply below_alloc | apply pw_below_drewN | apply below_drew1 | refine below_set ?_ GE22001.out | refine below_set ?_ GE22009.out | refine below_set ?_ GE22011.out))); (case side4 => exact HC22010_1.out); rintro e w42 ⟨v22014, rfl, ho0, hb⟩; refine ⟨_, rfl, ?_⟩; have n0_ := Aside0.mk (Kd.R_elder' (by exact (Kd.R_mono (Kd.R_far (p := ⟨gb22011, 2, none⟩) (Kd.R_far (p := ⟨gb22011, 1, none⟩) (Kd.R_far (p := ⟨gb22011, 0, none⟩) (Kd.R_types HO_22010001.out BK22011.out (by decide)) (fun _ hk => hk.2) (.int .i64 ((rd_T25 l0 (ji29)).f0))) (fun _ hk => hk.2) (.slice A22010_1 ((rd_T25 l0 (ji29)).f1).length c22010_1)) (fun _ hk => hk.2) (.int .i64 ((rd_T25 l0 (ji29)).f2))) (fun _ h_ => h_.1))) (Kd.R_base ho0) hb); have n1_ := Aside0.mk (Kd.R_lower (Kd.R_new' ho0 (Kd.R_lt (by exact (Kd.R_mono (Kd.R_far (p := ⟨gb22011, 2, none⟩) (Kd.R_far (p := ⟨gb22011, 1, none⟩) (Kd.R_far (p := ⟨gb22011, 0, none⟩) (Kd.R_types HO_22010001.out BK22011.out (by decide)) (fun _ hk => hk.2) (.int .i64 ((rd_T25 l0 (ji29)).f0))) (fun _ hk => hk.2) (.slice A22010_1 ((rd_T25 l0 (ji29)).f1).length c22010_1)) (fun _ hk => hk.2) (.int .i64 ((rd_T25 l0 (ji29)).f2))) (fun _ h_ => h_.1))))) (below_size (by repeat (first | exact HB.out | apply below_alloc | apply pw_below_drewN | apply below_drew1 | refine below_set ?_ GE22001.out | refine below_set ?_ GE22009.out | refine below_set ?_ GE22011.out)))); have n2_ := Aside0.mk (blk_below (g := gb22001) (o := .cells #[.int .i64 x22002000_2, .slice none 0 0, .int .i64 x22002002_2] 25 (0, 0)) (by refine blk_far ?_ NB22001_22011.out _; refine blk_far ?_ NB22001_22011.out _; refine blk_far ?_ NB22001_22011.out _; exact BK22001.out) hb); have n3_ := Aside0.mk (blk_below (g := gb22009) (o := .cells #[.int .i64 x22010000_2, .slice Ao41 x22010001_2.length co41, .int .i64 x22010002_2] 25 (0, 0)) (by refine blk_far ?_ NB22009_22011.out _; refine blk_far ?_ NB22009_22011.out _; refine blk_far ?_ NB22009_22011.out _; exact BK22009.out) hb); have n4_ := Aside0.mk (blk_below (g := gb22011) (o := .cells #[.int .i64 ((rd_T25 l0 (ji29)).f0), .slice A22010_1 ((rd_T25 l0 (ji29)).f1).length c22010_1, .int .i64 ((rd_T25 l0 (ji29)).f2)] 25 (0, 0)) (by refine blk_put (cs := #[.int .i64 ((rd_T25 l0 (ji29)).f0), .slice A22010_1 ((rd_T25 l0 (ji29)).f1).length c22010_1, .int .i64 0]) ?_ 2 _ rfl; refine blk_put (cs := #[.int .i64 ((rd_T25 l0 (ji29)).f0), .slice none 0 0, .int .i64 0]) ?_ 1 _ rfl; refine blk_put (cs := #[.int .i64 0, .slice none 0 0, .int .i64 0]) ?_ 0 _ rfl; exact BK22011.out) hb); have n5_ := Aside0.mk (below_step (by repeat (first | exact HB.out | apply below_alloc | apply pw_below_drewN | apply below_drew1 | refine below_set ?_ GE22001.out | refine below_set ?_ GE22009.out | refine below_set ?_ GE22011.out)) hb); clear HO_22010001; clear BK22001; clear BK22009; clear BK22011; clear HB; have HO_22010001 := n0_; have HO22015 := n1_; have BK22001 := n2_; have BK22009 := n3_; have BK22011 := n4_; have HB := n5_; clear n0_ n1_ n2_ n3_ n4_ n5_; (try clear hb); (try clear hb2); (try clear hk); (try clear hi); (try clear ho0); have hcz43_0 : w42.cell? ⟨gb22009, 0, none⟩ = some (.int .i64 x22010000_2) := (blk_cell BK22009.out 0).trans rfl; have hcz43_1 : w42.cell? ⟨gb22009, 1, none⟩ = some (.slice Ao41 x22010001_2.length co41) := (blk_cell BK22009.out 1).trans rfl; have hcz43_2 : w42.cell? ⟨gb22009, 2, none⟩ = some (.int .i64 x22010002_2) := (blk_cell BK22009.out 2).trans rfl; have hfz43_0 := blk_frozen BK22009.out 0; have hfz43_1 := blk_frozen BK22009.out 1; have hfz43_2 := blk_frozen BK22009.out 2; have hcz44_0 : w42.cell? ⟨gb22011, 0, none⟩ = some (.int .i64 ((rd_T25 l0 (ji29)).f0)) := (blk_cell BK22011.out 0).trans rfl; have hcz44_1 : w42.cell? ⟨gb22011, 1, none⟩ = some (.slice A22010_1 ((rd_T25 l0 (ji29)).f1).length c22010_1) := (blk_cell BK22011.out 1).trans rfl; have hcz44_2 : w42.cell? ⟨gb22011, 2, none⟩ = some (.int .i64 ((rd_T25 l0 (ji29)).f2)) := (blk_cell BK22011.out 2).trans rfl; have hfz44_0 := blk_frozen BK22011.out 0; have hfz44_1 := blk_frozen BK22011.out 1; have hfz44_2 := blk_frozen BK22011.out 2; obtain ⟨Ao45, co45, eo45⟩ := Kd.R_slice HO22015.out; subst eo45))
             go_roundg k2
             case measure => have := HK1.out; have := HK2.out; omega
             case rel => exact ⟨(ji29), (x22002000_2), (x22002002_2), (ji34), (t22012), (0), (.slice Ao45 t22012.length co45), (by first | rfl | (simp; done) | (simp only [← hji29] <;> (first | rfl | simp)) | (simp [*]; done)), H', ⟨by have := HK1.out; have := HK2.out; omega⟩, ⟨by exact Kd.R_mono (Kd.R_far (p := ⟨gb22009, 2, none⟩) (Kd.R_far (p := ⟨gb22009, 1, none⟩) (Kd.R_far (p := ⟨gb22009, 0, none⟩) (Kd.R_types HO22015.out BK22009.out (by decide)) (fun _ hk => hk.2) (.int .i64 ji34)) (fun _ hk => hk.2) (.slice Ao45 t22012.length co45)) (fun _ hk => hk.2) (.int .i64 0)) (fun _ hk => trivial)⟩, ⟨by refine blk_far ?_ NB22001_22009.out _; refine blk_far ?_ NB22001_22009.out _; refine blk_far ?_ NB22001_22009.out _; exact BK22001.out⟩, ⟨by refine blk_put (cs := #[.int .i64 ji34, .slice Ao45 t22012.length co45, .int .i64 x22010002_2]) ?_ 2 _ rfl; refine blk_put (cs := #[.int .i64 ji34, .slice Ao41 x22010001_2.length co41, .int .i64 x22010002_2]) ?_ 1 _ rfl; refine blk_put (cs := #[.int .i64 x22010000_2, .slice Ao41 x22010001_2.length co41, .int .i64 x22010002_2]) ?_ 0 _ rfl; exact BK22009.out⟩, ⟨by repeat (first | exact HB.out | apply below_alloc | apply pw_below_drewN | apply below_drew1 | refine below_set ?_ GE22001.out | refine below_set ?_ GE22009.out | refine below_set ?_ GE22011.out)⟩⟩
            ·rw [if_neg c33] at H
             have c33b0 : (t22013 == 0) = false := beq_eq_false_iff_ne.mpr c33
             have c33b1 : (t22013 != 0) = true := bne_iff_ne.mpr c33
             simp only [Option.some.injEq, Prod.mk.injEq] at H
             obtain ⟨rfl, rfl, rfl, rfl⟩ := H
             have p22010 : 0 ≤ ((ji29) : Int) := of_decide_eq_true (by assumption)
             have q22010 : (ji29) < (l0.length : Int) := of_decide_eq_true (by assumption)
             obtain ⟨ad22010, A22010_1, c22010_1, e22010, hx22010_0, hx22010_1, hx22010_2, hl22010_1, hi22010_1⟩ := at_T25 HR0.out (ji29) p22010 q22010
             obtain rfl : ad22004 = ad22010 := (by injection e22010)
             replace hx22010_0 := (HB.out.cell (World.block_lt_of_cell? w _ hx22010_0)).trans hx22010_0
             replace hx22010_1 := (HB.out.cell (World.block_lt_of_cell? w _ hx22010_1)).trans hx22010_1
             replace hx22010_2 := (HB.out.cell (World.block_lt_of_cell? w _ hx22010_2)).trans hx22010_2
             have HR22010_1 := Aside0.mk hi22010_1
             have HC22010_1 := Aside0.mk hl22010_1
             clear hi22010_1 hl22010_1
             replace p22010 := eq_true p22010
             replace q22010 := eq_true q22010
             go_wp2_with (first | ((with_reducible refine gate_dst (N := 8) rfl ?_); refine box_event ?hg (N := 8) ?hd (cs := #[.int .i64 0, .slice none 0 0, .int .i64 0]) (t := 25) ?hr ?_; (case hd => rfl); (case hg => rfl); (case hr => first | (go_simp; done) | (go_simp; rfl)); intro gb22011 hg w46 hbox hb; have n0_ := Aside0.mk (Kd.R_below (HO_22010001.out) hb); have n1_ := Aside0.mk (blk_below (g := gb22001) (o := .cells #[.int .i64 x22002000_2, .slice none 0 0, .int .i64 x22002002_2] 25 (0, 0)) (BK22001.out) hb); have n2_ := Aside0.mk (blk_below (g := gb22009) (o := .cells #[.int .i64 x22010000_2, u22010001, .int .i64 x22010002_2] 25 (0, 0)) (BK22009.out) hb); have n3_ := Aside0.mk (below_step (by repeat (first | exact HB.out | apply below_alloc | apply pw_below_drewN | apply below_drew1 | refine below_set ?_ GE22001.out | refine below_set ?_ GE22009.out)) hb); have n4_ := Aside0.mk (hbox); have n5_ := Aside0.mk ((by rw [hg]; exact (below_size (by repeat (first | exact HB.out | apply below_alloc | apply pw_below_drewN | apply below_drew1 | refine below_set ?_ GE22001.out | refine below_set ?_ GE22009.out))) : w.heap.size ≤ gb22011)); have n6_ := Aside0.mk ((by rw [hg]; exact (below_size (by repeat (first | exact HB.out | apply below_alloc | apply pw_below_drewN | apply below_drew1 | refine below_set ?_ GE22001.out | refine below_set ?_ GE22009.out))) : w.heap.size ≤ gb22011)); have n7_ := Aside0.mk ((by rw [hg]; exact Nat.ne_of_lt (blk_lt (g := gb22001) (o := .cells #[.int .i64 x22002000_2, .slice none 0 0, .int .i64 x22002002_2] 25 (0, 0)) (BK22001.out)) : gb22001 ≠ gb22011)); have n8_ := Aside0.mk ((by rw [hg]; exact Nat.ne_of_gt (blk_lt (g := gb22001) (o := .cells #[.int .i64 x22002000_2, .slice none 0 0, .int .i64 x22002002_2] 25 (0, 0)) (BK22001.out)) : gb22011 ≠ gb22001)); have n9_ := Aside0.mk ((by rw [hg]; exact Nat.ne_of_lt (blk_lt (g := gb22009) (o := .cells #[.int .i64 x22010000_2, u22010001, .int .i64 x22010002_2] 25 (0, 0)) (BK22009.out)) : gb22009 ≠ gb22011)); have n10_ := Aside0.mk ((by rw [hg]; exact Nat.ne_of_gt (blk_lt (g := gb22009) (o := .cells #[.int .i64 x22010000_2, u22010001, .int .i64 x22010002_2] 25 (0, 0)) (BK22009.out)) : gb22011 ≠ gb22009)); clear HO_22010001; clear BK22001; clear BK22009; clear HB; have HO_22010001 := n0_; have BK22001 := n1_; have BK22009 := n2_; have HB := n3_; have BK22011 := n4_; have GW22011 := n5_; have GE22011 := n6_; have NB22001_22011 := n7_; have NB22011_22001 := n8_; have NB22009_22011 := n9_; have NB22011_22009 := n10_; clear n0_ n1_ n2_ n3_ n4_ n5_ n6_ n7_ n8_ n9_ n10_; clear hb hbox hg; have hnb47 := NB22011_22001.out; have hnc47 := NB22001_22011.out; have hnb48 := NB22011_22009.out; have hnc48 := NB22009_22011.out; have hcz49_0 : w46.cell? ⟨gb22011, 0, none⟩ = some (.int .i64 0) := (blk_cell BK22011.out 0).trans rfl; have hcz49_1 : w46.cell? ⟨gb22011, 1, none⟩ = some (.slice none 0 0) := (blk_cell BK22011.out 1).trans rfl; have hcz49_2 : w46.cell? ⟨gb22011, 2, none⟩ = some (.int .i64 0) := (blk_cell BK22011.out 2).trans rfl; have hfz49_0 := blk_frozen BK22011.out 0; have hfz49_1 := blk_frozen BK22011.out 1; have hfz49_2 := blk_frozen BK22011.out 2; have hnb50 := NB22009_22001.out; have hnc50 := NB22001_22009.out; have hcz51_0 : w46.cell? ⟨gb22009, 0, none⟩ = some (.int .i64 x22010000_2) := (blk_cell BK22009.out 0).trans rfl; have hcz51_1 : w46.cell? ⟨gb22009, 1, none⟩ = some (u22010001) := (blk_cell BK22009.out 1).trans rfl; have hcz51_2 : w46.cell? ⟨gb22009, 2, none⟩ = some (.int .i64 x22010002_2) := (blk_cell BK22009.out 2).trans rfl; have hfz51_0 := blk_frozen BK22009.out 0; have hfz51_1 := blk_frozen BK22009.out 1; have hfz51_2 := blk_frozen BK22009.out 2; obtain ⟨Ao52, co52, eo52⟩ := Kd.R_slice HO_22010001.out; subst eo52) | ((with_reducible refine gate_callee (f := 31) rfl ?_); refine goesL_ (some 60) rfl rfl Try.func31 (by kernel_rfl) rfl #[.slice Ao52 x22010001_2.length co52, .slice A22010_1 ((rd_T25 l0 (ji29)).f1).length c22010_1] rfl (by (try simp only [List.map_toArray, List.map_cons, List.map_nil]); first | done | (simp only [hji29]; rfl) | rfl | (simp only [List.length_drop, List.length_take]; rfl)) ?_; (with_reducible refine (span_Common.calls k2 _ _ x22010001_2 _ _ ((rd_T25 l0 (ji29)).f1) t22012 t22013 _ ?side1 ?side2 ?side3 ?side4 A32.out).mono ?_); (case side1 => refine (Kd.R_reads' (e := 50) (base := w.heap.size) (ok := fun k_ => True) (n := x22010001_2.length) (c := co52) ?_).2.2; exact (by exact (Kd.R_mono (Kd.R_far (p := ⟨gb22011, 2, none⟩) (Kd.R_far (p := ⟨gb22011, 1, none⟩) (Kd.R_far (p := ⟨gb22011, 0, none⟩) (Kd.R_types HO_22010001.out BK22011.out (by decide)) (fun _ hk => hk.2) (.int .i64 ((rd_T25 l0 (ji29)).f0))) (fun _ hk => hk.2) (.slice A22010_1 ((rd_T25 l0 (ji29)).f1).length c22010_1)) (fun _ hk => hk.2) (.int .i64 ((rd_T25 l0 (ji29)).f2))) (fun _ h_ => h_.1)))); (case side2 => exact (Kd.R_reads' HO_22010001.out).2.1); (case side3 => exact Kd.C_below HR22010_1.out (by repeat (first | exact HB.out | apply below_alloc | apply pw_below_drewN | apply below_drew1 | refine below_set ?_ GE22001.out | refine below_set ?_ GE22009.out | refine below_set ?_ GE22011.out))); (case side4 => exact HC22010_1.out); rintro e w53 ⟨v22014, rfl, ho0, hb⟩; refine ⟨_, rfl, ?_⟩; have n0_ := Aside0.mk (Kd.R_elder' (by exact (Kd.R_mono (Kd.R_far (p := ⟨gb22011, 2, none⟩) (Kd.R_far (p := ⟨gb22011, 1, none⟩) (Kd.R_far (p := ⟨gb22011, 0, none⟩) (Kd.R_types HO_22010001.out BK22011.out (by decide)) (fun _ hk => hk.2) (.int .i64 ((rd_T25 l0 (ji29)).f0))) (fun _ hk => hk.2) (.slice A22010_1 ((rd_T25 l0 (ji29)).f1).length c22010_1)) (fun _ hk => hk.2) (.int .i64 ((rd_T25 l0 (ji29)).f2))) (fun _ h_ => h_.1))) (Kd.R_base ho0) hb); have n1_ := Aside0.mk (Kd.R_lower (Kd.R_new' ho0 (Kd.R_lt (by exact (Kd.R_mono (Kd.R_far (p := ⟨gb22011, 2, none⟩) (Kd.R_far (p := ⟨gb22011, 1, none⟩) (Kd.R_far (p := ⟨gb22011, 0, none⟩) (Kd.R_types HO_22010001.out BK22011.out (by decide)) (fun _ hk => hk.2) (.int .i64 ((rd_T25 l0 (ji29)).f0))) (fun _ hk => hk.2) (.slice A22010_1 ((rd_T25 l0 (ji29)).f1).length c22010_1)) (fun _ hk => hk.2) (.int .i64 ((rd_T25 l0 (ji29)).f2))) (fun _ h_ => h_.1))))) (below_size (by repeat (first | exact HB.out | apply below_alloc | apply pw_below_drewN | apply below_drew1 | refine below_set ?_ GE22001.out | refine below_set ?_ GE22009.out | refine below_set ?_ GE22011.out)))); have n2_ := Aside0.mk (blk_below (g := gb22001) (o := .cells #[.int .i64 x22002000_2, .slice none 0 0, .int .i64 x22002002_2] 25 (0, 0)) (by refine blk_far ?_ NB22001_22011.out _; refine blk_far ?_ NB22001_22011.out _; refine blk_far ?_ NB22001_22011.out _; exact BK22001.out) hb); have n3_ := Aside0.mk (blk_below (g := gb22009) (o := .cells #[.int .i64 x22010000_2, .slice Ao52 x22010001_2.length co52, .int .i64 x22010002_2] 25 (0, 0)) (by refine blk_far ?_ NB22009_22011.out _; refine blk_far ?_ NB22009_22011.out _; refine blk_far ?_ NB22009_22011.out _; exact BK22009.out) hb); have n4_ := Aside0.mk (blk_below (g := gb22011) (o := .cells #[.int .i64 ((rd_T25 l0 (ji29)).f0), .slice A22010_1 ((rd_T25 l0 (ji29)).f1).length c22010_1, .int .i64 ((rd_T25 l0 (ji29)).f2)] 25 (0, 0)) (by refine blk_put (cs := #[.int .i64 ((rd_T25 l0 (ji29)).f0), .slice A22010_1 ((rd_T25 l0 (ji29)).f1).length c22010_1, .int .i64 0]) ?_ 2 _ rfl; refine blk_put (cs := #[.int .i64 ((rd_T25 l0 (ji29)).f0), .slice none 0 0, .int .i64 0]) ?_ 1 _ rfl; refine blk_put (cs := #[.int .i64 0, .slice none 0 0, .int .i64 0]) ?_ 0 _ rfl; exact BK22011.out) hb); have n5_ := Aside0.mk (below_step (by repeat (first | exact HB.out | apply below_alloc | apply pw_below_drewN | apply below_drew1 | refine below_set ?_ GE22001.out | refine below_set ?_ GE22009.out | refine below_set ?_ GE22011.out)) hb); clear HO_22010001; clear BK22001; clear BK22009; clear BK22011; clear HB; have HO_22010001 := n0_; have HO22015 := n1_; have BK22001 := n2_; have BK22009 := n3_; have BK22011 := n4_; have HB := n5_; clear n0_ n1_ n2_ n3_ n4_ n5_; (try clear hb); (try clear hb2); (try clear hk); (try clear hi); (try clear ho0); have hcz54_0 : w53.cell? ⟨gb22001, 0, none⟩ = some (.int .i64 x22002000_2) := (blk_cell BK22001.out 0).trans rfl; have hcz54_1 : w53.cell? ⟨gb22001, 1, none⟩ = some (.slice none 0 0) := (blk_cell BK22001.out 1).trans rfl; have hcz54_2 : w53.cell? ⟨gb22001, 2, none⟩ = some (.int .i64 x22002002_2) := (blk_cell BK22001.out 2).trans rfl; have hfz54_0 := blk_frozen BK22001.out 0; have hfz54_1 := blk_frozen BK22001.out 1; have hfz54_2 := blk_frozen BK22001.out 2))
             refine bodyPost_ret (results_ct rfl _ _ gb22001 25 #[.int .i64 0, .slice none 0 0, .int .i64 0] (0, 0) _ rfl (by refine blk_put (cs := #[.int .i64 0, .slice none 0 0, .int .i64 x22002002_2]) ?_ 2 _ rfl; refine blk_put (cs := #[.int .i64 0, .slice none 0 0, .int .i64 x22002002_2]) ?_ 1 _ rfl; refine blk_put (cs := #[.int .i64 x22002000_2, .slice none 0 0, .int .i64 x22002002_2]) ?_ 0 _ rfl; exact BK22001.out) Try.underlying25 rfl (by kernel_rfl)) rfl ?_
             exact ⟨_, by first | rfl | (simp [errW_none, errW_some] <;> rfl) | (simp only [← hji29]; first | rfl | (simp [errW_none, errW_some] <;> rfl)) | (simp [*, errW_none, errW_some] <;> rfl), by first | exact Kd.R_nil _ _ _ _ _ | exact Kd.N_nil _ _ _ _ _ | exact Kd.V_nil _ _ _ _ _ | exact Kd.Q_nil _ _ _ _ _ | exact Kd.S_nil _ _ _ _ _, by repeat (first | exact HB.out | apply below_alloc | apply pw_below_drewN | apply below_drew1 | refine below_set ?_ GE22001.out | refine below_set ?_ GE22009.out | refine below_set ?_ GE22011.out)⟩
           ·rw [if_neg c31] at H
            exact absurd H (by simp)
          ·rw [if_neg c30] at H
           exact absurd H (by simp)
         ·rw [if_neg c28] at H
          have c28b0 : decide (x47_2 < (wrap64 ((l0.length : Int) - 1))) = false := decide_eq_false c28
          clear c28
          simp only [Option.some.injEq, Prod.mk.injEq] at H
          obtain ⟨rfl, rfl, rfl, rfl⟩ := H
          have hnb55 := NB22009_22001.out
          have hnc55 := NB22001_22009.out
          have hcz56_0 : wr.cell? ⟨gb22009, 0, none⟩ = some (.int .i64 x22010000_2) := (blk_cell BK22009.out 0).trans rfl
          have hcz56_1 : wr.cell? ⟨gb22009, 1, none⟩ = some (u22010001) := (blk_cell BK22009.out 1).trans rfl
          have hcz56_2 : wr.cell? ⟨gb22009, 2, none⟩ = some (.int .i64 x22010002_2) := (blk_cell BK22009.out 2).trans rfl
          have hfz56_0 := blk_frozen BK22009.out 0
          have hfz56_1 := blk_frozen BK22009.out 1
          have hfz56_2 := blk_frozen BK22009.out 2
          have hcz57_0 : wr.cell? ⟨gb22001, 0, none⟩ = some (.int .i64 x22002000_2) := (blk_cell BK22001.out 0).trans rfl
          have hcz57_1 : wr.cell? ⟨gb22001, 1, none⟩ = some (.slice none 0 0) := (blk_cell BK22001.out 1).trans rfl
          have hcz57_2 : wr.cell? ⟨gb22001, 2, none⟩ = some (.int .i64 x22002002_2) := (blk_cell BK22001.out 2).trans rfl
          have hfz57_0 := blk_frozen BK22001.out 0
          have hfz57_1 := blk_frozen BK22001.out 1
          have hfz57_2 := blk_frozen BK22001.out 2
          obtain ⟨Ao58, co58, eo58⟩ := Kd.R_slice HO_22010001.out
          subst eo58
          go_wp2
          refine bodyPost_ret (results_ct rfl _ _ gb22001 25 #[.int .i64 x22010000_2, .slice Ao58 x22010001_2.length co58, .int .i64 x22010002_2] (0, 0) _ rfl (by refine blk_put (cs := #[.int .i64 x22010000_2, .slice Ao58 x22010001_2.length co58, .int .i64 x22002002_2]) ?_ 2 _ rfl; refine blk_put (cs := #[.int .i64 x22010000_2, .slice none 0 0, .int .i64 x22002002_2]) ?_ 1 _ rfl; refine blk_put (cs := #[.int .i64 x22002000_2, .slice none 0 0, .int .i64 x22002002_2]) ?_ 0 _ rfl; exact BK22001.out) Try.underlying25 rfl (by kernel_rfl)) rfl ?_
          exact ⟨_, by first | rfl | (simp [errW_none, errW_some] <;> rfl) | (simp [*, errW_none, errW_some] <;> rfl), by exact Kd.R_mono (Kd.R_far (p := ⟨gb22001, 2, none⟩) (Kd.R_far (p := ⟨gb22001, 1, none⟩) (Kd.R_far (p := ⟨gb22001, 0, none⟩) (Kd.R_types HO_22010001.out BK22001.out (by decide)) (fun _ hk => hk.2) (.int .i64 x22010000_2)) (fun _ hk => hk.2) (.slice Ao58 x22010001_2.length co58)) (fun _ hk => hk.2) (.int .i64 x22010002_2)) (fun _ hk => trivial), by repeat (first | exact HB.out | apply below_alloc | apply pw_below_drewN | apply below_drew1 | refine below_set ?_ GE22001.out | refine below_set ?_ GE22009.out)⟩
      ·rw [if_neg c17] at H
       exact absurd H (by simp)

end Go.Proofs.Ytnfcpcgbdoiiiaa.G

namespace Go.Proofs.Ytnfcpcgbdoiiiaa.G
open Go.RowKit Go.Proofs.YtnfcpcgbdoiiiaaW.PrintWords Go.Proofs.YtnfcpcgbdoiiiaaW.PrintLast Go.Proofs.YtnfcpcgbdoiiiaaW.PrintMore
attribute [local go_sem] max2_int min2_int max_two min_two max_three min_three max_four min_four   -- for this text's walks alone
set_option linter.unusedVariables false
set_option linter.unusedSimpArgs false

attribute [local go_sem high] eqA50
def papermillref52_Spans.l0 : Nat → List (S50) → List (S50) → Int → Option (Bool)
 | 0, _, _, _ => none
 | k + 1, x0, x1, x5 => if x5 < (x0.length : Int) then (if 0 ≤ x5 then (if x5 < (x1.length : Int) then (if (!(((rd_T50 x0 x5).f0) == ((rd_T50 x1 x5).f0)) || (!(((rd_T50 x0 x5).f1) == ((rd_T50 x1 x5).f1)))) = true then (some false) else (papermillref52_Spans.l0 k x0 x1 (wrap64 (x5 + 1)))) else (none)) else (none)) else (some true)
def papermillref52_Spans.f (k : Nat) (l0 : List (S50)) (l1 : List (S50)) : Option (Bool) := if (l0.length : Int) = (l1.length : Int) then (papermillref52_Spans.l0 k l0 l1 0) else (some false)
theorem papermillref52_Spans.mono_l : ∀ k, (∀ y0 y1 y2, LeO (papermillref52_Spans.l0 k y0 y1 y2) (papermillref52_Spans.l0 (k + 1) y0 y1 y2))
 | 0 => fun _ _ _ r h => by simp [papermillref52_Spans.l0] at h
 | k + 1 => by
  have ih0 := papermillref52_Spans.mono_l k
  ·intro y0 y1 y2
   unfold papermillref52_Spans.l0
   repeat' first
   | (with_reducible exact ih0 _ _ _)
   | (with_reducible exact LeO.refl _)
   | (with_reducible exact LeO.none _)
   | (with_reducible refine LeO.ite ?_ ?_)
   | (with_reducible refine LeO.bind ?_ (fun _ => ?_))
   | exact ih0 _ _ _
   | exact LeO.none _
   | refine LeO.ite ?_ ?_
   | refine LeO.bind ?_ (fun _ => ?_)
theorem papermillref52_Spans.mono : ∀ a0 a1 k, LeO (papermillref52_Spans.f k a0 a1) (papermillref52_Spans.f (k + 1) a0 a1) := by
 intro a0 a1 k
 have ih0 := papermillref52_Spans.mono_l k
 unfold papermillref52_Spans.f
 repeat' first
   | (with_reducible exact ih0 _ _ _)
   | (with_reducible exact LeO.refl _)
   | (with_reducible exact LeO.none _)
   | (with_reducible refine LeO.ite ?_ ?_)
   | (with_reducible refine LeO.bind ?_ (fun _ => ?_))
   | exact ih0 _ _ _
   | exact LeO.none _
   | refine LeO.ite ?_ ?_
   | refine LeO.bind ?_ (fun _ => ?_)
set_option maxHeartbeats 8000000 in
set_option maxRecDepth 100000 in
theorem papermillref52_Spans.calls (k : Nat) (A0 : Option Addr) (c0 : Nat) (l0 : List (S50)) (A1 : Option Addr) (c1 : Nat) (l1 : List (S50)) (r : Bool) (w : World) (hr0 : Kd.C k50 w A0 l0.length l0) (hc0 : l0.length ≤ c0) (hr1 : Kd.C k50 w A1 l1.length l1) (hc1 : l1.length ≤ c1) (h : papermillref52_Spans.f k l0 l1 = some r) :
  Calls Try.prog 38 #[.slice A0 l0.length c0, .slice A1 l1.length c1] w fun e w' => e = .returned (.bool r) ∧ Drawn0 w w' := by
 have hu50 := Try.underlying50
 have HR0 := Aside0.mk hr0
 have HC0 := Aside0.mk hc0
 clear hr0 hc0
 have HR1 := Aside0.mk hr1
 have HC1 := Aside0.mk hc1
 clear hr1 hc1
 have H : (if (l0.length : Int) = (l1.length : Int) then (papermillref52_Spans.l0 k l0 l1 0) else (some false)) = some r := h
 clear h
 by_cases c3 : (l0.length : Int) = (l1.length : Int)
 ·rw [if_pos c3] at H
  have c3b0 : ((l0.length : Int) == (l1.length : Int)) = true := beq_iff_eq.mpr c3
  have c3b1 : ((l0.length : Int) != (l1.length : Int)) = false := bne_eq_false_iff_eq.mpr c3
  have c3b2 : (l0.length == l1.length) = true := by first | simpa using c3 | (simp at c3 ⊢; omega)
  clear c3
  have H' := Aside0.mk H
  clear H
  go_enter Try.func38, Try.ntmps38
  go_wp2
  repeat (go_quiet (fail); try go_wp2)
  go_loopg [5] k (fun kq v5 w' => ∃ (x5_1 : Int), v5 = .int .i64 x5_1 ∧ Aside0 (papermillref52_Spans.l0 kq l0 l1 x5_1 = some r) ∧ Aside0 (kq ≤ k) ∧ Drawn0 w w')
  case atStart => exact ⟨(0), (by first | rfl | (simp; done) | (simp [*]; done)), H', ⟨Nat.le_refl _⟩, by repeat (first | exact Drawn0.refl _ | apply Drawn0.step)⟩
  case round =>
   clear H'
   try clear c1
   try clear p2
   try clear c3
   try clear c3b0
   try clear c3b1
   try clear c3b2
   obtain ⟨x5_1, rfl, HA, HK1, ⟨m1, rfl⟩⟩ := hrel
   cases gk with
   | zero => exact absurd HA.out (by simp [papermillref52_Spans.l0])
   | succ k1 =>
    have H := HA.out
    clear HA
    simp only [papermillref52_Spans.l0] at H
    by_cases c4 : x5_1 < (l0.length : Int)
    ·rw [if_pos c4] at H
     have c4b0 : decide (x5_1 < (l0.length : Int)) = true := decide_eq_true c4
     clear c4
     by_cases c5 : 0 ≤ x5_1
     ·rw [if_pos c5] at H
      have c5b0 : decide (0 ≤ x5_1) = true := decide_eq_true c5
      clear c5
      by_cases c6 : x5_1 < (l1.length : Int)
      ·rw [if_pos c6] at H
       have c6b0 : decide (x5_1 < (l1.length : Int)) = true := decide_eq_true c6
       clear c6
       by_cases c7 : (!(((rd_T50 l0 x5_1).f0) == ((rd_T50 l1 x5_1).f0)) || (!(((rd_T50 l0 x5_1).f1) == ((rd_T50 l1 x5_1).f1)))) = true
       ·rw [if_pos c7] at H
        have c7b0 : (!(((rd_T50 l0 x5_1).f0) == ((rd_T50 l1 x5_1).f0)) || (!(((rd_T50 l0 x5_1).f1) == ((rd_T50 l1 x5_1).f1)))) = true := c7
        clear c7
        obtain rfl := Option.some.inj H
        have p39001 : 0 ≤ (x5_1 : Int) := of_decide_eq_true (by assumption)
        have q39001 : x5_1 < (l0.length : Int) := of_decide_eq_true (by assumption)
        obtain ⟨ad39001, e39001, hx39001_0, hx39001_1⟩ := at_T50 HR0.out x5_1 p39001 q39001
        cases e39001
        replace p39001 := eq_true p39001
        replace q39001 := eq_true q39001
        have p39002 : 0 ≤ (x5_1 : Int) := of_decide_eq_true (by assumption)
        have q39002 : x5_1 < (l1.length : Int) := of_decide_eq_true (by assumption)
        obtain ⟨ad39002, e39002, hx39002_0, hx39002_1⟩ := at_T50 HR1.out x5_1 p39002 q39002
        cases e39002
        replace p39002 := eq_true p39002
        replace q39002 := eq_true q39002
        go_wp2
        repeat (go_quiet (fail); try go_wp2)
        go_ret
        exact ⟨by first | rfl | (simp; done) | (simp [*]; done), by repeat (first | exact Drawn0.refl _ | apply Drawn0.step)⟩
       ·rw [if_neg c7] at H
        have c7b0 : (!(((rd_T50 l0 x5_1).f0) == ((rd_T50 l1 x5_1).f0)) || (!(((rd_T50 l0 x5_1).f1) == ((rd_T50 l1 x5_1).f1)))) = false := by simpa using c7
        clear c7
        have H' := Aside0.mk H
        clear H
        have p39001 : 0 ≤ (x5_1 : Int) := of_decide_eq_true (by assumption)
        have q39001 : x5_1 < (l0.length : Int) := of_decide_eq_true (by assumption)
        obtain ⟨ad39001, e39001, hx39001_0, hx39001_1⟩ := at_T50 HR0.out x5_1 p39001 q39001
        cases e39001
        replace p39001 := eq_true p39001
        replace q39001 := eq_true q39001
        have p39002 : 0 ≤ (x5_1 : Int) := of_decide_eq_true (by assumption)
        have q39002 : x5_1 < (l1.length : Int) := of_decide_eq_true (by assumption)
        obtain ⟨ad39002, e39002, hx39002_0, hx39002_1⟩ := at_T50 HR1.out x5_1 p39002 q39002
        cases e39002
        replace p39002 := eq_true p39002
        replace q39002 := eq_true q39002
        go_wp2
        repeat (go_quiet (fail); try go_wp2)
        go_roundg k1
        case measure => have := HK1.out; omega
        case rel => exact ⟨(wrap64 (x5_1 + 1)), (by first | rfl | (simp; done) | (simp [*]; done)), H', ⟨by have := HK1.out; omega⟩, by repeat (first | exact Drawn0.refl _ | apply Drawn0.step)⟩
      ·rw [if_neg c6] at H
       exact absurd H (by simp)
     ·rw [if_neg c5] at H
      exact absurd H (by simp)
    ·rw [if_neg c4] at H
     have c4b0 : decide (x5_1 < (l0.length : Int)) = false := decide_eq_false c4
     clear c4
     obtain rfl := Option.some.inj H
     go_wp2
     repeat (go_quiet (fail); try go_wp2)
     go_ret
     exact ⟨by first | rfl | (simp; done) | (simp [*]; done), by repeat (first | exact Drawn0.refl _ | apply Drawn0.step)⟩
 ·rw [if_neg c3] at H
  have c3b0 : ((l0.length : Int) == (l1.length : Int)) = false := beq_eq_false_iff_ne.mpr c3
  have c3b1 : ((l0.length : Int) != (l1.length : Int)) = true := bne_iff_ne.mpr c3
  have c3b2 : (l0.length == l1.length) = false := by first | simpa using c3 | (simp at c3 ⊢; omega)
  obtain rfl := Option.some.inj H
  go_enter Try.func38, Try.ntmps38
  go_wp2
  repeat (go_quiet (fail); try go_wp2)
  go_ret
  exact ⟨by first | rfl | (simp; done) | (simp [*]; done), by repeat (first | exact Drawn0.refl _ | apply Drawn0.step)⟩

end Go.Proofs.Ytnfcpcgbdoiiiaa.G

namespace Go.Proofs.Ytnfcpcgbdoiiiaa.G
open Go.RowKit Go.Proofs.YtnfcpcgbdoiiiaaW.PrintWords Go.Proofs.YtnfcpcgbdoiiiaaW.PrintLast Go.Proofs.YtnfcpcgbdoiiiaaW.PrintMore
attribute [local go_sem] max2_int min2_int max_two min_two max_three min_three max_four min_four   -- for this text's walks alone
set_option linter.unusedVariables false
set_option linter.unusedSimpArgs false

def papermillref52_Same.f (k : Nat) (a0_0 : Int) (l0_1 : List (S50)) (a0_2 : Int) (a1_0 : Int) (l1_1 : List (S50)) (a1_2 : Int) : Option (Bool) := if a0_0 = a1_0 then (if a0_2 = a1_2 then ((papermillref52_Spans.f k l0_1 l1_1).bind fun t16003 => (some t16003)) else (some false)) else (some false)
theorem papermillref52_Same.mono : ∀ a0 a1 a2 a3 a4 a5 k, LeO (papermillref52_Same.f k a0 a1 a2 a3 a4 a5) (papermillref52_Same.f (k + 1) a0 a1 a2 a3 a4 a5) := by
 intro a0 a1 a2 a3 a4 a5 k
 unfold papermillref52_Same.f
 repeat' first
   | (with_reducible exact papermillref52_Spans.mono _ _ _)
   | (with_reducible exact LeO.refl _)
   | (with_reducible exact LeO.none _)
   | (with_reducible refine LeO.ite ?_ ?_)
   | (with_reducible refine LeO.bind ?_ (fun _ => ?_))
   | exact papermillref52_Spans.mono _ _ _
   | exact LeO.none _
   | refine LeO.ite ?_ ?_
   | refine LeO.bind ?_ (fun _ => ?_)
set_option maxHeartbeats 8000000 in
set_option maxRecDepth 100000 in
theorem papermillref52_Same.calls (k : Nat) (a0_0 : Int) (A0_1 : Option Addr) (c0_1 : Nat) (l0_1 : List (S50)) (a0_2 : Int) (a1_0 : Int) (A1_1 : Option Addr) (c1_1 : Nat) (l1_1 : List (S50)) (a1_2 : Int) (r : Bool) (w : World) (hr0_1 : Kd.C k50 w A0_1 l0_1.length l0_1) (hc0_1 : l0_1.length ≤ c0_1) (hr1_1 : Kd.C k50 w A1_1 l1_1.length l1_1) (hc1_1 : l1_1.length ≤ c1_1) (h : papermillref52_Same.f k a0_0 l0_1 a0_2 a1_0 l1_1 a1_2 = some r) :
  Calls Try.prog 15 #[.agg #[.int .i64 a0_0, .slice A0_1 l0_1.length c0_1, .int .i64 a0_2], .agg #[.int .i64 a1_0, .slice A1_1 l1_1.length c1_1, .int .i64 a1_2]] w fun e w' => e = .returned (.bool r) ∧ Below w.heap.size w w' := by
 have hu25 := Try.underlying25
 have HR0_1 := Aside0.mk hr0_1
 have HC0_1 := Aside0.mk hc0_1
 clear hr0_1 hc0_1
 have HR1_1 := Aside0.mk hr1_1
 have HC1_1 := Aside0.mk hc1_1
 clear hr1_1 hc1_1
 have HB := Aside0.mk (Below.refl w.heap.size w)
 have H : (if a0_0 = a1_0 then (if a0_2 = a1_2 then ((papermillref52_Spans.f k l0_1 l1_1).bind fun t16003 => (some t16003)) else (some false)) else (some false)) = some r := h
 clear h
 by_cases c3 : a0_0 = a1_0
 ·rw [if_pos c3] at H
  have c3b0 : (a0_0 == a1_0) = true := beq_iff_eq.mpr c3
  have c3b1 : (a0_0 != a1_0) = false := bne_eq_false_iff_eq.mpr c3
  clear c3
  by_cases c4 : a0_2 = a1_2
  ·rw [if_pos c4] at H
   have c4b0 : (a0_2 == a1_2) = true := beq_iff_eq.mpr c4
   have c4b1 : (a0_2 != a1_2) = false := bne_eq_false_iff_eq.mpr c4
   clear c4
   replace H := Option.bind_eq_some_iff.mp H
   obtain ⟨t16003, A50, H⟩ := H
   replace H : (some t16003) = some r := H
   have A5 := Aside0.mk A50
   clear A50
   obtain rfl := Option.some.inj H
   go_enter Try.func15, Try.ntmps15
   go_wp2_with (first | ((with_reducible refine gate_dst (N := 2) rfl ?_); refine box_event ?hg (N := 2) ?hd (cs := #[.int .i64 a0_0, .slice A0_1 l0_1.length c0_1, .int .i64 a0_2]) (t := 25) ?hr ?_; (case hd => rfl); (case hg => rfl); (case hr => first | (go_simp; done) | (go_simp; rfl)); intro gb16001 hg w6 hbox hb; have n0_ := Aside0.mk (below_step (by repeat (first | exact HB.out | apply below_alloc | apply pw_below_drewN | apply below_drew1)) hb); have n1_ := Aside0.mk (hbox); have n2_ := Aside0.mk ((by rw [hg]; exact (below_size (by repeat (first | exact HB.out | apply below_alloc | apply pw_below_drewN | apply below_drew1))) : w.heap.size ≤ gb16001)); have n3_ := Aside0.mk ((by rw [hg]; exact (below_size (by repeat (first | exact HB.out | apply below_alloc | apply pw_below_drewN | apply below_drew1))) : w.heap.size ≤ gb16001)); clear HB; have HB := n0_; have BK16001 := n1_; have GW16001 := n2_; have GE16001 := n3_; clear n0_ n1_ n2_ n3_; clear hb hbox hg) | ((with_reducible refine gate_dst (N := 3) rfl ?_); refine box_event ?hg (N := 3) ?hd (cs := #[.int .i64 a1_0, .slice A1_1 l1_1.length c1_1, .int .i64 a1_2]) (t := 25) ?hr ?_; (case hd => rfl); (case hg => rfl); (case hr => first | (go_simp; done) | (go_simp; rfl)); intro gb16002 hg w7 hbox hb; have n0_ := Aside0.mk (blk_below (g := gb16001) (o := .cells #[.int .i64 a0_0, .slice A0_1 l0_1.length c0_1, .int .i64 a0_2] 25 (0, 0)) (BK16001.out) hb); have n1_ := Aside0.mk (below_step (by repeat (first | exact HB.out | apply below_alloc | apply pw_below_drewN | apply below_drew1 | refine below_set ?_ GE16001.out)) hb); have n2_ := Aside0.mk (hbox); have n3_ := Aside0.mk ((by rw [hg]; exact (below_size (by repeat (first | exact HB.out | apply below_alloc | apply pw_below_drewN | apply below_drew1 | refine below_set ?_ GE16001.out))) : w.heap.size ≤ gb16002)); have n4_ := Aside0.mk ((by rw [hg]; exact (below_size (by repeat (first | exact HB.out | apply below_alloc | apply pw_below_drewN | apply below_drew1 | refine below_set ?_ GE16001.out))) : w.heap.size ≤ gb16002)); have n5_ := Aside0.mk ((by rw [hg]; exact Nat.ne_of_lt (blk_lt (g := gb16001) (o := .cells #[.int .i64 a0_0, .slice A0_1 l0_1.length c0_1, .int .i64 a0_2] 25 (0, 0)) (BK16001.out)) : gb16001 ≠ gb16002)); have n6_ := Aside0.mk ((by rw [hg]; exact Nat.ne_of_gt (blk_lt (g := gb16001) (o := .cells #[.int .i64 a0_0, .slice A0_1 l0_1.length c0_1, .int .i64 a0_2] 25 (0, 0)) (BK16001.out)) : gb16002 ≠ gb16001)); clear BK16001; clear HB; have BK16001 := n0_; have HB := n1_; have BK16002 := n2_; have GW16002 := n3_; have GE16002 := n4_; have NB16001_16002 := n5_; have NB16002_16001 := n6_; clear n0_ n1_ n2_ n3_ n4_ n5_ n6_; clear hb hbox hg; have hnb8 := NB16001_16002.out; have hnc8 := NB16002_16001.out; have hcz9_0 : w7.cell? ⟨gb16001, 0, none⟩ = some (.int .i64 a0_0) := (blk_cell BK16001.out 0).trans rfl; have hcz9_1 : w7.cell? ⟨gb16001, 1, none⟩ = some (.slice A0_1 l0_1.length c0_1) := (blk_cell BK16001.out 1).trans rfl; have hcz9_2 : w7.cell? ⟨gb16001, 2, none⟩ = some (.int .i64 a0_2) := (blk_cell BK16001.out 2).trans rfl; have hfz9_0 := blk_frozen BK16001.out 0; have hfz9_1 := blk_frozen BK16001.out 1; have hfz9_2 := blk_frozen BK16001.out 2; have hcz10_0 : w7.cell? ⟨gb16002, 0, none⟩ = some (.int .i64 a1_0) := (blk_cell BK16002.out 0).trans rfl; have hcz10_1 : w7.cell? ⟨gb16002, 1, none⟩ = some (.slice A1_1 l1_1.length c1_1) := (blk_cell BK16002.out 1).trans rfl; have hcz10_2 : w7.cell? ⟨gb16002, 2, none⟩ = some (.int .i64 a1_2) := (blk_cell BK16002.out 2).trans rfl; have hfz10_0 := blk_frozen BK16002.out 0; have hfz10_1 := blk_frozen BK16002.out 1; have hfz10_2 := blk_frozen BK16002.out 2) | (go_at_call 38; (with_reducible refine (papermillref52_Spans.calls k _ _ l0_1 _ _ l1_1 t16003 _ ?side1 ?side2 ?side3 ?side4 A5.out).mono ?_); (case side1 => exact (Kd.C_below HR0_1.out HB.out)); (case side2 => exact HC0_1.out); (case side3 => exact (Kd.C_below HR1_1.out HB.out)); (case side4 => exact HC1_1.out); rintro e w' ⟨rfl, ⟨nd, rfl⟩⟩))
   go_ret
   exact ⟨by first | rfl | (simp [errW_none, errW_some] <;> rfl) | (simp [*, errW_none, errW_some] <;> rfl), by repeat (first | exact HB.out | apply below_alloc | apply pw_below_drewN | apply below_drew1 | refine below_set ?_ GE16001.out | refine below_set ?_ GE16002.out)⟩
  ·rw [if_neg c4] at H
   have c4b0 : (a0_2 == a1_2) = false := beq_eq_false_iff_ne.mpr c4
   have c4b1 : (a0_2 != a1_2) = true := bne_iff_ne.mpr c4
   obtain rfl := Option.some.inj H
   go_enter Try.func15, Try.ntmps15
   go_wp2_with (first | ((with_reducible refine gate_dst (N := 2) rfl ?_); refine box_event ?hg (N := 2) ?hd (cs := #[.int .i64 a0_0, .slice A0_1 l0_1.length c0_1, .int .i64 a0_2]) (t := 25) ?hr ?_; (case hd => rfl); (case hg => rfl); (case hr => first | (go_simp; done) | (go_simp; rfl)); intro gb16001 hg w11 hbox hb; have n0_ := Aside0.mk (below_step (by repeat (first | exact HB.out | apply below_alloc | apply pw_below_drewN | apply below_drew1)) hb); have n1_ := Aside0.mk (hbox); have n2_ := Aside0.mk ((by rw [hg]; exact (below_size (by repeat (first | exact HB.out | apply below_alloc | apply pw_below_drewN | apply below_drew1))) : w.heap.size ≤ gb16001)); have n3_ := Aside0.mk ((by rw [hg]; exact (below_size (by repeat (first | exact HB.out | apply below_alloc | apply pw_below_drewN | apply below_drew1))) : w.heap.size ≤ gb16001)); clear HB; have HB := n0_; have BK16001 := n1_; have GW16001 := n2_; have GE16001 := n3_; clear n0_ n1_ n2_ n3_; clear hb hbox hg) | ((with_reducible refine gate_dst (N := 3) rfl ?_); refine box_event ?hg (N := 3) ?hd (cs := #[.int .i64 a1_0, .slice A1_1 l1_1.length c1_1, .int .i64 a1_2]) (t := 25) ?hr ?_; (case hd => rfl); (case hg => rfl); (case hr => first | (go_simp; done) | (go_simp; rfl)); intro gb16002 hg w12 hbox hb; have n0_ := Aside0.mk (blk_below (g := gb16001) (o := .cells #[.int .i64 a0_0, .slice A0_1 l0_1.length c0_1, .int .i64 a0_2] 25 (0, 0)) (BK16001.out) hb); have n1_ := Aside0.mk (below_step (by repeat (first | exact HB.out | apply below_alloc | apply pw_below_drewN | apply below_drew1 | refine below_set ?_ GE16001.out)) hb); have n2_ := Aside0.mk (hbox); have n3_ := Aside0.mk ((by rw [hg]; exact (below_size (by repeat (first | exact HB.out | apply below_alloc | apply pw_below_drewN | apply below_drew1 | refine below_set ?_ GE16001.out))) : w.heap.size ≤ gb16002)); have n4_ := Aside0.mk ((by rw [hg]; exact (below_size (by repeat (first | exact HB.out | apply below_alloc | apply pw_below_drewN | apply below_drew1 | refine below_set ?_ GE16001.out))) : w.heap.size ≤ gb16002)); have n5_ := Aside0.mk ((by rw [hg]; exact Nat.ne_of_lt (blk_lt (g := gb16001) (o := .cells #[.int .i64 a0_0, .slice A0_1 l0_1.length c0_1, .int .i64 a0_2] 25 (0, 0)) (BK16001.out)) : gb16001 ≠ gb16002)); have n6_ := Aside0.mk ((by rw [hg]; exact Nat.ne_of_gt (blk_lt (g := gb16001) (o := .cells #[.int .i64 a0_0, .slice A0_1 l0_1.length c0_1, .int .i64 a0_2] 25 (0, 0)) (BK16001.out)) : gb16002 ≠ gb16001)); clear BK16001; clear HB; have BK16001 := n0_; have HB := n1_; have BK16002 := n2_; have GW16002 := n3_; have GE16002 := n4_; have NB16001_16002 := n5_; have NB16002_16001 := n6_; clear n0_ n1_ n2_ n3_ n4_ n5_ n6_; clear hb hbox hg; have hnb13 := NB16001_16002.out; have hnc13 := NB16002_16001.out; have hcz14_0 : w12.cell? ⟨gb16001, 0, none⟩ = some (.int .i64 a0_0) := (blk_cell BK16001.out 0).trans rfl; have hcz14_1 : w12.cell? ⟨gb16001, 1, none⟩ = some (.slice A0_1 l0_1.length c0_1) := (blk_cell BK16001.out 1).trans rfl; have hcz14_2 : w12.cell? ⟨gb16001, 2, none⟩ = some (.int .i64 a0_2) := (blk_cell BK16001.out 2).trans rfl; have hfz14_0 := blk_frozen BK16001.out 0; have hfz14_1 := blk_frozen BK16001.out 1; have hfz14_2 := blk_frozen BK16001.out 2; have hcz15_0 : w12.cell? ⟨gb16002, 0, none⟩ = some (.int .i64 a1_0) := (blk_cell BK16002.out 0).trans rfl; have hcz15_1 : w12.cell? ⟨gb16002, 1, none⟩ = some (.slice A1_1 l1_1.length c1_1) := (blk_cell BK16002.out 1).trans rfl; have hcz15_2 : w12.cell? ⟨gb16002, 2, none⟩ = some (.int .i64 a1_2) := (blk_cell BK16002.out 2).trans rfl; have hfz15_0 := blk_frozen BK16002.out 0; have hfz15_1 := blk_frozen BK16002.out 1; have hfz15_2 := blk_frozen BK16002.out 2))
   go_ret
   exact ⟨by first | rfl | (simp [errW_none, errW_some] <;> rfl) | (simp [*, errW_none, errW_some] <;> rfl), by repeat (first | exact HB.out | apply below_alloc | apply pw_below_drewN | apply below_drew1 | refine below_set ?_ GE16001.out | refine below_set ?_ GE16002.out)⟩
 ·rw [if_neg c3] at H
  have c3b0 : (a0_0 == a1_0) = false := beq_eq_false_iff_ne.mpr c3
  have c3b1 : (a0_0 != a1_0) = true := bne_iff_ne.mpr c3
  obtain rfl := Option.some.inj H
  go_enter Try.func15, Try.ntmps15
  go_wp2_with (first | ((with_reducible refine gate_dst (N := 2) rfl ?_); refine box_event ?hg (N := 2) ?hd (cs := #[.int .i64 a0_0, .slice A0_1 l0_1.length c0_1, .int .i64 a0_2]) (t := 25) ?hr ?_; (case hd => rfl); (case hg => rfl); (case hr => first | (go_simp; done) | (go_simp; rfl)); intro gb16001 hg w16 hbox hb; have n0_ := Aside0.mk (below_step (by repeat (first | exact HB.out | apply below_alloc | apply pw_below_drewN | apply below_drew1)) hb); have n1_ := Aside0.mk (hbox); have n2_ := Aside0.mk ((by rw [hg]; exact (below_size (by repeat (first | exact HB.out | apply below_alloc | apply pw_below_drewN | apply below_drew1))) : w.heap.size ≤ gb16001)); have n3_ := Aside0.mk ((by rw [hg]; exact (below_size (by repeat (first | exact HB.out | apply below_alloc | apply pw_below_drewN | apply below_drew1))) : w.heap.size ≤ gb16001)); clear HB; have HB := n0_; have BK16001 := n1_; have GW16001 := n2_; have GE16001 := n3_; clear n0_ n1_ n2_ n3_; clear hb hbox hg) | ((with_reducible refine gate_dst (N := 3) rfl ?_); refine box_event ?hg (N := 3) ?hd (cs := #[.int .i64 a1_0, .slice A1_1 l1_1.length c1_1, .int .i64 a1_2]) (t := 25) ?hr ?_; (case hd => rfl); (case hg => rfl); (case hr => first | (go_simp; done) | (go_simp; rfl)); intro gb16002 hg w17 hbox hb; have n0_ := Aside0.mk (blk_below (g := gb16001) (o := .cells #[.int .i64 a0_0, .slice A0_1 l0_1.length c0_1, .int .i64 a0_2] 25 (0, 0)) (BK16001.out) hb); have n1_ := Aside0.mk (below_step (by repeat (first | exact HB.out | apply below_alloc | apply pw_below_drewN | apply below_drew1 | refine below_set ?_ GE16001.out)) hb); have n2_ := Aside0.mk (hbox); have n3_ := Aside0.mk ((by rw [hg]; exact (below_size (by repeat (first | exact HB.out | apply below_alloc | apply pw_below_drewN | apply below_drew1 | refine below_set ?_ GE16001.out))) : w.heap.size ≤ gb16002)); have n4_ := Aside0.mk ((by rw [hg]; exact (below_size (by repeat (first | exact HB.out | apply below_alloc | apply pw_below_drewN | apply below_drew1 | refine below_set ?_ GE16001.out))) : w.heap.size ≤ gb16002)); have n5_ := Aside0.mk ((by rw [hg]; exact Nat.ne_of_lt (blk_lt (g := gb16001) (o := .cells #[.int .i64 a0_0, .slice A0_1 l0_1.length c0_1, .int .i64 a0_2] 25 (0, 0)) (BK16001.out)) : gb16001 ≠ gb16002)); have n6_ := Aside0.mk ((by rw [hg]; exact Nat.ne_of_gt (blk_lt (g := gb16001) (o := .cells #[.int .i64 a0_0, .slice A0_1 l0_1.length c0_1, .int .i64 a0_2] 25 (0, 0)) (BK16001.out)) : gb16002 ≠ gb16001)); clear BK16001; clear HB; have BK16001 := n0_; have HB := n1_; have BK16002 := n2_; have GW16002 := n3_; have GE16002 := n4_; have NB16001_16002 := n5_; have NB16002_16001 := n6_; clear n0_ n1_ n2_ n3_ n4_ n5_ n6_; clear hb hbox hg; have hnb18 := NB16001_16002.out; have hnc18 := NB16002_16001.out; have hcz19_0 : w17.cell? ⟨gb16001, 0, none⟩ = some (.int .i64 a0_0) := (blk_cell BK16001.out 0).trans rfl; have hcz19_1 : w17.cell? ⟨gb16001, 1, none⟩ = some (.slice A0_1 l0_1.length c0_1) := (blk_cell BK16001.out 1).trans rfl; have hcz19_2 : w17.cell? ⟨gb16001, 2, none⟩ = some (.int .i64 a0_2) := (blk_cell BK16001.out 2).trans rfl; have hfz19_0 := blk_frozen BK16001.out 0; have hfz19_1 := blk_frozen BK16001.out 1; have hfz19_2 := blk_frozen BK16001.out 2; have hcz20_0 : w17.cell? ⟨gb16002, 0, none⟩ = some (.int .i64 a1_0) := (blk_cell BK16002.out 0).trans rfl; have hcz20_1 : w17.cell? ⟨gb16002, 1, none⟩ = some (.slice A1_1 l1_1.length c1_1) := (blk_cell BK16002.out 1).trans rfl; have hcz20_2 : w17.cell? ⟨gb16002, 2, none⟩ = some (.int .i64 a1_2) := (blk_cell BK16002.out 2).trans rfl; have hfz20_0 := blk_frozen BK16002.out 0; have hfz20_1 := blk_frozen BK16002.out 1; have hfz20_2 := blk_frozen BK16002.out 2))
  go_ret
  exact ⟨by first | rfl | (simp [errW_none, errW_some] <;> rfl) | (simp [*, errW_none, errW_some] <;> rfl), by repeat (first | exact HB.out | apply below_alloc | apply pw_below_drewN | apply below_drew1 | refine below_set ?_ GE16001.out | refine below_set ?_ GE16002.out)⟩

end Go.Proofs.Ytnfcpcgbdoiiiaa.G

namespace Go.Proofs.Ytnfcpcgbdoiiiaa.G
open Go.RowKit Go.Proofs.YtnfcpcgbdoiiiaaW.PrintWords Go.Proofs.YtnfcpcgbdoiiiaaW.PrintLast Go.Proofs.YtnfcpcgbdoiiiaaW.PrintMore
attribute [local go_sem] max2_int min2_int max_two min_two max_three min_three max_four min_four   -- for this text's walks alone
set_option linter.unusedVariables false
set_option linter.unusedSimpArgs false

def papermillref04_Has.l0 : Nat → List (S50) → Int → Int → Option (Bool)
  | 0, _, _, _ => none
  | k + 1, x0, x1, x5 => if x5 < (x0.length : Int) then (if 0 ≤ x5 then (if ((rd_T50 x0 x5).f0) ≤ x1 then (if x1 < ((rd_T50 x0 x5).f1) then (some true) else (papermillref04_Has.l0 k x0 x1 (wrap64 (x5 + 1)))) else (papermillref04_Has.l0 k x0 x1 (wrap64 (x5 + 1)))) else (none)) else (some false)
def papermillref04_Has.f (k : Nat) (l0 : List (S50)) (a1 : Int) : Option (Bool) := papermillref04_Has.l0 k l0 a1 0
theorem papermillref04_Has.mono_l : ∀ k, (∀ y0 y1 y2, LeO (papermillref04_Has.l0 k y0 y1 y2) (papermillref04_Has.l0 (k + 1) y0 y1 y2))
  | 0 => fun _ _ _ r h => by simp [papermillref04_Has.l0] at h
  | k + 1 => by
    have ih0 := papermillref04_Has.mono_l k
    · intro y0 y1 y2
      unfold papermillref04_Has.l0
      repeat' first
      | (with_reducible exact ih0 _ _ _)
      | (with_reducible exact LeO.refl _)
      | (with_reducible exact LeO.none _)
      | (with_reducible refine LeO.ite ?_ ?_)
      | (with_reducible refine LeO.bind ?_ (fun _ => ?_))
      | exact ih0 _ _ _
      | exact LeO.none _
      | refine LeO.ite ?_ ?_
      | refine LeO.bind ?_ (fun _ => ?_)
theorem papermillref04_Has.mono : ∀ a0 a1 k, LeO (papermillref04_Has.f k a0 a1) (papermillref04_Has.f (k + 1) a0 a1) := by
  intro a0 a1 k
  have ih0 := papermillref04_Has.mono_l k
  unfold papermillref04_Has.f
  repeat' first
      | (with_reducible exact ih0 _ _ _)
      | (with_reducible exact LeO.refl _)
      | (with_reducible exact LeO.none _)
      | (with_reducible refine LeO.ite ?_ ?_)
      | (with_reducible refine LeO.bind ?_ (fun _ => ?_))
      | exact ih0 _ _ _
      | exact LeO.none _
      | refine LeO.ite ?_ ?_
      | refine LeO.bind ?_ (fun _ => ?_)
set_option maxHeartbeats 8000000 in
set_option maxRecDepth 100000 in
theorem papermillref04_Has.calls (k : Nat) (A0 : Option Addr) (c0 : Nat) (l0 : List (S50)) (a1 : Int) (r : Bool) (w : World) (hr0 : Kd.C k50 w A0 l0.length l0) (hc0 : l0.length ≤ c0) (h : papermillref04_Has.f k l0 a1 = some r) :
    Calls Try.prog 25 #[.slice A0 l0.length c0, .int .i64 a1] w fun e w' => e = .returned (.bool r) ∧ Drawn0 w w' := by
  have HR0 := Aside0.mk hr0
  have HC0 := Aside0.mk hc0
  clear hr0 hc0
  have H : (papermillref04_Has.l0 k l0 a1 0) = some r := h
  clear h
  have H' := Aside0.mk H
  clear H
  go_enter Try.func25, Try.ntmps25
  go_wp2
  go_loopg [5] k (fun kq v5 w' => ∃ (x5_1 : Int), v5 = .int .i64 x5_1 ∧ Aside0 (papermillref04_Has.l0 kq l0 a1 x5_1 = some r) ∧ Aside0 (kq ≤ k) ∧ Drawn0 w w')
  case atStart => exact ⟨(0), (by first | rfl | (simp; done) | (simp [*]; done)), H', ⟨Nat.le_refl _⟩, by repeat (first | exact Drawn0.refl _ | apply Drawn0.step)⟩
  case round =>
    clear H'
    try clear c2
    try clear p2
    obtain ⟨x5_1, rfl, HA, HK1, ⟨m1, rfl⟩⟩ := hrel
    cases gk with
    | zero => exact absurd HA.out (by simp [papermillref04_Has.l0])
    | succ k1 =>
      have H := HA.out
      clear HA
      simp only [papermillref04_Has.l0] at H
      by_cases c3 : x5_1 < (l0.length : Int)
      · rw [if_pos c3] at H
        have c3b0 : decide (x5_1 < (l0.length : Int)) = true := decide_eq_true c3
        clear c3
        by_cases c4 : 0 ≤ x5_1
        · rw [if_pos c4] at H
          have c4b0 : decide (0 ≤ x5_1) = true := decide_eq_true c4
          clear c4
          by_cases c5 : ((rd_T50 l0 x5_1).f0) ≤ a1
          · rw [if_pos c5] at H
            have c5b0 : decide (((rd_T50 l0 x5_1).f0) ≤ a1) = true := decide_eq_true c5
            clear c5
            by_cases c6 : a1 < ((rd_T50 l0 x5_1).f1)
            · rw [if_pos c6] at H
              have c6b0 : decide (a1 < ((rd_T50 l0 x5_1).f1)) = true := decide_eq_true c6
              clear c6
              obtain rfl := Option.some.inj H
              have p26001 : 0 ≤ (x5_1 : Int) := of_decide_eq_true (by assumption)
              have q26001 : x5_1 < (l0.length : Int) := of_decide_eq_true (by assumption)
              obtain ⟨ad26001, e26001, hx26001_0, hx26001_1⟩ := at_T50 HR0.out x5_1 p26001 q26001
              cases e26001
              replace p26001 := eq_true p26001
              replace q26001 := eq_true q26001
              have p26002 : 0 ≤ (x5_1 : Int) := of_decide_eq_true (by assumption)
              have q26002 : x5_1 < (l0.length : Int) := of_decide_eq_true (by assumption)
              obtain ⟨ad26002, e26002, hx26002_0, hx26002_1⟩ := at_T50 HR0.out x5_1 p26002 q26002
              obtain rfl : ad26001 = ad26002 := (by injection e26002)
              replace p26002 := eq_true p26002
              replace q26002 := eq_true q26002
              go_wp2
              go_ret
              exact ⟨by first | rfl | (simp; done) | (simp [*]; done), by repeat (first | exact Drawn0.refl _ | apply Drawn0.step)⟩
            · rw [if_neg c6] at H
              have c6b0 : decide (a1 < ((rd_T50 l0 x5_1).f1)) = false := decide_eq_false c6
              clear c6
              have H' := Aside0.mk H
              clear H
              have p26001 : 0 ≤ (x5_1 : Int) := of_decide_eq_true (by assumption)
              have q26001 : x5_1 < (l0.length : Int) := of_decide_eq_true (by assumption)
              obtain ⟨ad26001, e26001, hx26001_0, hx26001_1⟩ := at_T50 HR0.out x5_1 p26001 q26001
              cases e26001
              replace p26001 := eq_true p26001
              replace q26001 := eq_true q26001
              have p26002 : 0 ≤ (x5_1 : Int) := of_decide_eq_true (by assumption)
              have q26002 : x5_1 < (l0.length : Int) := of_decide_eq_true (by assumption)
              obtain ⟨ad26002, e26002, hx26002_0, hx26002_1⟩ := at_T50 HR0.out x5_1 p26002 q26002
              obtain rfl : ad26001 = ad26002 := (by injection e26002)
              replace p26002 := eq_true p26002
              replace q26002 := eq_true q26002
              go_wp2
              go_roundg k1
              case measure => have := HK1.out; omega
              case rel => exact ⟨(wrap64 (x5_1 + 1)), (by first | rfl | (simp; done) | (simp [*]; done)), H', ⟨by have := HK1.out; omega⟩, by repeat (first | exact Drawn0.refl _ | apply Drawn0.step)⟩
          · rw [if_neg c5] at H
            have c5b0 : decide (((rd_T50 l0 x5_1).f0) ≤ a1) = false := decide_eq_false c5
            clear c5
            have H' := Aside0.mk H
            clear H
            have p26001 : 0 ≤ (x5_1 : Int) := of_decide_eq_true (by assumption)
            have q26001 : x5_1 < (l0.length : Int) := of_decide_eq_true (by assumption)
            obtain ⟨ad26001, e26001, hx26001_0, hx26001_1⟩ := at_T50 HR0.out x5_1 p26001 q26001
            cases e26001
            replace p26001 := eq_true p26001
            replace q26001 := eq_true q26001
            go_wp2
            go_roundg k1
            case measure => have := HK1.out; omega
            case rel => exact ⟨(wrap64 (x5_1 + 1)), (by first | rfl | (simp; done) | (simp [*]; done)), H', ⟨by have := HK1.out; omega⟩, by repeat (first | exact Drawn0.refl _ | apply Drawn0.step)⟩
        · rw [if_neg c4] at H
          exact absurd H (by simp)
      · rw [if_neg c3] at H
        have c3b0 : decide (x5_1 < (l0.length : Int)) = false := decide_eq_false c3
        clear c3
        obtain rfl := Option.some.inj H
        go_wp2
        go_ret
        exact ⟨by first | rfl | (simp; done) | (simp [*]; done), by repeat (first | exact Drawn0.refl _ | apply Drawn0.step)⟩

end Go.Proofs.Ytnfcpcgbdoiiiaa.G

namespace Go.Proofs.Ytnfcpcgbdoiiiaa.G
open Go.RowKit Go.Proofs.YtnfcpcgbdoiiiaaW.PrintWords Go.Proofs.YtnfcpcgbdoiiiaaW.PrintLast Go.Proofs.YtnfcpcgbdoiiiaaW.PrintMore
attribute [local go_sem] max2_int min2_int max_two min_two max_three min_three max_four min_four   -- for this text's walks alone
set_option linter.unusedVariables false
set_option linter.unusedSimpArgs false

def papermillref04_Check.l0 : Nat → List (S50) → Int → Option (Int)
 | 0, _, _ => none
 | k + 1, x0, x3 => if x3 < (x0.length : Int) then (if 0 ≤ x3 then (if ((rd_T50 x0 x3).f0) < 0 then (some 1) else (if ((rd_T50 x0 x3).f0) > ((rd_T50 x0 x3).f1) then (some 1) else (if ((rd_T50 x0 x3).f1) > 17179869184 then (some 1) else (papermillref04_Check.l0 k x0 (wrap64 (x3 + 1)))))) else (none)) else (some 0)
def papermillref04_Check.f (k : Nat) (l0 : List (S50)) : Option (Int) := if (l0.length : Int) > 256 then (some 8) else (papermillref04_Check.l0 k l0 0)
theorem papermillref04_Check.mono_l : ∀ k, (∀ y0 y1, LeO (papermillref04_Check.l0 k y0 y1) (papermillref04_Check.l0 (k + 1) y0 y1))
 | 0 => fun _ _ r h => by simp [papermillref04_Check.l0] at h
 | k + 1 => by
  have ih0 := papermillref04_Check.mono_l k
  ·intro y0 y1
   unfold papermillref04_Check.l0
   repeat' first
   | (with_reducible exact ih0 _ _)
   | (with_reducible exact LeO.refl _)
   | (with_reducible exact LeO.none _)
   | (with_reducible refine LeO.ite ?_ ?_)
   | (with_reducible refine LeO.bind ?_ (fun _ => ?_))
   | exact ih0 _ _
   | exact LeO.none _
   | refine LeO.ite ?_ ?_
   | refine LeO.bind ?_ (fun _ => ?_)
theorem papermillref04_Check.mono : ∀ a0 k, LeO (papermillref04_Check.f k a0) (papermillref04_Check.f (k + 1) a0) := by
 intro a0 k
 have ih0 := papermillref04_Check.mono_l k
 unfold papermillref04_Check.f
 repeat' first
   | (with_reducible exact ih0 _ _)
   | (with_reducible exact LeO.refl _)
   | (with_reducible exact LeO.none _)
   | (with_reducible refine LeO.ite ?_ ?_)
   | (with_reducible refine LeO.bind ?_ (fun _ => ?_))
   | exact ih0 _ _
   | exact LeO.none _
   | refine LeO.ite ?_ ?_
   | refine LeO.bind ?_ (fun _ => ?_)
set_option maxHeartbeats 8000000 in
set_option maxRecDepth 100000 in
theorem papermillref04_Check.calls (k : Nat) (A0 : Option Addr) (c0 : Nat) (l0 : List (S50)) (r : Int) (w : World) (hr0 : Kd.C k50 w A0 l0.length l0) (hc0 : l0.length ≤ c0) (h : papermillref04_Check.f k l0 = some r) :
  Calls Try.prog 36 #[.slice A0 l0.length c0] w fun e w' => e = .returned (.int .i64 r) ∧ Drawn0 w w' := by
 have HR0 := Aside0.mk hr0
 have HC0 := Aside0.mk hc0
 clear hr0 hc0
 have H : (if (l0.length : Int) > 256 then (some 8) else (papermillref04_Check.l0 k l0 0)) = some r := h
 clear h
 by_cases c2 : (l0.length : Int) > 256
 ·rw [if_pos c2] at H
  have c2b0 : decide (256 < (l0.length : Int)) = true := decide_eq_true c2
  have c2b1 : decide (256 < l0.length) = true := decide_eq_true (by omega)
  clear c2
  obtain rfl := Option.some.inj H
  go_enter Try.func36, Try.ntmps36
  go_wp2
  repeat (go_quiet (fail); try go_wp2)
  go_ret
  exact ⟨by first | rfl | (simp; done) | (simp [*]; done), by repeat (first | exact Drawn0.refl _ | apply Drawn0.step)⟩
 ·rw [if_neg c2] at H
  have c2b0 : decide (256 < (l0.length : Int)) = false := decide_eq_false c2
  have c2b1 : decide (256 < l0.length) = false := decide_eq_false (by omega)
  clear c2
  have H' := Aside0.mk H
  clear H
  go_enter Try.func36, Try.ntmps36
  go_wp2
  repeat (go_quiet (fail); try go_wp2)
  go_loopg [3] k (fun kq v3 w' => ∃ (x3_1 : Int), v3 = .int .i64 x3_1 ∧ Aside0 (papermillref04_Check.l0 kq l0 x3_1 = some r) ∧ Aside0 (kq ≤ k) ∧ Drawn0 w w')
  case atStart => exact ⟨(0), (by first | rfl | (simp; done) | (simp [*]; done)), H', ⟨Nat.le_refl _⟩, by repeat (first | exact Drawn0.refl _ | apply Drawn0.step)⟩
  case round =>
   clear H'
   try clear c2
   try clear c2b0
   try clear c2b1
   try clear p2
   obtain ⟨x3_1, rfl, HA, HK1, ⟨m1, rfl⟩⟩ := hrel
   cases gk with
   | zero => exact absurd HA.out (by simp [papermillref04_Check.l0])
   | succ k1 =>
    have H := HA.out
    clear HA
    simp only [papermillref04_Check.l0] at H
    by_cases c3 : x3_1 < (l0.length : Int)
    ·rw [if_pos c3] at H
     have c3b0 : decide (x3_1 < (l0.length : Int)) = true := decide_eq_true c3
     clear c3
     by_cases c4 : 0 ≤ x3_1
     ·rw [if_pos c4] at H
      have c4b0 : decide (0 ≤ x3_1) = true := decide_eq_true c4
      clear c4
      by_cases c5 : ((rd_T50 l0 x3_1).f0) < 0
      ·rw [if_pos c5] at H
       have c5b0 : decide (((rd_T50 l0 x3_1).f0) < 0) = true := decide_eq_true c5
       clear c5
       obtain rfl := Option.some.inj H
       have p37001 : 0 ≤ (x3_1 : Int) := of_decide_eq_true (by assumption)
       have q37001 : x3_1 < (l0.length : Int) := of_decide_eq_true (by assumption)
       obtain ⟨ad37001, e37001, hx37001_0, hx37001_1⟩ := at_T50 HR0.out x3_1 p37001 q37001
       cases e37001
       replace p37001 := eq_true p37001
       replace q37001 := eq_true q37001
       go_wp2
       repeat (go_quiet (fail); try go_wp2)
       go_ret
       exact ⟨by first | rfl | (simp; done) | (simp [*]; done), by repeat (first | exact Drawn0.refl _ | apply Drawn0.step)⟩
      ·rw [if_neg c5] at H
       have c5b0 : decide (((rd_T50 l0 x3_1).f0) < 0) = false := decide_eq_false c5
       clear c5
       by_cases c6 : ((rd_T50 l0 x3_1).f0) > ((rd_T50 l0 x3_1).f1)
       ·rw [if_pos c6] at H
        have c6b0 : decide (((rd_T50 l0 x3_1).f1) < ((rd_T50 l0 x3_1).f0)) = true := decide_eq_true c6
        clear c6
        obtain rfl := Option.some.inj H
        have p37001 : 0 ≤ (x3_1 : Int) := of_decide_eq_true (by assumption)
        have q37001 : x3_1 < (l0.length : Int) := of_decide_eq_true (by assumption)
        obtain ⟨ad37001, e37001, hx37001_0, hx37001_1⟩ := at_T50 HR0.out x3_1 p37001 q37001
        cases e37001
        replace p37001 := eq_true p37001
        replace q37001 := eq_true q37001
        have p37002 : 0 ≤ (x3_1 : Int) := of_decide_eq_true (by assumption)
        have q37002 : x3_1 < (l0.length : Int) := of_decide_eq_true (by assumption)
        obtain ⟨ad37002, e37002, hx37002_0, hx37002_1⟩ := at_T50 HR0.out x3_1 p37002 q37002
        obtain rfl : ad37001 = ad37002 := (by injection e37002)
        replace p37002 := eq_true p37002
        replace q37002 := eq_true q37002
        have p37003 : 0 ≤ (x3_1 : Int) := of_decide_eq_true (by assumption)
        have q37003 : x3_1 < (l0.length : Int) := of_decide_eq_true (by assumption)
        obtain ⟨ad37003, e37003, hx37003_0, hx37003_1⟩ := at_T50 HR0.out x3_1 p37003 q37003
        obtain rfl : ad37001 = ad37003 := (by injection e37003)
        replace p37003 := eq_true p37003
        replace q37003 := eq_true q37003
        go_wp2
        repeat (go_quiet (fail); try go_wp2)
        go_ret
        exact ⟨by first | rfl | (simp; done) | (simp [*]; done), by repeat (first | exact Drawn0.refl _ | apply Drawn0.step)⟩
       ·rw [if_neg c6] at H
        have c6b0 : decide (((rd_T50 l0 x3_1).f1) < ((rd_T50 l0 x3_1).f0)) = false := decide_eq_false c6
        clear c6
        by_cases c7 : ((rd_T50 l0 x3_1).f1) > 17179869184
        ·rw [if_pos c7] at H
         have c7b0 : decide (17179869184 < ((rd_T50 l0 x3_1).f1)) = true := decide_eq_true c7
         clear c7
         obtain rfl := Option.some.inj H
         have p37001 : 0 ≤ (x3_1 : Int) := of_decide_eq_true (by assumption)
         have q37001 : x3_1 < (l0.length : Int) := of_decide_eq_true (by assumption)
         obtain ⟨ad37001, e37001, hx37001_0, hx37001_1⟩ := at_T50 HR0.out x3_1 p37001 q37001
         cases e37001
         replace p37001 := eq_true p37001
         replace q37001 := eq_true q37001
         have p37002 : 0 ≤ (x3_1 : Int) := of_decide_eq_true (by assumption)
         have q37002 : x3_1 < (l0.length : Int) := of_decide_eq_true (by assumption)
         obtain ⟨ad37002, e37002, hx37002_0, hx37002_1⟩ := at_T50 HR0.out x3_1 p37002 q37002
         obtain rfl : ad37001 = ad37002 := (by injection e37002)
         replace p37002 := eq_true p37002
         replace q37002 := eq_true q37002
         have p37003 : 0 ≤ (x3_1 : Int) := of_decide_eq_true (by assumption)
         have q37003 : x3_1 < (l0.length : Int) := of_decide_eq_true (by assumption)
         obtain ⟨ad37003, e37003, hx37003_0, hx37003_1⟩ := at_T50 HR0.out x3_1 p37003 q37003
         obtain rfl : ad37001 = ad37003 := (by injection e37003)
         replace p37003 := eq_true p37003
         replace q37003 := eq_true q37003
         have p37004 : 0 ≤ (x3_1 : Int) := of_decide_eq_true (by assumption)
         have q37004 : x3_1 < (l0.length : Int) := of_decide_eq_true (by assumption)
         obtain ⟨ad37004, e37004, hx37004_0, hx37004_1⟩ := at_T50 HR0.out x3_1 p37004 q37004
         obtain rfl : ad37001 = ad37004 := (by injection e37004)
         replace p37004 := eq_true p37004
         replace q37004 := eq_true q37004
         go_wp2
         repeat (go_quiet (fail); try go_wp2)
         go_ret
         exact ⟨by first | rfl | (simp; done) | (simp [*]; done), by repeat (first | exact Drawn0.refl _ | apply Drawn0.step)⟩
        ·rw [if_neg c7] at H
         have c7b0 : decide (17179869184 < ((rd_T50 l0 x3_1).f1)) = false := decide_eq_false c7
         clear c7
         have H' := Aside0.mk H
         clear H
         have p37001 : 0 ≤ (x3_1 : Int) := of_decide_eq_true (by assumption)
         have q37001 : x3_1 < (l0.length : Int) := of_decide_eq_true (by assumption)
         obtain ⟨ad37001, e37001, hx37001_0, hx37001_1⟩ := at_T50 HR0.out x3_1 p37001 q37001
         cases e37001
         replace p37001 := eq_true p37001
         replace q37001 := eq_true q37001
         have p37002 : 0 ≤ (x3_1 : Int) := of_decide_eq_true (by assumption)
         have q37002 : x3_1 < (l0.length : Int) := of_decide_eq_true (by assumption)
         obtain ⟨ad37002, e37002, hx37002_0, hx37002_1⟩ := at_T50 HR0.out x3_1 p37002 q37002
         obtain rfl : ad37001 = ad37002 := (by injection e37002)
         replace p37002 := eq_true p37002
         replace q37002 := eq_true q37002
         have p37003 : 0 ≤ (x3_1 : Int) := of_decide_eq_true (by assumption)
         have q37003 : x3_1 < (l0.length : Int) := of_decide_eq_true (by assumption)
         obtain ⟨ad37003, e37003, hx37003_0, hx37003_1⟩ := at_T50 HR0.out x3_1 p37003 q37003
         obtain rfl : ad37001 = ad37003 := (by injection e37003)
         replace p37003 := eq_true p37003
         replace q37003 := eq_true q37003
         have p37004 : 0 ≤ (x3_1 : Int) := of_decide_eq_true (by assumption)
         have q37004 : x3_1 < (l0.length : Int) := of_decide_eq_true (by assumption)
         obtain ⟨ad37004, e37004, hx37004_0, hx37004_1⟩ := at_T50 HR0.out x3_1 p37004 q37004
         obtain rfl : ad37001 = ad37004 := (by injection e37004)
         replace p37004 := eq_true p37004
         replace q37004 := eq_true q37004
         go_wp2
         repeat (go_quiet (fail); try go_wp2)
         go_roundg k1
         case measure => have := HK1.out; omega
         case rel => exact ⟨(wrap64 (x3_1 + 1)), (by first | rfl | (simp; done) | (simp [*]; done)), H', ⟨by have := HK1.out; omega⟩, by repeat (first | exact Drawn0.refl _ | apply Drawn0.step)⟩
     ·rw [if_neg c4] at H
      exact absurd H (by simp)
    ·rw [if_neg c3] at H
     have c3b0 : decide (x3_1 < (l0.length : Int)) = false := decide_eq_false c3
     clear c3
     obtain rfl := Option.some.inj H
     go_wp2
     repeat (go_quiet (fail); try go_wp2)
     go_ret
     exact ⟨by first | rfl | (simp; done) | (simp [*]; done), by repeat (first | exact Drawn0.refl _ | apply Drawn0.step)⟩

end Go.Proofs.Ytnfcpcgbdoiiiaa.G

namespace Go.Proofs.Ytnfcpcgbdoiiiaa.G
open Go.RowKit Go.Proofs.YtnfcpcgbdoiiiaaW.PrintWords Go.Proofs.YtnfcpcgbdoiiiaaW.PrintLast Go.Proofs.YtnfcpcgbdoiiiaaW.PrintMore
attribute [local go_sem] max2_int min2_int max_two min_two max_three min_three max_four min_four   -- for this text's walks alone
set_option linter.unusedVariables false
set_option linter.unusedSimpArgs false

def papermillref04_with.l0 : Nat → List Int → Int → Int → Option (List Int)
 | 0, _, _, _ => none
 | k + 1, x0, x1, x5 => if x5 < (x0.length : Int) then (if 0 ≤ x5 then (if (rd x0 x5) < x1 then (papermillref04_with.l0 k x0 x1 (wrap64 (x5 + 1))) else (if (rd x0 x5) = x1 then (some x0) else ((some (([] : List Int) : List Int)).bind fun y84003 => (if x5 ≤ (x0.length : Int) then ((some (x0.take (x5 : Int).toNat : List Int)).bind fun y84006 => (if y84003.length + y84006.length < 17592186044416 then ((some (y84003 ++ y84006 : List Int)).bind fun y84010 => (if y84010.length < 17592186044416 then ((some (y84010 ++ [x1] : List Int)).bind fun y84013 => ((some (x0.drop (x5 : Int).toNat : List Int)).bind fun y84016 => (if y84013.length + y84016.length < 17592186044416 then (some (y84013 ++ y84016)) else (none)))) else (none))) else (none))) else (none))))) else (none)) else ((some (([] : List Int) : List Int)).bind fun y84023 => (if 0 ≤ x5 then (if x5 ≤ (x0.length : Int) then ((some (x0.take (x5 : Int).toNat : List Int)).bind fun y84026 => (if y84023.length + y84026.length < 17592186044416 then ((some (y84023 ++ y84026 : List Int)).bind fun y84030 => (if y84030.length < 17592186044416 then ((some (y84030 ++ [x1] : List Int)).bind fun y84033 => ((some (x0.drop (x5 : Int).toNat : List Int)).bind fun y84036 => (if y84033.length + y84036.length < 17592186044416 then (some (y84033 ++ y84036)) else (none)))) else (none))) else (none))) else (none)) else (none)))
def papermillref04_with.f (k : Nat) (l0 : List Int) (a1 : Int) : Option (List Int) := papermillref04_with.l0 k l0 a1 0
theorem papermillref04_with.mono_l : ∀ k, (∀ y0 y1 y2, LeO (papermillref04_with.l0 k y0 y1 y2) (papermillref04_with.l0 (k + 1) y0 y1 y2))
 | 0 => fun _ _ _ r h => by simp [papermillref04_with.l0] at h
 | k + 1 => by
  have ih0 := papermillref04_with.mono_l k
  ·intro y0 y1 y2
   unfold papermillref04_with.l0
   repeat' first
   | (with_reducible exact ih0 _ _ _)
   | (with_reducible exact LeO.refl _)
   | (with_reducible exact LeO.none _)
   | (with_reducible refine LeO.ite ?_ ?_)
   | (with_reducible refine LeO.bind ?_ (fun _ => ?_))
   | exact ih0 _ _ _
   | exact LeO.none _
   | refine LeO.ite ?_ ?_
   | refine LeO.bind ?_ (fun _ => ?_)
theorem papermillref04_with.mono : ∀ a0 a1 k, LeO (papermillref04_with.f k a0 a1) (papermillref04_with.f (k + 1) a0 a1) := by
 intro a0 a1 k
 have ih0 := papermillref04_with.mono_l k
 unfold papermillref04_with.f
 repeat' first
   | (with_reducible exact ih0 _ _ _)
   | (with_reducible exact LeO.refl _)
   | (with_reducible exact LeO.none _)
   | (with_reducible refine LeO.ite ?_ ?_)
   | (with_reducible refine LeO.bind ?_ (fun _ => ?_))
   | exact ih0 _ _ _
   | exact LeO.none _
   | refine LeO.ite ?_ ?_
   | refine LeO.bind ?_ (fun _ => ?_)
set_option maxHeartbeats 8000000 in
set_option maxRecDepth 100000 in
theorem papermillref04_with.calls (k : Nat) (P0_ : Nat → Prop) (u9000_ : Value) (l0 : List Int) (a1 : Int) (r : List Int) (w0 w : World) (hB : Below w0.heap.size w0 w) (ho0 : Kd.R (Kd.int .i64) 3 w w0.heap.size P0_ u9000_ l0) (h : papermillref04_with.f k l0 a1 = some r) :
  Calls Try.prog 83 #[u9000_, .int .i64 a1] w fun e w' => ∃ v0_ : Value, e = .returned (v0_) ∧ Kd.R (Kd.int .i64) 3 w' w0.heap.size (fun k_ => (P0_ k_ ∨ w.heap.size ≤ k_)) v0_ r ∧ Below w0.heap.size w0 w' ∧ Kept w w' (fun k_ => P0_ k_) := by
 have HO0 := Aside0.mk (show Kd.R (Kd.int .i64) 3 w w0.heap.size (fun k_ => (P0_ k_ ∨ w.heap.size ≤ k_)) u9000_ l0 from Kd.R_mono ho0 (fun k_ hk => (.inl hk)))
 have HK := Aside0.mk (Kept.refl w (fun k_ => P0_ k_))
 have HW0 := Aside0.mk hB.size
 have HB := Aside0.mk hB
 clear hB
 have H : (papermillref04_with.l0 k l0 a1 0) = some r := h
 clear h
 have H' := Aside0.mk H
 clear H
 go_enter Try.func83, Try.ntmps83
 go_wp2
 go_loopg [5] k (fun kq v5 w' => ∃ (x5_1 : Int), v5 = .int .i64 x5_1 ∧ Aside0 (papermillref04_with.l0 kq l0 a1 x5_1 = some r) ∧ Aside0 (kq ≤ k) ∧ Aside0 (Kd.R (Kd.int .i64) 3 w' w0.heap.size (fun k_ => (P0_ k_ ∨ w.heap.size ≤ k_)) u9000_ l0) ∧ Aside0 (Kept w w' (fun k_ => P0_ k_)) ∧ Aside0 (Below w0.heap.size w0 w'))
 case atStart => exact ⟨(0), (by first | rfl | (simp; done) | (simp [*]; done)), H', ⟨Nat.le_refl _⟩, ⟨HO0.out⟩, ⟨by repeat (first | (with_reducible first | exact HK.out | apply Kept.alloc | apply Kept.drewN | apply Kept.drew) | exact HK.out)⟩, ⟨by repeat (first | exact HB.out | apply below_alloc | apply pw_below_drewN | apply below_drew1)⟩⟩
 case round =>
  clear H'
  try clear p2
  obtain ⟨x5_1, rfl, HA, HK1, HO_0, HK, HB⟩ := hrel
  cases gk with
  | zero => exact absurd HA.out (by simp [papermillref04_with.l0])
  | succ k1 =>
   have H := HA.out
   clear HA
   simp only [papermillref04_with.l0] at H
   by_cases c3 : x5_1 < (l0.length : Int)
   ·rw [if_pos c3] at H
    have c3b0 : decide (x5_1 < (l0.length : Int)) = true := decide_eq_true c3
    clear c3
    by_cases c4 : 0 ≤ x5_1
    ·rw [if_pos c4] at H
     have c4b0 : decide (0 ≤ x5_1) = true := decide_eq_true c4
     clear c4
     by_cases c5 : (rd l0 x5_1) < a1
     ·rw [if_pos c5] at H
      have c5b0 : decide ((rd l0 x5_1) < a1) = true := decide_eq_true c5
      clear c5
      have H' := Aside0.mk H
      clear H
      obtain ⟨Ao6, co6, eo6⟩ := Kd.R_slice HO_0.out
      subst eo6
      have p84001 : 0 ≤ (x5_1 : Int) := of_decide_eq_true (by assumption)
      have q84001 : x5_1 < (l0.length : Int) := of_decide_eq_true (by assumption)
      obtain ⟨ad84001, e84001, hx84001_0⟩ := Kd.at_int (Kd.R_reads' HO_0.out).2.2 x5_1 p84001 q84001
      cases e84001
      replace p84001 := eq_true p84001
      replace q84001 := eq_true q84001
      go_wp2
      go_roundg k1
      case measure => have := HK1.out; omega
      case rel => exact ⟨(wrap64 (x5_1 + 1)), (by first | rfl | (simp; done) | (simp [*]; done)), H', ⟨by have := HK1.out; omega⟩, ⟨HO_0.out⟩, ⟨by repeat (first | (with_reducible first | exact HK.out | apply Kept.alloc | apply Kept.drewN | apply Kept.drew) | exact HK.out)⟩, ⟨by repeat (first | exact HB.out | apply below_alloc | apply pw_below_drewN | apply below_drew1)⟩⟩
     ·rw [if_neg c5] at H
      have c5b0 : decide ((rd l0 x5_1) < a1) = false := decide_eq_false c5
      clear c5
      by_cases c7 : (rd l0 x5_1) = a1
      ·rw [if_pos c7] at H
       have c7b0 : ((rd l0 x5_1) == a1) = true := beq_iff_eq.mpr c7
       have c7b1 : ((rd l0 x5_1) != a1) = false := bne_eq_false_iff_eq.mpr c7
       clear c7
       obtain rfl := Option.some.inj H
       obtain ⟨Ao8, co8, eo8⟩ := Kd.R_slice HO_0.out
       subst eo8
       have p84001 : 0 ≤ (x5_1 : Int) := of_decide_eq_true (by assumption)
       have q84001 : x5_1 < (l0.length : Int) := of_decide_eq_true (by assumption)
       obtain ⟨ad84001, e84001, hx84001_0⟩ := Kd.at_int (Kd.R_reads' HO_0.out).2.2 x5_1 p84001 q84001
       cases e84001
       replace p84001 := eq_true p84001
       replace q84001 := eq_true q84001
       have p84002 : 0 ≤ (x5_1 : Int) := of_decide_eq_true (by assumption)
       have q84002 : x5_1 < (l0.length : Int) := of_decide_eq_true (by assumption)
       obtain ⟨ad84002, e84002, hx84002_0⟩ := Kd.at_int (Kd.R_reads' HO_0.out).2.2 x5_1 p84002 q84002
       obtain rfl : ad84001 = ad84002 := (by injection e84002)
       replace p84002 := eq_true p84002
       replace q84002 := eq_true q84002
       go_wp2
       go_ret
       exact ⟨_, by first | rfl | (simp [errW_none, errW_some] <;> rfl) | (simp [*, errW_none, errW_some] <;> rfl), by exact HO_0.out, by repeat (first | exact HB.out | apply below_alloc | apply pw_below_drewN | apply below_drew1), by repeat (first | (with_reducible first | exact HK.out | apply Kept.alloc | apply Kept.drewN | apply Kept.drew) | exact HK.out)⟩
      ·rw [if_neg c7] at H
       have c7b0 : ((rd l0 x5_1) == a1) = false := beq_eq_false_iff_ne.mpr c7
       have c7b1 : ((rd l0 x5_1) != a1) = true := bne_iff_ne.mpr c7
       obtain ⟨y84003, hy84003⟩ : ∃ y_ : List Int, y_ = (([] : List Int)) := ⟨_, rfl⟩
       replace H : (if x5_1 ≤ (l0.length : Int) then ((some (l0.take (x5_1 : Int).toNat : List Int)).bind fun y84006 => (if y84003.length + y84006.length < 17592186044416 then ((some (y84003 ++ y84006 : List Int)).bind fun y84010 => (if y84010.length < 17592186044416 then ((some (y84010 ++ [a1] : List Int)).bind fun y84013 => ((some (l0.drop (x5_1 : Int).toNat : List Int)).bind fun y84016 => (if y84013.length + y84016.length < 17592186044416 then (some (y84013 ++ y84016)) else (none)))) else (none))) else (none))) else (none)) = some r := by first | (rw [hy84003]; with_reducible exact H) | (have H2_ := (Option.bind_some _ _).symm.trans H; rw [hy84003]; with_reducible exact H2_) | (have H2_ := (Option.bind_some _ _).symm.trans H; with_reducible exact H2_) | with_reducible exact H | (rw [hy84003]; exact H) | exact H
       have Ny84003 := Aside0.mk hy84003
       clear hy84003
       have c9b0 := eq_true (of_decide_eq_true (by assumption) : 0 ≤ x5_1)
       by_cases c10 : x5_1 ≤ (l0.length : Int)
       ·rw [if_pos c10] at H
        have c10b0 := eq_true c10
        have c10b1 : decide (x5_1 ≤ (l0.length : Int)) = true := decide_eq_true c10
        clear c10
        obtain ⟨y84006, hy84006⟩ : ∃ y_ : List Int, y_ = (l0.take (x5_1 : Int).toNat) := ⟨_, rfl⟩
        replace H : (if y84003.length + y84006.length < 17592186044416 then ((some (y84003 ++ y84006 : List Int)).bind fun y84010 => (if y84010.length < 17592186044416 then ((some (y84010 ++ [a1] : List Int)).bind fun y84013 => ((some (l0.drop (x5_1 : Int).toNat : List Int)).bind fun y84016 => (if y84013.length + y84016.length < 17592186044416 then (some (y84013 ++ y84016)) else (none)))) else (none))) else (none)) = some r := by first | (rw [hy84006]; with_reducible exact H) | (have H2_ := (Option.bind_some _ _).symm.trans H; rw [hy84006]; with_reducible exact H2_) | (have H2_ := (Option.bind_some _ _).symm.trans H; with_reducible exact H2_) | with_reducible exact H | (rw [hy84006]; exact H) | exact H
        have Ny84006 := Aside0.mk hy84006
        clear hy84006
        by_cases c11 : y84003.length + y84006.length < 17592186044416
        ·rw [if_pos c11] at H
         have LMc11 := Aside0.mk c11
         clear c11
         obtain ⟨y84010, hy84010⟩ : ∃ y_ : List Int, y_ = (y84003 ++ y84006) := ⟨_, rfl⟩
         replace H : (if y84010.length < 17592186044416 then ((some (y84010 ++ [a1] : List Int)).bind fun y84013 => ((some (l0.drop (x5_1 : Int).toNat : List Int)).bind fun y84016 => (if y84013.length + y84016.length < 17592186044416 then (some (y84013 ++ y84016)) else (none)))) else (none)) = some r := by first | (rw [hy84010]; with_reducible exact H) | (have H2_ := (Option.bind_some _ _).symm.trans H; rw [hy84010]; with_reducible exact H2_) | (have H2_ := (Option.bind_some _ _).symm.trans H; with_reducible exact H2_) | with_reducible exact H | (rw [hy84010]; exact H) | exact H
         have Ny84010 := Aside0.mk hy84010
         clear hy84010
         by_cases c12 : y84010.length < 17592186044416
         ·rw [if_pos c12] at H
          have LMc12 := Aside0.mk c12
          clear c12
          obtain ⟨y84013, hy84013⟩ : ∃ y_ : List Int, y_ = (y84010 ++ [a1]) := ⟨_, rfl⟩
          replace H : ((some (l0.drop (x5_1 : Int).toNat : List Int)).bind fun y84016 => (if y84013.length + y84016.length < 17592186044416 then (some (y84013 ++ y84016)) else (none))) = some r := by first | (rw [hy84013]; with_reducible exact H) | (have H2_ := (Option.bind_some _ _).symm.trans H; rw [hy84013]; with_reducible exact H2_) | (have H2_ := (Option.bind_some _ _).symm.trans H; with_reducible exact H2_) | with_reducible exact H | (rw [hy84013]; exact H) | exact H
          have Ny84013 := Aside0.mk hy84013
          clear hy84013
          have c13b0 := eq_true (of_decide_eq_true (by assumption) : 0 ≤ x5_1)
          have c14b0 := eq_true (of_decide_eq_true (by assumption) : x5_1 ≤ (l0.length : Int))
          obtain ⟨y84016, hy84016⟩ : ∃ y_ : List Int, y_ = (l0.drop (x5_1 : Int).toNat) := ⟨_, rfl⟩
          replace H : (if y84013.length + y84016.length < 17592186044416 then (some (y84013 ++ y84016)) else (none)) = some r := by first | (rw [hy84016]; with_reducible exact H) | (have H2_ := (Option.bind_some _ _).symm.trans H; rw [hy84016]; with_reducible exact H2_) | (have H2_ := (Option.bind_some _ _).symm.trans H; with_reducible exact H2_) | with_reducible exact H | (rw [hy84016]; exact H) | exact H
          have Ny84016 := Aside0.mk hy84016
          clear hy84016
          by_cases c15 : y84013.length + y84016.length < 17592186044416
          ·rw [if_pos c15] at H
           have LMc15 := Aside0.mk c15
           clear c15
           obtain ⟨y84020, hy84020⟩ : ∃ y_ : List Int, y_ = (y84013 ++ y84016) := ⟨_, rfl⟩
           replace H : (some y84020) = some r := by first | (rw [hy84020]; with_reducible exact H) | (have H2_ := (Option.bind_some _ _).symm.trans H; rw [hy84020]; with_reducible exact H2_) | (have H2_ := (Option.bind_some _ _).symm.trans H; with_reducible exact H2_) | with_reducible exact H | (rw [hy84020]; exact H) | exact H
           have Ny84020 := Aside0.mk hy84020
           clear hy84020
           obtain rfl := Option.some.inj H
           obtain ⟨Ao16, co16, eo16⟩ := Kd.R_slice HO_0.out
           subst eo16
           have p84001 : 0 ≤ (x5_1 : Int) := of_decide_eq_true (by assumption)
           have q84001 : x5_1 < (l0.length : Int) := of_decide_eq_true (by assumption)
           obtain ⟨ad84001, e84001, hx84001_0⟩ := Kd.at_int (Kd.R_reads' HO_0.out).2.2 x5_1 p84001 q84001
           cases e84001
           replace p84001 := eq_true p84001
           replace q84001 := eq_true q84001
           have p84002 : 0 ≤ (x5_1 : Int) := of_decide_eq_true (by assumption)
           have q84002 : x5_1 < (l0.length : Int) := of_decide_eq_true (by assumption)
           obtain ⟨ad84002, e84002, hx84002_0⟩ := Kd.at_int (Kd.R_reads' HO_0.out).2.2 x5_1 p84002 q84002
           obtain rfl : ad84001 = ad84002 := (by injection e84002)
           replace p84002 := eq_true p84002
           replace q84002 := eq_true q84002
           go_wp2_with (first | ((with_reducible refine gate_dst (N := 34) rfl ?_); refine Kd.R_lit (Kd.int .i64) _ 3 ?hg (N := 34) ?hd (xs := ([] : List Int)) (inner := []) (ok := fun _ => True) (okp := fun _ => True) ?hr ?hp (fun _ hk => hk) trivial (Below.refl _ _) (Nat.le_refl _) (by simp) ?_; (case hd => rfl); (case hg => rfl); (case hr => first | (go_simp; done) | (go_simp; rfl)); (case hp => exact (Reps.none _ _)); intro v84004 w17 ho18 hb hg_ hnew_; clear hg_ hnew_; (first | rw [← Ny84003.out] at ho18 | (simp only [Int.reduceToNat] at ho18; rw [← Ny84003.out] at ho18)); have n0_ := Aside0.mk (Kd.R_elder' (HO_0.out) (Kd.R_base ho18) hb); have n1_ := Aside0.mk (Kd.R_lower (Kd.R_new' (Kd.R_newM (M := fun k_ => (P0_ k_ ∨ w.heap.size ≤ k_)) ho18 (by first | exact HK.out.1 | exact (show Kept w _ (fun k_ => P0_ k_) from by repeat (first | (with_reducible first | exact HK.out | apply Kept.alloc | apply Kept.drewN | apply Kept.drew) | exact HK.out)).1) (fun k_ h_ => .inr h_)) (Kd.R_lt (HO_0.out))) (below_size (by repeat (first | exact HB.out | apply below_alloc | apply pw_below_drewN | apply below_drew1)))); have n2_ := Aside0.mk (Kept.below (S := (fun k_ => P0_ k_)) (by repeat (first | (with_reducible first | exact HK.out | apply Kept.alloc | apply Kept.drewN | apply Kept.drew) | exact HK.out)) hb); have n3_ := Aside0.mk (below_step (by repeat (first | exact HB.out | apply below_alloc | apply pw_below_drewN | apply below_drew1)) hb); clear HO_0; clear HK; clear HB; have HO_0 := n0_; have HO84005 := n1_; have HK := n2_; have HB := n3_; clear n0_ n1_ n2_ n3_; clear hb ho18; have q19 : (x5_1 : Int) ≤ ((l0.length : Int) : Int) := of_decide_eq_true (by assumption); obtain ⟨i019, hi019, _, hsz19, _⟩ := info_parts info3; have hroom19 : l0.length ≤ co16 := (Kd.R_reads' HO_0.out).2.1; have hC19 : Kd.C (Kd.int .i64) _ (some ad84001) l0.length l0 := (Kd.R_reads' HO_0.out).2.2; have hcut19 := cut_to (P := Try.prog) 45 3 .i64 Try.underlying45 hi019 (some ad84001) l0.length co16 x5_1 (of_decide_eq_true (by assumption)) q19 hroom19; have hr19 := Kd.C_take (m := (x5_1 : Int).toNat) hC19 (by omega); have hy19 : y84006.length = (x5_1 : Int).toNat := (by rw [Ny84006.out, List.length_take]; omega); rw [← Ny84006.out] at hr19; rw [← hy19] at hcut19; have HR84009 := Aside0.mk hr19; have HC84009 := Aside0.mk (show y84006.length ≤ co16 from by omega); clear hr19 hC19 hroom19 hi019 hsz19; have KY19 := Aside0.mk hy19; clear hy19; have KL19 := Aside0.mk (show (x5_1 : Int).toNat ≤ l0.length from by omega); replace q19 := eq_true q19) | ((with_reducible refine gate_builtin (b := .append) (xs := #[.tmp 34, .tmp 37]) rfl ?_); at_builtin; refine Kd.R_append_rows (Kd.int .i64) (w0 := w0) w0.heap.size rfl (.tmp 34) (.tmp 37) 45 3 (.int .i64 0) 8 rfl Try.underlying45 info3 rfl (by decide) (by omega) v84004 y84003 y84006 _ _ _ (fun k_ => (P0_ k_ ∨ w.heap.size ≤ k_) ∧ some k_ ≠ (.slice (some ad84001) l0.length co16 : Value).ownBlock) (fun _ => False) rfl rfl ?aO ?aR (fun _ _ h => h) (fun _ h => h.elim) ?aF ?aB ?aS ?aL ?_; (case aR => repeat (first | exact (by repeat (first | (with_reducible exact HR84009.out) | (with_reducible refine Kd.C_alloc ?_ _) | (with_reducible refine Kd.C_drewN ?_ _) | (with_reducible refine Kd.C_drew ?_) | exact HR84009.out)) | (with_reducible refine Kd.C_alloc ?_ _) | (with_reducible refine Kd.C_drewN ?_ _) | (with_reducible refine Kd.C_drew ?_))); (case aB => exact (by repeat (first | exact HB.out | apply below_alloc | apply pw_below_drewN | apply below_drew1))); (case aF => exact (fun k_ hk => ⟨(.inr (Nat.le_trans (by first | exact HK.out.1 | exact (show Kept w _ (fun k_ => P0_ k_) from by repeat (first | (with_reducible first | exact HK.out | apply Kept.alloc | apply Kept.drewN | apply Kept.drew) | exact HK.out)).1) hk)), Kd.fresh' (Kd.R_lt (HO_0.out)) k_ hk⟩)); (case aO => exact (by exact Kd.R_mono HO84005.out (fun _ hk => ⟨hk.1.1, hk.2⟩))); (case aS => exact (below_size (by repeat (first | exact HB.out | apply below_alloc | apply pw_below_drewN | apply below_drew1)))); (case aL => have := LMc11.out; omega); intro v84011 w20 ho hb hg hat; rw [← Ny84010.out] at ho; have n0_ := Aside0.mk (Kd.R_after (ok := (fun k_ => (P0_ k_ ∨ w.heap.size ≤ k_))) (HO_0.out) hg hat); have n1_ := Aside0.mk (hb); have n2_ := Aside0.mk (Kept.of_grown (S := (fun k_ => P0_ k_)) hg (by repeat (first | (with_reducible first | exact HK.out | apply Kept.alloc | apply Kept.drewN | apply Kept.drew) | exact HK.out)) (fun k_ e_ => (HO84005.out.1 k_ e_).1.1)); have n3_ := Aside0.mk ((show Kd.C (Kd.int .i64) w20 (some ad84001) y84006.length y84006 from by rw [Ny84006.out]; exact Kd.C_take (m := (x5_1 : Int).toNat) ((Kd.R_reads' (Kd.R_after (ok := (fun k_ => (P0_ k_ ∨ w.heap.size ≤ k_))) (HO_0.out) hg hat)).2.2) KL19.out)); have n4_ := Aside0.mk (ho); clear HO_0; clear HB; clear HK; clear HR84009; clear HO84005; have HO_0 := n0_; have HB := n1_; have HK := n2_; have HR84009 := n3_; have HO84012 := n4_; clear n0_ n1_ n2_ n3_ n4_; clear ho hb hg hat) | ((with_reducible refine gate_builtin (b := .append) (xs := #[.tmp 39, .tmp 41]) rfl ?_); at_builtin; refine Kd.R_append (Kd.int .i64) (w0 := w0) w0.heap.size rfl (.tmp 39) (.tmp 41) 45 3 (.int .i64 0) 8 rfl Try.underlying45 info3 rfl (by decide) (by omega) v84011 y84010 a1 [.int .i64 a1] (fun k_ => (P0_ k_ ∨ w.heap.size ≤ k_) ∧ some k_ ≠ (.slice (some ad84001) l0.length co16 : Value).ownBlock) (fun _ => False) rfl rfl ?aP (fun _ hk => hk.elim) ?aF ?aO ?aB ?aS ?aL ?_; (case aP => exact rfl); (case aB => exact (by repeat (first | exact HB.out | apply below_alloc | apply pw_below_drewN | apply below_drew1))); (case aF => exact (fun k_ hk => ⟨(.inr (Nat.le_trans (by first | exact HK.out.1 | exact (show Kept w _ (fun k_ => P0_ k_) from by repeat (first | (with_reducible first | exact HK.out | apply Kept.alloc | apply Kept.drewN | apply Kept.drew) | exact HK.out)).1) hk)), Kd.fresh' (Kd.R_lt (HO_0.out)) k_ hk⟩)); (case aO => exact (HO84012.out)); (case aS => exact (below_size (by repeat (first | exact HB.out | apply below_alloc | apply pw_below_drewN | apply below_drew1)))); (case aL => have := LMc12.out; omega); intro v84014 w21 ho hb hg hat; rw [← Ny84013.out] at ho; have n0_ := Aside0.mk (Kd.R_after (ok := (fun k_ => (P0_ k_ ∨ w.heap.size ≤ k_))) (HO_0.out) hg hat); have n1_ := Aside0.mk (hb); have n2_ := Aside0.mk (Kept.of_grown (S := (fun k_ => P0_ k_)) hg (by repeat (first | (with_reducible first | exact HK.out | apply Kept.alloc | apply Kept.drewN | apply Kept.drew) | exact HK.out)) (fun k_ e_ => (HO84012.out.1 k_ e_).1)); have n3_ := Aside0.mk ((show Kd.C (Kd.int .i64) w21 (some ad84001) y84006.length y84006 from by rw [Ny84006.out]; exact Kd.C_take (m := (x5_1 : Int).toNat) ((Kd.R_reads' (Kd.R_after (ok := (fun k_ => (P0_ k_ ∨ w.heap.size ≤ k_))) (HO_0.out) hg hat)).2.2) KL19.out)); have n4_ := Aside0.mk (ho); clear HO_0; clear HB; clear HK; clear HR84009; clear HO84012; have HO_0 := n0_; have HB := n1_; have HK := n2_; have HR84009 := n3_; have HO84015 := n4_; clear n0_ n1_ n2_ n3_ n4_; clear ho hb hg hat; have q22 : (x5_1 : Int) ≤ ((l0.length : Int) : Int) := of_decide_eq_true (by assumption); obtain ⟨i022, hi022, _, hsz22, _⟩ := info_parts info3; have hroom22 : l0.length ≤ co16 := (Kd.R_reads' HO_0.out).2.1; have hC22 : Kd.C (Kd.int .i64) _ (some ad84001) l0.length l0 := (Kd.R_reads' HO_0.out).2.2; have q022 : (0 : Int) ≤ (x5_1 : Int) := of_decide_eq_true (by assumption); have hcut22 := cut_from (P := Try.prog) 45 3 .i64 Try.underlying45 hi022 1 hsz22 (some ad84001) l0.length co16 x5_1 q022 q22; have hr22 := Kd.C_drop (m := (x5_1 : Int).toNat) (c := co16) hC22 (by omega) hroom22; obtain ⟨A22, hA22⟩ : ∃ A1, A1 = (if co16 = (x5_1 : Int).toNat then (some ad84001) else ((some ad84001) : Option Addr).map (·.add ((x5_1 : Int).toNat * 1))) := ⟨_, rfl⟩; obtain ⟨c22, hc22⟩ : ∃ c1, c1 = co16 - (x5_1 : Int).toNat := ⟨_, rfl⟩; have hy22 : y84016.length = l0.length - (x5_1 : Int).toNat := (by rw [Ny84016.out, List.length_drop] <;> omega); rw [show (l0).drop (x5_1 : Int).toNat = y84016 from Ny84016.out.symm] at hr22; replace hr22 : Kd.C (Kd.int .i64) _ A22 y84016.length y84016 := (by rw [hA22]; exact hr22); rw [← hy22, ← hA22, ← hc22] at hcut22; have HR84019 := Aside0.mk hr22; have HC84019 := Aside0.mk (show y84016.length ≤ c22 from by rw [hy22, hc22]; exact Nat.sub_le_sub_right hroom22 _); clear hr22 hC22 hroom22 hi022 hsz22 hc22; have KY22 := Aside0.mk hy22; have KA22 := Aside0.mk hA22; clear hy22 hA22; have KL22 := Aside0.mk (show (x5_1 : Int).toNat ≤ l0.length from by omega); replace q22 := eq_true q22) | ((with_reducible refine gate_builtin (b := .append) (xs := #[.tmp 43, .tmp 46]) rfl ?_); at_builtin; refine Kd.R_append_rows (Kd.int .i64) (w0 := w0) w0.heap.size rfl (.tmp 43) (.tmp 46) 45 3 (.int .i64 0) 8 rfl Try.underlying45 info3 rfl (by decide) (by omega) v84014 y84013 y84016 _ _ _ (fun k_ => (P0_ k_ ∨ w.heap.size ≤ k_) ∧ some k_ ≠ (.slice (some ad84001) l0.length co16 : Value).ownBlock) (fun _ => False) rfl rfl ?aO ?aR (fun _ _ h => h) (fun _ h => h.elim) ?aF ?aB ?aS ?aL ?_; (case aR => repeat (first | exact (by repeat (first | (with_reducible exact HR84019.out) | (with_reducible refine Kd.C_alloc ?_ _) | (with_reducible refine Kd.C_drewN ?_ _) | (with_reducible refine Kd.C_drew ?_) | exact HR84019.out)) | (with_reducible refine Kd.C_alloc ?_ _) | (with_reducible refine Kd.C_drewN ?_ _) | (with_reducible refine Kd.C_drew ?_))); (case aB => exact (by repeat (first | exact HB.out | apply below_alloc | apply pw_below_drewN | apply below_drew1))); (case aF => exact (fun k_ hk => ⟨(.inr (Nat.le_trans (by first | exact HK.out.1 | exact (show Kept w _ (fun k_ => P0_ k_) from by repeat (first | (with_reducible first | exact HK.out | apply Kept.alloc | apply Kept.drewN | apply Kept.drew) | exact HK.out)).1) hk)), Kd.fresh' (Kd.R_lt (HO_0.out)) k_ hk⟩)); (case aO => exact (HO84015.out)); (case aS => exact (below_size (by repeat (first | exact HB.out | apply below_alloc | apply pw_below_drewN | apply below_drew1)))); (case aL => have := LMc15.out; omega); intro v84021 w23 ho hb hg hat; rw [← Ny84020.out] at ho; have n0_ := Aside0.mk (Kd.R_after (ok := (fun k_ => (P0_ k_ ∨ w.heap.size ≤ k_))) (HO_0.out) hg hat); have n1_ := Aside0.mk (hb); have n2_ := Aside0.mk (Kept.of_grown (S := (fun k_ => P0_ k_)) hg (by repeat (first | (with_reducible first | exact HK.out | apply Kept.alloc | apply Kept.drewN | apply Kept.drew) | exact HK.out)) (fun k_ e_ => (HO84015.out.1 k_ e_).1)); have n3_ := Aside0.mk ((show Kd.C (Kd.int .i64) w23 (some ad84001) y84006.length y84006 from by rw [Ny84006.out]; exact Kd.C_take (m := (x5_1 : Int).toNat) ((Kd.R_reads' (Kd.R_after (ok := (fun k_ => (P0_ k_ ∨ w.heap.size ≤ k_))) (HO_0.out) hg hat)).2.2) KL19.out)); have n4_ := Aside0.mk ((show Kd.C (Kd.int .i64) w23 A22 y84016.length y84016 from by rw [Ny84016.out, KA22.out]; exact Kd.C_drop (m := (x5_1 : Int).toNat) (c := co16) ((Kd.R_reads' (Kd.R_after (ok := (fun k_ => (P0_ k_ ∨ w.heap.size ≤ k_))) (HO_0.out) hg hat)).2.2) KL22.out ((Kd.R_reads' (Kd.R_after (ok := (fun k_ => (P0_ k_ ∨ w.heap.size ≤ k_))) (HO_0.out) hg hat)).2.1))); have n5_ := Aside0.mk (ho); clear HO_0; clear HB; clear HK; clear HR84009; clear HR84019; clear HO84015; have HO_0 := n0_; have HB := n1_; have HK := n2_; have HR84009 := n3_; have HR84019 := n4_; have HO84022 := n5_; clear n0_ n1_ n2_ n3_ n4_ n5_; clear ho hb hg hat))
           go_ret
           exact ⟨_, by first | rfl | (simp [errW_none, errW_some] <;> rfl) | (simp [*, errW_none, errW_some] <;> rfl), by exact Kd.R_mono HO84022.out (fun _ hk => hk.1), by repeat (first | exact HB.out | apply below_alloc | apply pw_below_drewN | apply below_drew1), by repeat (first | (with_reducible first | exact HK.out | apply Kept.alloc | apply Kept.drewN | apply Kept.drew) | exact HK.out)⟩
          ·rw [if_neg c15] at H
           exact absurd H (by simp)
         ·rw [if_neg c12] at H
          exact absurd H (by simp)
        ·rw [if_neg c11] at H
         exact absurd H (by simp)
       ·rw [if_neg c10] at H
        exact absurd H (by simp)
    ·rw [if_neg c4] at H
     exact absurd H (by simp)
   ·rw [if_neg c3] at H
    have c3b0 : decide (x5_1 < (l0.length : Int)) = false := decide_eq_false c3
    clear c3
    obtain ⟨y84023, hy84023⟩ : ∃ y_ : List Int, y_ = (([] : List Int)) := ⟨_, rfl⟩
    replace H : (if 0 ≤ x5_1 then (if x5_1 ≤ (l0.length : Int) then ((some (l0.take (x5_1 : Int).toNat : List Int)).bind fun y84026 => (if y84023.length + y84026.length < 17592186044416 then ((some (y84023 ++ y84026 : List Int)).bind fun y84030 => (if y84030.length < 17592186044416 then ((some (y84030 ++ [a1] : List Int)).bind fun y84033 => ((some (l0.drop (x5_1 : Int).toNat : List Int)).bind fun y84036 => (if y84033.length + y84036.length < 17592186044416 then (some (y84033 ++ y84036)) else (none)))) else (none))) else (none))) else (none)) else (none)) = some r := by first | (rw [hy84023]; with_reducible exact H) | (have H2_ := (Option.bind_some _ _).symm.trans H; rw [hy84023]; with_reducible exact H2_) | (have H2_ := (Option.bind_some _ _).symm.trans H; with_reducible exact H2_) | with_reducible exact H | (rw [hy84023]; exact H) | exact H
    have Ny84023 := Aside0.mk hy84023
    clear hy84023
    by_cases c24 : 0 ≤ x5_1
    ·rw [if_pos c24] at H
     have c24b0 := eq_true c24
     have c24b1 : decide (0 ≤ x5_1) = true := decide_eq_true c24
     clear c24
     by_cases c25 : x5_1 ≤ (l0.length : Int)
     ·rw [if_pos c25] at H
      have c25b0 := eq_true c25
      have c25b1 : decide (x5_1 ≤ (l0.length : Int)) = true := decide_eq_true c25
      clear c25
      obtain ⟨y84026, hy84026⟩ : ∃ y_ : List Int, y_ = (l0.take (x5_1 : Int).toNat) := ⟨_, rfl⟩
      replace H : (if y84023.length + y84026.length < 17592186044416 then ((some (y84023 ++ y84026 : List Int)).bind fun y84030 => (if y84030.length < 17592186044416 then ((some (y84030 ++ [a1] : List Int)).bind fun y84033 => ((some (l0.drop (x5_1 : Int).toNat : List Int)).bind fun y84036 => (if y84033.length + y84036.length < 17592186044416 then (some (y84033 ++ y84036)) else (none)))) else (none))) else (none)) = some r := by first | (rw [hy84026]; with_reducible exact H) | (have H2_ := (Option.bind_some _ _).symm.trans H; rw [hy84026]; with_reducible exact H2_) | (have H2_ := (Option.bind_some _ _).symm.trans H; with_reducible exact H2_) | with_reducible exact H | (rw [hy84026]; exact H) | exact H
      have Ny84026 := Aside0.mk hy84026
      clear hy84026
      by_cases c26 : y84023.length + y84026.length < 17592186044416
      ·rw [if_pos c26] at H
       have LMc26 := Aside0.mk c26
       clear c26
       obtain ⟨y84030, hy84030⟩ : ∃ y_ : List Int, y_ = (y84023 ++ y84026) := ⟨_, rfl⟩
       replace H : (if y84030.length < 17592186044416 then ((some (y84030 ++ [a1] : List Int)).bind fun y84033 => ((some (l0.drop (x5_1 : Int).toNat : List Int)).bind fun y84036 => (if y84033.length + y84036.length < 17592186044416 then (some (y84033 ++ y84036)) else (none)))) else (none)) = some r := by first | (rw [hy84030]; with_reducible exact H) | (have H2_ := (Option.bind_some _ _).symm.trans H; rw [hy84030]; with_reducible exact H2_) | (have H2_ := (Option.bind_some _ _).symm.trans H; with_reducible exact H2_) | with_reducible exact H | (rw [hy84030]; exact H) | exact H
       have Ny84030 := Aside0.mk hy84030
       clear hy84030
       by_cases c27 : y84030.length < 17592186044416
       ·rw [if_pos c27] at H
        have LMc27 := Aside0.mk c27
        clear c27
        obtain ⟨y84033, hy84033⟩ : ∃ y_ : List Int, y_ = (y84030 ++ [a1]) := ⟨_, rfl⟩
        replace H : ((some (l0.drop (x5_1 : Int).toNat : List Int)).bind fun y84036 => (if y84033.length + y84036.length < 17592186044416 then (some (y84033 ++ y84036)) else (none))) = some r := by first | (rw [hy84033]; with_reducible exact H) | (have H2_ := (Option.bind_some _ _).symm.trans H; rw [hy84033]; with_reducible exact H2_) | (have H2_ := (Option.bind_some _ _).symm.trans H; with_reducible exact H2_) | with_reducible exact H | (rw [hy84033]; exact H) | exact H
        have Ny84033 := Aside0.mk hy84033
        clear hy84033
        have c28b0 := eq_true (of_decide_eq_true (by assumption) : 0 ≤ x5_1)
        have c29b0 := eq_true (of_decide_eq_true (by assumption) : x5_1 ≤ (l0.length : Int))
        obtain ⟨y84036, hy84036⟩ : ∃ y_ : List Int, y_ = (l0.drop (x5_1 : Int).toNat) := ⟨_, rfl⟩
        replace H : (if y84033.length + y84036.length < 17592186044416 then (some (y84033 ++ y84036)) else (none)) = some r := by first | (rw [hy84036]; with_reducible exact H) | (have H2_ := (Option.bind_some _ _).symm.trans H; rw [hy84036]; with_reducible exact H2_) | (have H2_ := (Option.bind_some _ _).symm.trans H; with_reducible exact H2_) | with_reducible exact H | (rw [hy84036]; exact H) | exact H
        have Ny84036 := Aside0.mk hy84036
        clear hy84036
        by_cases c30 : y84033.length + y84036.length < 17592186044416
        ·rw [if_pos c30] at H
         have LMc30 := Aside0.mk c30
         clear c30
         obtain ⟨y84040, hy84040⟩ : ∃ y_ : List Int, y_ = (y84033 ++ y84036) := ⟨_, rfl⟩
         replace H : (some y84040) = some r := by first | (rw [hy84040]; with_reducible exact H) | (have H2_ := (Option.bind_some _ _).symm.trans H; rw [hy84040]; with_reducible exact H2_) | (have H2_ := (Option.bind_some _ _).symm.trans H; with_reducible exact H2_) | with_reducible exact H | (rw [hy84040]; exact H) | exact H
         have Ny84040 := Aside0.mk hy84040
         clear hy84040
         obtain rfl := Option.some.inj H
         obtain ⟨Ao31, co31, eo31⟩ := Kd.R_slice HO_0.out
         subst eo31
         go_wp2_with (first | ((with_reducible refine gate_dst (N := 34) rfl ?_); refine Kd.R_lit (Kd.int .i64) _ 3 ?hg (N := 34) ?hd (xs := ([] : List Int)) (inner := []) (ok := fun _ => True) (okp := fun _ => True) ?hr ?hp (fun _ hk => hk) trivial (Below.refl _ _) (Nat.le_refl _) (by simp) ?_; (case hd => rfl); (case hg => rfl); (case hr => first | (go_simp; done) | (go_simp; rfl)); (case hp => exact (Reps.none _ _)); intro v84024 w32 ho33 hb hg_ hnew_; clear hg_ hnew_; (first | rw [← Ny84023.out] at ho33 | (simp only [Int.reduceToNat] at ho33; rw [← Ny84023.out] at ho33)); have n0_ := Aside0.mk (Kd.R_elder' (HO_0.out) (Kd.R_base ho33) hb); have n1_ := Aside0.mk (Kd.R_lower (Kd.R_new' (Kd.R_newM (M := fun k_ => (P0_ k_ ∨ w.heap.size ≤ k_)) ho33 (by first | exact HK.out.1 | exact (show Kept w _ (fun k_ => P0_ k_) from by repeat (first | (with_reducible first | exact HK.out | apply Kept.alloc | apply Kept.drewN | apply Kept.drew) | exact HK.out)).1) (fun k_ h_ => .inr h_)) (Kd.R_lt (HO_0.out))) (below_size (by repeat (first | exact HB.out | apply below_alloc | apply pw_below_drewN | apply below_drew1)))); have n2_ := Aside0.mk (Kept.below (S := (fun k_ => P0_ k_)) (by repeat (first | (with_reducible first | exact HK.out | apply Kept.alloc | apply Kept.drewN | apply Kept.drew) | exact HK.out)) hb); have n3_ := Aside0.mk (below_step (by repeat (first | exact HB.out | apply below_alloc | apply pw_below_drewN | apply below_drew1)) hb); clear HO_0; clear HK; clear HB; have HO_0 := n0_; have HO84025 := n1_; have HK := n2_; have HB := n3_; clear n0_ n1_ n2_ n3_; clear hb ho33; have q34 : (x5_1 : Int) ≤ ((l0.length : Int) : Int) := of_decide_eq_true (by assumption); obtain ⟨i034, hi034, _, hsz34, _⟩ := info_parts info3; have hroom34 : l0.length ≤ co31 := (Kd.R_reads' HO_0.out).2.1; have hC34 : Kd.C (Kd.int .i64) _ Ao31 l0.length l0 := (Kd.R_reads' HO_0.out).2.2; have hcut34 := cut_to (P := Try.prog) 45 3 .i64 Try.underlying45 hi034 Ao31 l0.length co31 x5_1 (of_decide_eq_true (by assumption)) q34 hroom34; have hr34 := Kd.C_take (m := (x5_1 : Int).toNat) hC34 (by omega); have hy34 : y84026.length = (x5_1 : Int).toNat := (by rw [Ny84026.out, List.length_take]; omega); rw [← Ny84026.out] at hr34; rw [← hy34] at hcut34; have HR84029 := Aside0.mk hr34; have HC84029 := Aside0.mk (show y84026.length ≤ co31 from by omega); clear hr34 hC34 hroom34 hi034 hsz34; have KY34 := Aside0.mk hy34; clear hy34; have KL34 := Aside0.mk (show (x5_1 : Int).toNat ≤ l0.length from by omega); replace q34 := eq_true q34) | ((with_reducible refine gate_builtin (b := .append) (xs := #[.tmp 34, .tmp 37]) rfl ?_); at_builtin; refine Kd.R_append_rows (Kd.int .i64) (w0 := w0) w0.heap.size rfl (.tmp 34) (.tmp 37) 45 3 (.int .i64 0) 8 rfl Try.underlying45 info3 rfl (by decide) (by omega) v84024 y84023 y84026 _ _ _ (fun k_ => (P0_ k_ ∨ w.heap.size ≤ k_) ∧ some k_ ≠ (.slice Ao31 l0.length co31 : Value).ownBlock) (fun _ => False) rfl rfl ?aO ?aR (fun _ _ h => h) (fun _ h => h.elim) ?aF ?aB ?aS ?aL ?_; (case aR => repeat (first | exact (by repeat (first | (with_reducible exact HR84029.out) | (with_reducible refine Kd.C_alloc ?_ _) | (with_reducible refine Kd.C_drewN ?_ _) | (with_reducible refine Kd.C_drew ?_) | exact HR84029.out)) | (with_reducible refine Kd.C_alloc ?_ _) | (with_reducible refine Kd.C_drewN ?_ _) | (with_reducible refine Kd.C_drew ?_))); (case aB => exact (by repeat (first | exact HB.out | apply below_alloc | apply pw_below_drewN | apply below_drew1))); (case aF => exact (fun k_ hk => ⟨(.inr (Nat.le_trans (by first | exact HK.out.1 | exact (show Kept w _ (fun k_ => P0_ k_) from by repeat (first | (with_reducible first | exact HK.out | apply Kept.alloc | apply Kept.drewN | apply Kept.drew) | exact HK.out)).1) hk)), Kd.fresh' (Kd.R_lt (HO_0.out)) k_ hk⟩)); (case aO => exact (by exact Kd.R_mono HO84025.out (fun _ hk => ⟨hk.1.1, hk.2⟩))); (case aS => exact (below_size (by repeat (first | exact HB.out | apply below_alloc | apply pw_below_drewN | apply below_drew1)))); (case aL => have := LMc26.out; omega); intro v84031 w35 ho hb hg hat; rw [← Ny84030.out] at ho; have n0_ := Aside0.mk (Kd.R_after (ok := (fun k_ => (P0_ k_ ∨ w.heap.size ≤ k_))) (HO_0.out) hg hat); have n1_ := Aside0.mk (hb); have n2_ := Aside0.mk (Kept.of_grown (S := (fun k_ => P0_ k_)) hg (by repeat (first | (with_reducible first | exact HK.out | apply Kept.alloc | apply Kept.drewN | apply Kept.drew) | exact HK.out)) (fun k_ e_ => (HO84025.out.1 k_ e_).1.1)); have n3_ := Aside0.mk ((show Kd.C (Kd.int .i64) w35 Ao31 y84026.length y84026 from by rw [Ny84026.out]; exact Kd.C_take (m := (x5_1 : Int).toNat) ((Kd.R_reads' (Kd.R_after (ok := (fun k_ => (P0_ k_ ∨ w.heap.size ≤ k_))) (HO_0.out) hg hat)).2.2) KL34.out)); have n4_ := Aside0.mk (ho); clear HO_0; clear HB; clear HK; clear HR84029; clear HO84025; have HO_0 := n0_; have HB := n1_; have HK := n2_; have HR84029 := n3_; have HO84032 := n4_; clear n0_ n1_ n2_ n3_ n4_; clear ho hb hg hat) | ((with_reducible refine gate_builtin (b := .append) (xs := #[.tmp 39, .tmp 41]) rfl ?_); at_builtin; refine Kd.R_append (Kd.int .i64) (w0 := w0) w0.heap.size rfl (.tmp 39) (.tmp 41) 45 3 (.int .i64 0) 8 rfl Try.underlying45 info3 rfl (by decide) (by omega) v84031 y84030 a1 [.int .i64 a1] (fun k_ => (P0_ k_ ∨ w.heap.size ≤ k_) ∧ some k_ ≠ (.slice Ao31 l0.length co31 : Value).ownBlock) (fun _ => False) rfl rfl ?aP (fun _ hk => hk.elim) ?aF ?aO ?aB ?aS ?aL ?_; (case aP => exact rfl); (case aB => exact (by repeat (first | exact HB.out | apply below_alloc | apply pw_below_drewN | apply below_drew1))); (case aF => exact (fun k_ hk => ⟨(.inr (Nat.le_trans (by first | exact HK.out.1 | exact (show Kept w _ (fun k_ => P0_ k_) from by repeat (first | (with_reducible first | exact HK.out | apply Kept.alloc | apply Kept.drewN | apply Kept.drew) | exact HK.out)).1) hk)), Kd.fresh' (Kd.R_lt (HO_0.out)) k_ hk⟩)); (case aO => exact (HO84032.out)); (case aS => exact (below_size (by repeat (first | exact HB.out | apply below_alloc | apply pw_below_drewN | apply below_drew1)))); (case aL => have := LMc27.out; omega); intro v84034 w36 ho hb hg hat; rw [← Ny84033.out] at ho; have n0_ := Aside0.mk (Kd.R_after (ok := (fun k_ => (P0_ k_ ∨ w.heap.size ≤ k_))) (HO_0.out) hg hat); have n1_ := Aside0.mk (hb); have n2_ := Aside0.mk (Kept.of_grown (S := (fun k_ => P0_ k_)) hg (by repeat (first | (with_reducible first | exact HK.out | apply Kept.alloc | apply Kept.drewN | apply Kept.drew) | exact HK.out)) (fun k_ e_ => (HO84032.out.1 k_ e_).1)); have n3_ := Aside0.mk ((show Kd.C (Kd.int .i64) w36 Ao31 y84026.length y84026 from by rw [Ny84026.out]; exact Kd.C_take (m := (x5_1 : Int).toNat) ((Kd.R_reads' (Kd.R_after (ok := (fun k_ => (P0_ k_ ∨ w.heap.size ≤ k_))) (HO_0.out) hg hat)).2.2) KL34.out)); have n4_ := Aside0.mk (ho); clear HO_0; clear HB; clear HK; clear HR84029; clear HO84032; have HO_0 := n0_; have HB := n1_; have HK := n2_; have HR84029 := n3_; have HO84035 := n4_; clear n0_ n1_ n2_ n3_ n4_; clear ho hb hg hat; have q37 : (x5_1 : Int) ≤ ((l0.length : Int) : Int) := of_decide_eq_true (by assumption); obtain ⟨i037, hi037, _, hsz37, _⟩ := info_parts info3; have hroom37 : l0.length ≤ co31 := (Kd.R_reads' HO_0.out).2.1; have hC37 : Kd.C (Kd.int .i64) _ Ao31 l0.length l0 := (Kd.R_reads' HO_0.out).2.2; have q037 : (0 : Int) ≤ (x5_1 : Int) := of_decide_eq_true (by assumption); have hcut37 := cut_from (P := Try.prog) 45 3 .i64 Try.underlying45 hi037 1 hsz37 Ao31 l0.length co31 x5_1 q037 q37; have hr37 := Kd.C_drop (m := (x5_1 : Int).toNat) (c := co31) hC37 (by omega) hroom37; obtain ⟨A37, hA37⟩ : ∃ A1, A1 = (if co31 = (x5_1 : Int).toNat then Ao31 else (Ao31 : Option Addr).map (·.add ((x5_1 : Int).toNat * 1))) := ⟨_, rfl⟩; obtain ⟨c37, hc37⟩ : ∃ c1, c1 = co31 - (x5_1 : Int).toNat := ⟨_, rfl⟩; have hy37 : y84036.length = l0.length - (x5_1 : Int).toNat := (by rw [Ny84036.out, List.length_drop] <;> omega); rw [show (l0).drop (x5_1 : Int).toNat = y84036 from Ny84036.out.symm] at hr37; replace hr37 : Kd.C (Kd.int .i64) _ A37 y84036.length y84036 := (by rw [hA37]; exact hr37); rw [← hy37, ← hA37, ← hc37] at hcut37; have HR84039 := Aside0.mk hr37; have HC84039 := Aside0.mk (show y84036.length ≤ c37 from by rw [hy37, hc37]; exact Nat.sub_le_sub_right hroom37 _); clear hr37 hC37 hroom37 hi037 hsz37 hc37; have KY37 := Aside0.mk hy37; have KA37 := Aside0.mk hA37; clear hy37 hA37; have KL37 := Aside0.mk (show (x5_1 : Int).toNat ≤ l0.length from by omega); replace q37 := eq_true q37) | ((with_reducible refine gate_builtin (b := .append) (xs := #[.tmp 43, .tmp 46]) rfl ?_); at_builtin; refine Kd.R_append_rows (Kd.int .i64) (w0 := w0) w0.heap.size rfl (.tmp 43) (.tmp 46) 45 3 (.int .i64 0) 8 rfl Try.underlying45 info3 rfl (by decide) (by omega) v84034 y84033 y84036 _ _ _ (fun k_ => (P0_ k_ ∨ w.heap.size ≤ k_) ∧ some k_ ≠ (.slice Ao31 l0.length co31 : Value).ownBlock) (fun _ => False) rfl rfl ?aO ?aR (fun _ _ h => h) (fun _ h => h.elim) ?aF ?aB ?aS ?aL ?_; (case aR => repeat (first | exact (by repeat (first | (with_reducible exact HR84039.out) | (with_reducible refine Kd.C_alloc ?_ _) | (with_reducible refine Kd.C_drewN ?_ _) | (with_reducible refine Kd.C_drew ?_) | exact HR84039.out)) | (with_reducible refine Kd.C_alloc ?_ _) | (with_reducible refine Kd.C_drewN ?_ _) | (with_reducible refine Kd.C_drew ?_))); (case aB => exact (by repeat (first | exact HB.out | apply below_alloc | apply pw_below_drewN | apply below_drew1))); (case aF => exact (fun k_ hk => ⟨(.inr (Nat.le_trans (by first | exact HK.out.1 | exact (show Kept w _ (fun k_ => P0_ k_) from by repeat (first | (with_reducible first | exact HK.out | apply Kept.alloc | apply Kept.drewN | apply Kept.drew) | exact HK.out)).1) hk)), Kd.fresh' (Kd.R_lt (HO_0.out)) k_ hk⟩)); (case aO => exact (HO84035.out)); (case aS => exact (below_size (by repeat (first | exact HB.out | apply below_alloc | apply pw_below_drewN | apply below_drew1)))); (case aL => have := LMc30.out; omega); intro v84041 w38 ho hb hg hat; rw [← Ny84040.out] at ho; have n0_ := Aside0.mk (Kd.R_after (ok := (fun k_ => (P0_ k_ ∨ w.heap.size ≤ k_))) (HO_0.out) hg hat); have n1_ := Aside0.mk (hb); have n2_ := Aside0.mk (Kept.of_grown (S := (fun k_ => P0_ k_)) hg (by repeat (first | (with_reducible first | exact HK.out | apply Kept.alloc | apply Kept.drewN | apply Kept.drew) | exact HK.out)) (fun k_ e_ => (HO84035.out.1 k_ e_).1)); have n3_ := Aside0.mk ((show Kd.C (Kd.int .i64) w38 Ao31 y84026.length y84026 from by rw [Ny84026.out]; exact Kd.C_take (m := (x5_1 : Int).toNat) ((Kd.R_reads' (Kd.R_after (ok := (fun k_ => (P0_ k_ ∨ w.heap.size ≤ k_))) (HO_0.out) hg hat)).2.2) KL34.out)); have n4_ := Aside0.mk ((show Kd.C (Kd.int .i64) w38 A37 y84036.length y84036 from by rw [Ny84036.out, KA37.out]; exact Kd.C_drop (m := (x5_1 : Int).toNat) (c := co31) ((Kd.R_reads' (Kd.R_after (ok := (fun k_ => (P0_ k_ ∨ w.heap.size ≤ k_))) (HO_0.out) hg hat)).2.2) KL37.out ((Kd.R_reads' (Kd.R_after (ok := (fun k_ => (P0_ k_ ∨ w.heap.size ≤ k_))) (HO_0.out) hg hat)).2.1))); have n5_ := Aside0.mk (ho); clear HO_0; clear HB; clear HK; clear HR84029; clear HR84039; clear HO84035; have HO_0 := n0_; have HB := n1_; have HK := n2_; have HR84029 := n3_; have HR84039 := n4_; have HO84042 := n5_; clear n0_ n1_ n2_ n3_ n4_ n5_; clear ho hb hg hat))
         go_ret
         exact ⟨_, by first | rfl | (simp [errW_none, errW_some] <;> rfl) | (simp [*, errW_none, errW_some] <;> rfl), by exact Kd.R_mono HO84042.out (fun _ hk => hk.1), by repeat (first | exact HB.out | apply below_alloc | apply pw_below_drewN | apply below_drew1), by repeat (first | (with_reducible first | exact HK.out | apply Kept.alloc | apply Kept.drewN | apply Kept.drew) | exact HK.out)⟩
        ·rw [if_neg c30] at H
         exact absurd H (by simp)
       ·rw [if_neg c27] at H
        exact absurd H (by simp)
      ·rw [if_neg c26] at H
       exact absurd H (by simp)
     ·rw [if_neg c25] at H
      exact absurd H (by simp)
    ·rw [if_neg c24] at H
     exact absurd H (by simp)

end Go.Proofs.Ytnfcpcgbdoiiiaa.G

namespace Go.Proofs.Ytnfcpcgbdoiiiaa.G
open Go.RowKit Go.Proofs.YtnfcpcgbdoiiiaaW.PrintWords Go.Proofs.YtnfcpcgbdoiiiaaW.PrintLast Go.Proofs.YtnfcpcgbdoiiiaaW.PrintMore
attribute [local go_sem] max2_int min2_int max_two min_two max_three min_three max_four min_four   -- for this text's walks alone
set_option linter.unusedVariables false
set_option linter.unusedSimpArgs false

mutual
def papermillref04_ends.l0 : Nat → List (S50) → List (S50) → List Int → Int → Option (List Int)
 | 0, _, _, _, _ => none
 | k + 1, x0, x1, x5, x6 => if x6 < (x0.length : Int) then (if 0 ≤ x6 then ((papermillref04_with.f k x5 ((rd_T50 x0 x6).f0)).bind fun t71002 => ((papermillref04_with.f k t71002 ((rd_T50 x0 x6).f1)).bind fun t71006 => (papermillref04_ends.l0 k x0 x1 t71006 (wrap64 (x6 + 1))))) else (none)) else (papermillref04_ends.l1 k x1 x5 0)
def papermillref04_ends.l1 : Nat → List (S50) → List Int → Int → Option (List Int)
 | 0, _, _, _ => none
 | k + 1, x1, x5, x7 => if x7 < (x1.length : Int) then (if 0 ≤ x7 then ((papermillref04_with.f k x5 ((rd_T50 x1 x7).f0)).bind fun t71010 => ((papermillref04_with.f k t71010 ((rd_T50 x1 x7).f1)).bind fun t71014 => (papermillref04_ends.l1 k x1 t71014 (wrap64 (x7 + 1))))) else (none)) else (some x5)
end
def papermillref04_ends.f (k : Nat) (l0 : List (S50)) (l1 : List (S50)) : Option (List Int) := papermillref04_ends.l0 k l0 l1 ([] : List Int) 0
theorem papermillref04_ends.mono_l : ∀ k, (∀ y0 y1 y2 y3, LeO (papermillref04_ends.l0 k y0 y1 y2 y3) (papermillref04_ends.l0 (k + 1) y0 y1 y2 y3)) ∧ (∀ y0 y1 y2, LeO (papermillref04_ends.l1 k y0 y1 y2) (papermillref04_ends.l1 (k + 1) y0 y1 y2))
 | 0 => ⟨fun _ _ _ _ r h => by simp [papermillref04_ends.l0] at h, fun _ _ _ r h => by simp [papermillref04_ends.l1] at h⟩
 | k + 1 => by
  obtain ⟨ih0, ih1⟩ := papermillref04_ends.mono_l k
  refine ⟨?_, ?_⟩
  ·intro y0 y1 y2 y3
   unfold papermillref04_ends.l0
   repeat' first
   | (with_reducible exact ih0 _ _ _ _)
   | (with_reducible exact ih1 _ _ _)
   | (with_reducible exact papermillref04_with.mono _ _ _)
   | (with_reducible exact LeO.refl _)
   | (with_reducible exact LeO.none _)
   | (with_reducible refine LeO.ite ?_ ?_)
   | (with_reducible refine LeO.bind ?_ (fun _ => ?_))
   | exact ih0 _ _ _ _
   | exact ih1 _ _ _
   | exact papermillref04_with.mono _ _ _
   | exact LeO.none _
   | refine LeO.ite ?_ ?_
   | refine LeO.bind ?_ (fun _ => ?_)
  ·intro y0 y1 y2
   unfold papermillref04_ends.l1
   repeat' first
   | (with_reducible exact ih0 _ _ _ _)
   | (with_reducible exact ih1 _ _ _)
   | (with_reducible exact papermillref04_with.mono _ _ _)
   | (with_reducible exact LeO.refl _)
   | (with_reducible exact LeO.none _)
   | (with_reducible refine LeO.ite ?_ ?_)
   | (with_reducible refine LeO.bind ?_ (fun _ => ?_))
   | exact ih0 _ _ _ _
   | exact ih1 _ _ _
   | exact papermillref04_with.mono _ _ _
   | exact LeO.none _
   | refine LeO.ite ?_ ?_
   | refine LeO.bind ?_ (fun _ => ?_)
theorem papermillref04_ends.mono : ∀ a0 a1 k, LeO (papermillref04_ends.f k a0 a1) (papermillref04_ends.f (k + 1) a0 a1) := by
 intro a0 a1 k
 obtain ⟨ih0, ih1⟩ := papermillref04_ends.mono_l k
 unfold papermillref04_ends.f
 repeat' first
   | (with_reducible exact ih0 _ _ _ _)
   | (with_reducible exact ih1 _ _ _)
   | (with_reducible exact papermillref04_with.mono _ _ _)
   | (with_reducible exact LeO.refl _)
   | (with_reducible exact LeO.none _)
   | (with_reducible refine LeO.ite ?_ ?_)
   | (with_reducible refine LeO.bind ?_ (fun _ => ?_))
   | exact ih0 _ _ _ _
   | exact ih1 _ _ _
   | exact papermillref04_with.mono _ _ _
   | exact LeO.none _
   | refine LeO.ite ?_ ?_
   | refine LeO.bind ?_ (fun _ => ?_)
def papermillref04_ends.T5 : Bool × List (List Nat × List Nat) := (true, [([], []), ([], []), ([], []), ([1, 2], [1, 2]), ([3], [3]), ([4], [4]), ([0, 5], [0, 5]), ([], []), ([], []), ([7, 8], [7, 8]), ([9], [9]), ([10], [10]), ([6, 11, 6], [6, 11]), ([12, 12, 0, 1, 2, 3, 4, 5, 6, 7, 8, 9, 10, 11, 12], [0, 12])])
def papermillref04_ends.B5 : List Nat := [0, 0, 0, 6, 14, 30, 63, 0, 0, 384, 896, 1920, 4095, 8191]
theorem papermillref04_ends.tab5 : rtab .any (opsOf Try.f70 5) = papermillref04_ends.T5 := by kernel_rfl
theorem papermillref04_ends.bits5 : waitsOk papermillref04_ends.T5.2 papermillref04_ends.B5 = true := by kernel_rfl
def papermillref04_ends.T9 : Bool × List (List Nat × List Nat) := (true, [([], []), ([], []), ([], []), ([1, 2], [1, 2]), ([3], [3]), ([4], [4]), ([0, 5], [0, 5]), ([], []), ([], []), ([7, 8], [7, 8]), ([9], [9]), ([10], [10]), ([6, 11, 6], [6, 11]), ([12, 12, 0, 1, 2, 3, 4, 5, 6, 7, 8, 9, 10, 11, 12], [0, 12])])
def papermillref04_ends.B9 : List Nat := [0, 0, 0, 6, 14, 30, 63, 0, 0, 384, 896, 1920, 4095, 8191]
theorem papermillref04_ends.tab9 : rtab .any (opsOf Try.f70 9) = papermillref04_ends.T9 := by kernel_rfl
theorem papermillref04_ends.bits9 : waitsOk papermillref04_ends.T9.2 papermillref04_ends.B9 = true := by kernel_rfl
set_option maxHeartbeats 8000000 in
set_option maxRecDepth 100000 in
theorem papermillref04_ends.calls (k : Nat) (A0 : Option Addr) (c0 : Nat) (l0 : List (S50)) (A1 : Option Addr) (c1 : Nat) (l1 : List (S50)) (r : List Int) (w : World) (hr0 : Kd.C k50 w A0 l0.length l0) (hc0 : l0.length ≤ c0) (hr1 : Kd.C k50 w A1 l1.length l1) (hc1 : l1.length ≤ c1) (h : papermillref04_ends.f k l0 l1 = some r) :
  Calls Try.prog 70 #[.slice A0 l0.length c0, .slice A1 l1.length c1] w fun e w' => ∃ v0_ : Value, e = .returned (v0_) ∧ Kd.R (Kd.int .i64) 3 w' w.heap.size (fun _ => True) v0_ r ∧ Below w.heap.size w w' := by
 have HR0 := Aside0.mk hr0
 have HC0 := Aside0.mk hc0
 clear hr0 hc0
 have HR1 := Aside0.mk hr1
 have HC1 := Aside0.mk hc1
 clear hr1 hc1
 have HB := Aside0.mk (Below.refl w.heap.size w)
 have H : (papermillref04_ends.l0 k l0 l1 ([] : List Int) 0) = some r := h
 clear h
 have H' := Aside0.mk H
 clear H
 go_enter Try.func70, Try.ntmps70
 go_wp2
 go_loopg [5, 6] k (fun kq v5 v6 w' => ∃ (x5_1 : List Int) (x6_1 : Int), v6 = .int .i64 x6_1 ∧ Aside0 (papermillref04_ends.l0 kq l0 l1 x5_1 x6_1 = some r) ∧ Aside0 (kq ≤ k) ∧ Aside0 (Kd.R (Kd.int .i64) 3 w' w.heap.size (fun _ => True) v5 x5_1) ∧ Aside0 (Below w.heap.size w w'))
 case atStart => exact ⟨(([] : List Int)), (0), (by first | rfl | (simp; done) | (simp [*]; done)), H', ⟨Nat.le_refl _⟩, ⟨by first | exact Kd.R_nil _ _ _ _ _ | exact Kd.N_nil _ _ _ _ _ | exact Kd.V_nil _ _ _ _ _ | exact Kd.Q_nil _ _ _ _ _ | exact Kd.S_nil _ _ _ _ _⟩, ⟨by repeat (first | exact HB.out | apply below_alloc | apply pw_below_drewN | apply below_drew1)⟩⟩
 case round =>
  clear H'
  try clear c1
  try clear p2
  obtain ⟨x5_1, x6_1, rfl, HA, HK1, HO_5, HB⟩ := hrel
  cases gk with
  | zero => exact absurd HA.out (by simp [papermillref04_ends.l0])
  | succ k1 =>
   have H := HA.out
   clear HA
   simp only [papermillref04_ends.l0] at H
   by_cases c3 : x6_1 < (l0.length : Int)
   ·rw [if_pos c3] at H
    have c3b0 : decide (x6_1 < (l0.length : Int)) = true := decide_eq_true c3
    clear c3
    by_cases c4 : 0 ≤ x6_1
    ·rw [if_pos c4] at H
     have c4b0 : decide (0 ≤ x6_1) = true := decide_eq_true c4
     clear c4
     replace H := Option.bind_eq_some_iff.mp H
     obtain ⟨t71002, A50, H⟩ := H
     replace H : ((papermillref04_with.f k1 t71002 ((rd_T50 l0 x6_1).f1)).bind fun t71006 => (papermillref04_ends.l0 k1 l0 l1 t71006 (wrap64 (x6_1 + 1)))) = some r := H
     have A5 := Aside0.mk A50
     clear A50
     replace H := Option.bind_eq_some_iff.mp H
     obtain ⟨t71006, A60, H⟩ := H
     replace H : (papermillref04_ends.l0 k1 l0 l1 t71006 (wrap64 (x6_1 + 1))) = some r := H
     have A6 := Aside0.mk A60
     clear A60
     have H' := Aside0.mk H
     clear H
     try go_wp2
     have n0_ := Aside0.mk (Kd.R_drew HO_5.out)
     have n1_ := Aside0.mk (below_drew1 HB.out)
     clear HO_5
     clear HB
     have HO_5 := n0_
     have HB := n1_
     clear n0_ n1_
     have p71001 : 0 ≤ (x6_1 : Int) := of_decide_eq_true (by assumption)
     have q71001 : x6_1 < (l0.length : Int) := of_decide_eq_true (by assumption)
     obtain ⟨ad71001, e71001, hx71001_0, hx71001_1⟩ := at_T50 HR0.out x6_1 p71001 q71001
     have hw71001_1 := hx71001_1
     have hw71001_0 := hx71001_0
     cases e71001
     replace hx71001_0 := (HB.out.cell (World.block_lt_of_cell? w _ hx71001_0)).trans hx71001_0
     replace hx71001_1 := (HB.out.cell (World.block_lt_of_cell? w _ hx71001_1)).trans hx71001_1
     replace p71001 := eq_true p71001
     replace q71001 := eq_true q71001
     have p71005 : 0 ≤ (x6_1 : Int) := of_decide_eq_true (by assumption)
     have q71005 : x6_1 < (l0.length : Int) := of_decide_eq_true (by assumption)
     obtain ⟨ad71005, e71005, hx71005_0, hx71005_1⟩ := at_T50 HR0.out x6_1 p71005 q71005
     have hw71005_1 := hx71005_1
     have hw71005_0 := hx71005_0
     obtain rfl : ad71001 = ad71005 := (by injection e71005)
     replace hx71005_0 := (HB.out.cell (World.block_lt_of_cell? w _ hx71005_0)).trans hx71005_0
     replace hx71005_1 := (HB.out.cell (World.block_lt_of_cell? w _ hx71005_1)).trans hx71005_1
     replace p71005 := eq_true p71005
     replace q71005 := eq_true q71005
     obtain ⟨Ao8, co8, eo8⟩ := Kd.R_slice HO_5.out
     (first | subst eo8 | (injection eo8 with f1_ f2_ f3_; have f4_ := f1_.symm; have f5_ := f3_.symm; clear f1_ f2_ f3_; subst f4_; subst f5_))
     refine start_ (n := 14) (S := fun w' => w'.cell? (ad71001.add ((x6_1).toNat * 2)) = some (.int .i64 ((rd_T50 l0 x6_1).f0)) ∧ w'.cell? ⟨(ad71001.add ((x6_1).toNat * 2)).block, (ad71001.add ((x6_1).toNat * 2)).off + 1, none⟩ = some (.int .i64 ((rd_T50 l0 x6_1).f1)) ∧ w'.cell? (ad71001.add ((x6_1).toNat * 2)) = some (.int .i64 ((rd_T50 l0 x6_1).f0)) ∧ w'.cell? ⟨(ad71001.add ((x6_1).toNat * 2)).block, (ad71001.add ((x6_1).toNat * 2)).off + 1, none⟩ = some (.int .i64 ((rd_T50 l0 x6_1).f1))) (ds := []) #[false, false, false, false, false, false, false, false, false, false, false, false, false, false] (by kernel_rfl) rfl rfl ⟨((HB.out.cell (World.block_lt_of_cell? w _ hw71001_0)).trans hw71001_0), ((HB.out.cell (World.block_lt_of_cell? w _ hw71001_1)).trans hw71001_1), ((HB.out.cell (World.block_lt_of_cell? w _ hw71005_0)).trans hw71005_0), ((HB.out.cell (World.block_lt_of_cell? w _ hw71005_1)).trans hw71005_1)⟩ (fun hHeld => ?_); refine with_tabW papermillref04_ends.tab5 papermillref04_ends.bits5 (fun HT_ HW_ => ?_)
     generalize wr.drew = w7 at HO_5 HB hx71001_0 hx71001_1 hx71005_0 hx71005_1 hHeld ⊢
     refine pure_ (i := 0) (N := some 14) (v := ?_) (a' := ?_) #[true, false, false, false, false, false, false, false, false, false, false, false, false, false] rfl rfl (any_of HT_.out (by kernel_rfl)) (fun _ _ _ h => h) (Or.inl ⟨by rfl, ?_⟩) ?_ ?_
     rotate_left
     ·intro w'
      go_simp
      with_reducible rfl
     rotate_left
     ·simp only [Act.put, List.setIfInBounds_toArray, List.set_cons_zero, List.set_cons_succ, i64_w, i32_w]
      rfl
     refine pure_ (i := 1) (N := some 15) (v := ?_) (a' := ?_) #[true, true, false, false, false, false, false, false, false, false, false, false, false, false] rfl rfl (any_of HT_.out (by kernel_rfl)) (fun _ _ _ h => h) (Or.inl ⟨by rfl, ?_⟩) ?_ ?_
     rotate_left
     ·intro w'
      go_simp
      with_reducible rfl
     rotate_left
     ·simp only [Act.put, List.setIfInBounds_toArray, List.set_cons_zero, List.set_cons_succ, i64_w, i32_w]
      rfl
     refine pure_ (i := 2) (N := some 16) (v := ?_) (a' := ?_) #[true, true, true, false, false, false, false, false, false, false, false, false, false, false] rfl rfl (any_of HT_.out (by kernel_rfl)) (fun _ _ _ h => h) (Or.inl ⟨by rfl, ?_⟩) ?_ ?_
     rotate_left
     ·intro w'
      go_simp
      with_reducible rfl
     rotate_left
     ·simp only [Act.put, List.setIfInBounds_toArray, List.set_cons_zero, List.set_cons_succ, i64_w, i32_w]
      rfl
     refine pure_ (i := 3) (N := some 17) (v := ?_) (a' := ?_) #[true, true, true, true, false, false, false, false, false, false, false, false, false, false] rfl rfl (any_of HT_.out (by kernel_rfl)) (fun _ _ _ h => h) (Or.inl ⟨by rfl, ?_⟩) ?_ ?_
     rotate_left
     ·intro w'
      go_simp
      with_reducible rfl
     rotate_left
     ·simp only [Act.put, List.setIfInBounds_toArray, List.set_cons_zero, List.set_cons_succ, i64_w, i32_w]
      rfl
     refine pure_ (i := 4) (N := some 18) (v := ?_) (a' := ?_) #[true, true, true, true, true, false, false, false, false, false, false, false, false, false] rfl rfl (any_of HT_.out (by kernel_rfl)) (fun _ _ _ h => h) (Or.inl ⟨by rfl, ?_⟩) ?_ ?_
     rotate_left
     ·intro w'
      go_simp
      with_reducible rfl
     rotate_left
     ·simp only [Act.put, List.setIfInBounds_toArray, List.set_cons_zero, List.set_cons_succ, i64_w, i32_w]
      rfl
     refine pure_ (i := 7) (N := some 21) (v := ?_) (a' := ?_) #[true, true, true, true, true, false, false, true, false, false, false, false, false, false] rfl rfl (any_of HT_.out (by kernel_rfl)) (fun _ _ _ h => h) (Or.inl ⟨by rfl, ?_⟩) ?_ ?_
     rotate_left
     ·intro w'
      go_simp
      with_reducible rfl
     rotate_left
     ·simp only [Act.put, List.setIfInBounds_toArray, List.set_cons_zero, List.set_cons_succ, i64_w, i32_w]
      rfl
     refine pure_ (i := 8) (N := some 22) (v := ?_) (a' := ?_) #[true, true, true, true, true, false, false, true, true, false, false, false, false, false] rfl rfl (any_of HT_.out (by kernel_rfl)) (fun _ _ _ h => h) (Or.inl ⟨by rfl, ?_⟩) ?_ ?_
     rotate_left
     ·intro w'
      go_simp
      with_reducible rfl
     rotate_left
     ·simp only [Act.put, List.setIfInBounds_toArray, List.set_cons_zero, List.set_cons_succ, i64_w, i32_w]
      rfl
     refine pure_ (i := 9) (N := some 23) (v := ?_) (a' := ?_) #[true, true, true, true, true, false, false, true, true, true, false, false, false, false] rfl rfl (any_of HT_.out (by kernel_rfl)) (fun _ _ _ h => h) (Or.inl ⟨by rfl, ?_⟩) ?_ ?_
     rotate_left
     ·intro w'
      go_simp
      with_reducible rfl
     rotate_left
     ·simp only [Act.put, List.setIfInBounds_toArray, List.set_cons_zero, List.set_cons_succ, i64_w, i32_w]
      rfl
     refine pure_ (i := 10) (N := some 24) (v := ?_) (a' := ?_) #[true, true, true, true, true, false, false, true, true, true, true, false, false, false] rfl rfl (any_of HT_.out (by kernel_rfl)) (fun _ _ _ h => h) (Or.inl ⟨by rfl, ?_⟩) ?_ ?_
     rotate_left
     ·intro w'
      go_simp
      with_reducible rfl
     rotate_left
     ·simp only [Act.put, List.setIfInBounds_toArray, List.set_cons_zero, List.set_cons_succ, i64_w, i32_w]
      rfl
     refine take_ (i := 5) (N := some 19) (v := ?_) (a' := ?_) #[true, true, true, true, true, true, false, true, true, true, true, false, false, false] rfl rfl (take_ofW HT_.out HW_.out (by kernel_rfl)) (fun _ _ _ h => h) (Or.inl ⟨by rfl, ?_⟩) hHeld ?_ ?_
     rotate_left
     ·rintro w' ⟨s0, s1, s2, s3⟩
      go_simp
      with_reducible rfl
     rotate_left
     ·simp only [Act.put, List.setIfInBounds_toArray, List.set_cons_zero, List.set_cons_succ, i64_w, i32_w]
      rfl
     refine take_ (i := 11) (N := some 25) (v := ?_) (a' := ?_) #[true, true, true, true, true, true, false, true, true, true, true, true, false, false] rfl rfl (take_ofW HT_.out HW_.out (by kernel_rfl)) (fun _ _ _ h => h) (Or.inl ⟨by rfl, ?_⟩) hHeld ?_ ?_
     rotate_left
     ·rintro w' ⟨s0, s1, s2, s3⟩
      go_simp
      with_reducible rfl
     rotate_left
     ·simp only [Act.put, List.setIfInBounds_toArray, List.set_cons_zero, List.set_cons_succ, i64_w, i32_w]
      rfl
     refine one_ (i := 6) (N := some 20) #[true, true, true, true, true, true, true, true, true, true, true, true, false, false] rfl rfl (one_of HT_.out (by kernel_rfl)) (by decide) (fun K hK => ?_)
     refine goes_ Try.func83 (by kernel_rfl) rfl #[.slice Ao8 x5_1.length co8, .int .i64 ((rd_T50 l0 x6_1).f0)] (by rfl) rfl rfl (by (try simp only [List.map_toArray, List.map_cons, List.map_nil]); first | done | rfl | (simp only [List.length_drop, List.length_take]; rfl)) ?_
     with_reducible refine (papermillref04_with.calls k1 (fun k_ => some k_ = (.slice Ao8 x5_1.length co8 : Value).ownBlock) (.slice Ao8 x5_1.length co8) x5_1 ((rd_T50 l0 x6_1).f0) t71002 w _ ?side1 ?side2 A5.out).mono ?_
     (case side1 => repeat (first | exact HB.out | apply below_alloc | apply pw_below_drewN | apply below_drew1))
     (case side2 => exact Kd.R_tight rfl HO_5.out)
     rintro e w9 ⟨v71003, rfl, ho0, hb, hkp⟩
     refine ⟨_, rfl, ?_⟩
     have n0_ := Aside0.mk (Kd.R_mono (ok' := fun k_ => True) ho0 (fun k_ hk_ => trivial))
     have n1_ := Aside0.mk (hb)
     clear HB
     clear HO_5
     have HO71004 := n0_
     have HB := n1_
     clear n0_ n1_
     (try clear hb)
     (try clear hkp)
     (try clear ho0)
     obtain ⟨Ao10, co10, eo10⟩ := Kd.R_slice HO71004.out
     (first | subst eo10 | (injection eo10 with f1_ f2_ f3_; have f4_ := f1_.symm; have f5_ := f3_.symm; clear f1_ f2_ f3_; subst f4_; subst f5_))
     refine hK.out _ _ ⟨((HB.out.cell (World.block_lt_of_cell? w _ hw71001_0)).trans hw71001_0), ((HB.out.cell (World.block_lt_of_cell? w _ hw71001_1)).trans hw71001_1), ((HB.out.cell (World.block_lt_of_cell? w _ hw71005_0)).trans hw71005_0), ((HB.out.cell (World.block_lt_of_cell? w _ hw71005_1)).trans hw71005_1)⟩ (fun hHeld => ?_)
     clear hK K
     refine norm_ (a' := ?_) ?_ ?_
     rotate_left
     ·show Act.put _ (some 20) _ = _
      simp only [Act.put, List.setIfInBounds_toArray, List.set_cons_zero, List.set_cons_succ, i64_w, i32_w]
      rfl
     refine one_ (i := 12) (N := some 26) #[true, true, true, true, true, true, true, true, true, true, true, true, true, false] rfl rfl (one_of HT_.out (by kernel_rfl)) (by decide) (fun K hK => ?_)
     refine goes_ Try.func83 (by kernel_rfl) rfl #[.slice Ao10 t71002.length co10, .int .i64 ((rd_T50 l0 x6_1).f1)] (by rfl) rfl rfl (by (try simp only [List.map_toArray, List.map_cons, List.map_nil]); first | done | rfl | (simp only [List.length_drop, List.length_take]; rfl)) ?_
     with_reducible refine (papermillref04_with.calls k1 (fun k_ => some k_ = (.slice Ao10 t71002.length co10 : Value).ownBlock) (.slice Ao10 t71002.length co10) t71002 ((rd_T50 l0 x6_1).f1) t71006 w _ ?side1 ?side2 A6.out).mono ?_
     (case side1 => repeat (first | exact HB.out | apply below_alloc | apply pw_below_drewN | apply below_drew1))
     (case side2 => exact Kd.R_tight rfl HO71004.out)
     rintro e w11 ⟨v71007, rfl, ho0, hb, hkp⟩
     refine ⟨_, rfl, ?_⟩
     have n0_ := Aside0.mk (Kd.R_mono (ok' := fun k_ => True) ho0 (fun k_ hk_ => trivial))
     have n1_ := Aside0.mk (hb)
     clear HB
     clear HO71004
     have HO71008 := n0_
     have HB := n1_
     clear n0_ n1_
     (try clear hb)
     (try clear hkp)
     (try clear ho0)
     refine hK.out _ _ ⟨((HB.out.cell (World.block_lt_of_cell? w _ hw71001_0)).trans hw71001_0), ((HB.out.cell (World.block_lt_of_cell? w _ hw71001_1)).trans hw71001_1), ((HB.out.cell (World.block_lt_of_cell? w _ hw71005_0)).trans hw71005_0), ((HB.out.cell (World.block_lt_of_cell? w _ hw71005_1)).trans hw71005_1)⟩ (fun hHeld => ?_)
     clear hK K
     refine norm_ (a' := ?_) ?_ ?_
     rotate_left
     ·show Act.put _ (some 26) _ = _
      simp only [Act.put, List.setIfInBounds_toArray, List.set_cons_zero, List.set_cons_succ, i64_w, i32_w]
      rfl
     refine pure_ (i := 13) (N := some 5) (v := ?_) (a' := ?_) #[true, true, true, true, true, true, true, true, true, true, true, true, true, true] rfl rfl (any_of HT_.out (by kernel_rfl)) (fun _ _ _ h => h) (Or.inl ⟨by rfl, ?_⟩) ?_ ?_
     rotate_left
     ·intro w'
      go_simp
      with_reducible rfl
     rotate_left
     ·simp only [Act.put, List.setIfInBounds_toArray, List.set_cons_zero, List.set_cons_succ, i64_w, i32_w]
      rfl
     refine done_ (done_of HT_.out (by kernel_rfl)) ?_
     try go_wp2
     go_roundg k1
     case measure => have := HK1.out; omega
     case rel => exact ⟨(t71006), (wrap64 (x6_1 + 1)), (by first | rfl | (simp; done) | (simp [*]; done)), H', ⟨by have := HK1.out; omega⟩, ⟨HO71008.out⟩, ⟨by repeat (first | exact HB.out | apply below_alloc | apply pw_below_drewN | apply below_drew1)⟩⟩
    ·rw [if_neg c4] at H
     exact absurd H (by simp)
   ·rw [if_neg c3] at H
    have c3b0 : decide (x6_1 < (l0.length : Int)) = false := decide_eq_false c3
    clear c3
    have H' := Aside0.mk H
    clear H
    go_wp2
    go_loopg [5, 7] k1 (fun kq v5 v7 w' => ∃ (x5_2 : List Int) (x7_2 : Int), v7 = .int .i64 x7_2 ∧ Aside0 (papermillref04_ends.l1 kq l1 x5_2 x7_2 = some r) ∧ Aside0 (kq ≤ k1) ∧ Aside0 (Kd.R (Kd.int .i64) 3 w' w.heap.size (fun _ => True) v5 x5_2) ∧ Aside0 (Below w.heap.size w w'))
    case atStart => exact ⟨(x5_1), (0), (by first | rfl | (simp; done) | (simp [*]; done)), H', ⟨Nat.le_refl _⟩, ⟨HO_5.out⟩, ⟨by repeat (first | exact HB.out | apply below_alloc | apply pw_below_drewN | apply below_drew1)⟩⟩
    case round =>
     clear H'
     try clear c1
     try clear p2
     try clear c3
     try clear c3b0
     try clear c4
     try clear c4b0
     try clear p6
     try clear c7
     try clear p7
     try clear q7
     try clear hx7
     try clear c8
     try clear hx71001_0
     try clear hx71001_1
     try clear hx71005_0
     try clear hx71005_1
     try clear p2
     try clear p71001
     try clear p71005
     try clear q71001
     try clear q71005
     obtain ⟨x5_2, x7_2, rfl, HA, HK2, HO_5, HB⟩ := hrel
     cases gk with
     | zero => exact absurd HA.out (by simp [papermillref04_ends.l1])
     | succ k2 =>
      have H := HA.out
      clear HA
      simp only [papermillref04_ends.l1] at H
      by_cases c12 : x7_2 < (l1.length : Int)
      ·rw [if_pos c12] at H
       have c12b0 : decide (x7_2 < (l1.length : Int)) = true := decide_eq_true c12
       clear c12
       by_cases c13 : 0 ≤ x7_2
       ·rw [if_pos c13] at H
        have c13b0 : decide (0 ≤ x7_2) = true := decide_eq_true c13
        clear c13
        replace H := Option.bind_eq_some_iff.mp H
        obtain ⟨t71010, A140, H⟩ := H
        replace H : ((papermillref04_with.f k2 t71010 ((rd_T50 l1 x7_2).f1)).bind fun t71014 => (papermillref04_ends.l1 k2 l1 t71014 (wrap64 (x7_2 + 1)))) = some r := H
        have A14 := Aside0.mk A140
        clear A140
        replace H := Option.bind_eq_some_iff.mp H
        obtain ⟨t71014, A150, H⟩ := H
        replace H : (papermillref04_ends.l1 k2 l1 t71014 (wrap64 (x7_2 + 1))) = some r := H
        have A15 := Aside0.mk A150
        clear A150
        have H' := Aside0.mk H
        clear H
        try go_wp2
        have n0_ := Aside0.mk (Kd.R_drew HO_5.out)
        have n1_ := Aside0.mk (below_drew1 HB.out)
        clear HO_5
        clear HB
        have HO_5 := n0_
        have HB := n1_
        clear n0_ n1_
        have p71009 : 0 ≤ (x7_2 : Int) := of_decide_eq_true (by assumption)
        have q71009 : x7_2 < (l1.length : Int) := of_decide_eq_true (by assumption)
        obtain ⟨ad71009, e71009, hx71009_0, hx71009_1⟩ := at_T50 HR1.out x7_2 p71009 q71009
        have hw71009_1 := hx71009_1
        have hw71009_0 := hx71009_0
        cases e71009
        replace hx71009_0 := (HB.out.cell (World.block_lt_of_cell? w _ hx71009_0)).trans hx71009_0
        replace hx71009_1 := (HB.out.cell (World.block_lt_of_cell? w _ hx71009_1)).trans hx71009_1
        replace p71009 := eq_true p71009
        replace q71009 := eq_true q71009
        have p71013 : 0 ≤ (x7_2 : Int) := of_decide_eq_true (by assumption)
        have q71013 : x7_2 < (l1.length : Int) := of_decide_eq_true (by assumption)
        obtain ⟨ad71013, e71013, hx71013_0, hx71013_1⟩ := at_T50 HR1.out x7_2 p71013 q71013
        have hw71013_1 := hx71013_1
        have hw71013_0 := hx71013_0
        obtain rfl : ad71009 = ad71013 := (by injection e71013)
        replace hx71013_0 := (HB.out.cell (World.block_lt_of_cell? w _ hx71013_0)).trans hx71013_0
        replace hx71013_1 := (HB.out.cell (World.block_lt_of_cell? w _ hx71013_1)).trans hx71013_1
        replace p71013 := eq_true p71013
        replace q71013 := eq_true q71013
        obtain ⟨Ao17, co17, eo17⟩ := Kd.R_slice HO_5.out
        (first | subst eo17 | (injection eo17 with f1_ f2_ f3_; have f4_ := f1_.symm; have f5_ := f3_.symm; clear f1_ f2_ f3_; subst f4_; subst f5_))
        refine start_ (n := 14) (S := fun w' => w'.cell? (ad71009.add ((x7_2).toNat * 2)) = some (.int .i64 ((rd_T50 l1 x7_2).f0)) ∧ w'.cell? ⟨(ad71009.add ((x7_2).toNat * 2)).block, (ad71009.add ((x7_2).toNat * 2)).off + 1, none⟩ = some (.int .i64 ((rd_T50 l1 x7_2).f1)) ∧ w'.cell? (ad71009.add ((x7_2).toNat * 2)) = some (.int .i64 ((rd_T50 l1 x7_2).f0)) ∧ w'.cell? ⟨(ad71009.add ((x7_2).toNat * 2)).block, (ad71009.add ((x7_2).toNat * 2)).off + 1, none⟩ = some (.int .i64 ((rd_T50 l1 x7_2).f1))) (ds := []) #[false, false, false, false, false, false, false, false, false, false, false, false, false, false] (by kernel_rfl) rfl rfl ⟨((HB.out.cell (World.block_lt_of_cell? w _ hw71009_0)).trans hw71009_0), ((HB.out.cell (World.block_lt_of_cell? w _ hw71009_1)).trans hw71009_1), ((HB.out.cell (World.block_lt_of_cell? w _ hw71013_0)).trans hw71013_0), ((HB.out.cell (World.block_lt_of_cell? w _ hw71013_1)).trans hw71013_1)⟩ (fun hHeld => ?_); refine with_tabW papermillref04_ends.tab9 papermillref04_ends.bits9 (fun HT_ HW_ => ?_)
        generalize wr.drew = w16 at HO_5 HB hx71009_0 hx71009_1 hx71013_0 hx71013_1 hHeld ⊢
        refine pure_ (i := 0) (N := some 33) (v := ?_) (a' := ?_) #[true, false, false, false, false, false, false, false, false, false, false, false, false, false] rfl rfl (any_of HT_.out (by kernel_rfl)) (fun _ _ _ h => h) (Or.inl ⟨by rfl, ?_⟩) ?_ ?_
        rotate_left
        ·intro w'
         go_simp
         with_reducible rfl
        rotate_left
        ·simp only [Act.put, List.setIfInBounds_toArray, List.set_cons_zero, List.set_cons_succ, i64_w, i32_w]
         rfl
        refine pure_ (i := 1) (N := some 34) (v := ?_) (a' := ?_) #[true, true, false, false, false, false, false, false, false, false, false, false, false, false] rfl rfl (any_of HT_.out (by kernel_rfl)) (fun _ _ _ h => h) (Or.inl ⟨by rfl, ?_⟩) ?_ ?_
        rotate_left
        ·intro w'
         go_simp
         with_reducible rfl
        rotate_left
        ·simp only [Act.put, List.setIfInBounds_toArray, List.set_cons_zero, List.set_cons_succ, i64_w, i32_w]
         rfl
        refine pure_ (i := 2) (N := some 35) (v := ?_) (a' := ?_) #[true, true, true, false, false, false, false, false, false, false, false, false, false, false] rfl rfl (any_of HT_.out (by kernel_rfl)) (fun _ _ _ h => h) (Or.inl ⟨by rfl, ?_⟩) ?_ ?_
        rotate_left
        ·intro w'
         go_simp
         with_reducible rfl
        rotate_left
        ·simp only [Act.put, List.setIfInBounds_toArray, List.set_cons_zero, List.set_cons_succ, i64_w, i32_w]
         rfl
        refine pure_ (i := 3) (N := some 36) (v := ?_) (a' := ?_) #[true, true, true, true, false, false, false, false, false, false, false, false, false, false] rfl rfl (any_of HT_.out (by kernel_rfl)) (fun _ _ _ h => h) (Or.inl ⟨by rfl, ?_⟩) ?_ ?_
        rotate_left
        ·intro w'
         go_simp
         with_reducible rfl
        rotate_left
        ·simp only [Act.put, List.setIfInBounds_toArray, List.set_cons_zero, List.set_cons_succ, i64_w, i32_w]
         rfl
        refine pure_ (i := 4) (N := some 37) (v := ?_) (a' := ?_) #[true, true, true, true, true, false, false, false, false, false, false, false, false, false] rfl rfl (any_of HT_.out (by kernel_rfl)) (fun _ _ _ h => h) (Or.inl ⟨by rfl, ?_⟩) ?_ ?_
        rotate_left
        ·intro w'
         go_simp
         with_reducible rfl
        rotate_left
        ·simp only [Act.put, List.setIfInBounds_toArray, List.set_cons_zero, List.set_cons_succ, i64_w, i32_w]
         rfl
        refine pure_ (i := 7) (N := some 40) (v := ?_) (a' := ?_) #[true, true, true, true, true, false, false, true, false, false, false, false, false, false] rfl rfl (any_of HT_.out (by kernel_rfl)) (fun _ _ _ h => h) (Or.inl ⟨by rfl, ?_⟩) ?_ ?_
        rotate_left
        ·intro w'
         go_simp
         with_reducible rfl
        rotate_left
        ·simp only [Act.put, List.setIfInBounds_toArray, List.set_cons_zero, List.set_cons_succ, i64_w, i32_w]
         rfl
        refine pure_ (i := 8) (N := some 41) (v := ?_) (a' := ?_) #[true, true, true, true, true, false, false, true, true, false, false, false, false, false] rfl rfl (any_of HT_.out (by kernel_rfl)) (fun _ _ _ h => h) (Or.inl ⟨by rfl, ?_⟩) ?_ ?_
        rotate_left
        ·intro w'
         go_simp
         with_reducible rfl
        rotate_left
        ·simp only [Act.put, List.setIfInBounds_toArray, List.set_cons_zero, List.set_cons_succ, i64_w, i32_w]
         rfl
        refine pure_ (i := 9) (N := some 42) (v := ?_) (a' := ?_) #[true, true, true, true, true, false, false, true, true, true, false, false, false, false] rfl rfl (any_of HT_.out (by kernel_rfl)) (fun _ _ _ h => h) (Or.inl ⟨by rfl, ?_⟩) ?_ ?_
        rotate_left
        ·intro w'
         go_simp
         with_reducible rfl
        rotate_left
        ·simp only [Act.put, List.setIfInBounds_toArray, List.set_cons_zero, List.set_cons_succ, i64_w, i32_w]
         rfl
        refine pure_ (i := 10) (N := some 43) (v := ?_) (a' := ?_) #[true, true, true, true, true, false, false, true, true, true, true, false, false, false] rfl rfl (any_of HT_.out (by kernel_rfl)) (fun _ _ _ h => h) (Or.inl ⟨by rfl, ?_⟩) ?_ ?_
        rotate_left
        ·intro w'
         go_simp
         with_reducible rfl
        rotate_left
        ·simp only [Act.put, List.setIfInBounds_toArray, List.set_cons_zero, List.set_cons_succ, i64_w, i32_w]
         rfl
        refine take_ (i := 5) (N := some 38) (v := ?_) (a' := ?_) #[true, true, true, true, true, true, false, true, true, true, true, false, false, false] rfl rfl (take_ofW HT_.out HW_.out (by kernel_rfl)) (fun _ _ _ h => h) (Or.inl ⟨by rfl, ?_⟩) hHeld ?_ ?_
        rotate_left
        ·rintro w' ⟨s0, s1, s2, s3⟩
         go_simp
         with_reducible rfl
        rotate_left
        ·simp only [Act.put, List.setIfInBounds_toArray, List.set_cons_zero, List.set_cons_succ, i64_w, i32_w]
         rfl
        refine take_ (i := 11) (N := some 44) (v := ?_) (a' := ?_) #[true, true, true, true, true, true, false, true, true, true, true, true, false, false] rfl rfl (take_ofW HT_.out HW_.out (by kernel_rfl)) (fun _ _ _ h => h) (Or.inl ⟨by rfl, ?_⟩) hHeld ?_ ?_
        rotate_left
        ·rintro w' ⟨s0, s1, s2, s3⟩
         go_simp
         with_reducible rfl
        rotate_left
        ·simp only [Act.put, List.setIfInBounds_toArray, List.set_cons_zero, List.set_cons_succ, i64_w, i32_w]
         rfl
        refine one_ (i := 6) (N := some 39) #[true, true, true, true, true, true, true, true, true, true, true, true, false, false] rfl rfl (one_of HT_.out (by kernel_rfl)) (by decide) (fun K hK => ?_)
        refine goes_ Try.func83 (by kernel_rfl) rfl #[.slice Ao17 x5_2.length co17, .int .i64 ((rd_T50 l1 x7_2).f0)] (by rfl) rfl rfl (by (try simp only [List.map_toArray, List.map_cons, List.map_nil]); first | done | rfl | (simp only [List.length_drop, List.length_take]; rfl)) ?_
        with_reducible refine (papermillref04_with.calls k2 (fun k_ => some k_ = (.slice Ao17 x5_2.length co17 : Value).ownBlock) (.slice Ao17 x5_2.length co17) x5_2 ((rd_T50 l1 x7_2).f0) t71010 w _ ?side1 ?side2 A14.out).mono ?_
        (case side1 => repeat (first | exact HB.out | apply below_alloc | apply pw_below_drewN | apply below_drew1))
        (case side2 => exact Kd.R_tight rfl HO_5.out)
        rintro e w18 ⟨v71011, rfl, ho0, hb, hkp⟩
        refine ⟨_, rfl, ?_⟩
        have n0_ := Aside0.mk (Kd.R_mono (ok' := fun k_ => True) ho0 (fun k_ hk_ => trivial))
        have n1_ := Aside0.mk (hb)
        clear HB
        clear HO_5
        have HO71012 := n0_
        have HB := n1_
        clear n0_ n1_
        (try clear hb)
        (try clear hkp)
        (try clear ho0)
        obtain ⟨Ao19, co19, eo19⟩ := Kd.R_slice HO71012.out
        (first | subst eo19 | (injection eo19 with f1_ f2_ f3_; have f4_ := f1_.symm; have f5_ := f3_.symm; clear f1_ f2_ f3_; subst f4_; subst f5_))
        refine hK.out _ _ ⟨((HB.out.cell (World.block_lt_of_cell? w _ hw71009_0)).trans hw71009_0), ((HB.out.cell (World.block_lt_of_cell? w _ hw71009_1)).trans hw71009_1), ((HB.out.cell (World.block_lt_of_cell? w _ hw71013_0)).trans hw71013_0), ((HB.out.cell (World.block_lt_of_cell? w _ hw71013_1)).trans hw71013_1)⟩ (fun hHeld => ?_)
        clear hK K
        refine norm_ (a' := ?_) ?_ ?_
        rotate_left
        ·show Act.put _ (some 39) _ = _
         simp only [Act.put, List.setIfInBounds_toArray, List.set_cons_zero, List.set_cons_succ, i64_w, i32_w]
         rfl
        refine one_ (i := 12) (N := some 45) #[true, true, true, true, true, true, true, true, true, true, true, true, true, false] rfl rfl (one_of HT_.out (by kernel_rfl)) (by decide) (fun K hK => ?_)
        refine goes_ Try.func83 (by kernel_rfl) rfl #[.slice Ao19 t71010.length co19, .int .i64 ((rd_T50 l1 x7_2).f1)] (by rfl) rfl rfl (by (try simp only [List.map_toArray, List.map_cons, List.map_nil]); first | done | rfl | (simp only [List.length_drop, List.length_take]; rfl)) ?_
        with_reducible refine (papermillref04_with.calls k2 (fun k_ => some k_ = (.slice Ao19 t71010.length co19 : Value).ownBlock) (.slice Ao19 t71010.length co19) t71010 ((rd_T50 l1 x7_2).f1) t71014 w _ ?side1 ?side2 A15.out).mono ?_
        (case side1 => repeat (first | exact HB.out | apply below_alloc | apply pw_below_drewN | apply below_drew1))
        (case side2 => exact Kd.R_tight rfl HO71012.out)
        rintro e w20 ⟨v71015, rfl, ho0, hb, hkp⟩
        refine ⟨_, rfl, ?_⟩
        have n0_ := Aside0.mk (Kd.R_mono (ok' := fun k_ => True) ho0 (fun k_ hk_ => trivial))
        have n1_ := Aside0.mk (hb)
        clear HB
        clear HO71012
        have HO71016 := n0_
        have HB := n1_
        clear n0_ n1_
        (try clear hb)
        (try clear hkp)
        (try clear ho0)
        refine hK.out _ _ ⟨((HB.out.cell (World.block_lt_of_cell? w _ hw71009_0)).trans hw71009_0), ((HB.out.cell (World.block_lt_of_cell? w _ hw71009_1)).trans hw71009_1), ((HB.out.cell (World.block_lt_of_cell? w _ hw71013_0)).trans hw71013_0), ((HB.out.cell (World.block_lt_of_cell? w _ hw71013_1)).trans hw71013_1)⟩ (fun hHeld => ?_)
        clear hK K
        refine norm_ (a' := ?_) ?_ ?_
        rotate_left
        ·show Act.put _ (some 45) _ = _
         simp only [Act.put, List.setIfInBounds_toArray, List.set_cons_zero, List.set_cons_succ, i64_w, i32_w]
         rfl
        refine pure_ (i := 13) (N := some 5) (v := ?_) (a' := ?_) #[true, true, true, true, true, true, true, true, true, true, true, true, true, true] rfl rfl (any_of HT_.out (by kernel_rfl)) (fun _ _ _ h => h) (Or.inl ⟨by rfl, ?_⟩) ?_ ?_
        rotate_left
        ·intro w'
         go_simp
         with_reducible rfl
        rotate_left
        ·simp only [Act.put, List.setIfInBounds_toArray, List.set_cons_zero, List.set_cons_succ, i64_w, i32_w]
         rfl
        refine done_ (done_of HT_.out (by kernel_rfl)) ?_
        try go_wp2
        go_roundg k2
        case measure => have := HK1.out; have := HK2.out; omega
        case rel => exact ⟨(t71014), (wrap64 (x7_2 + 1)), (by first | rfl | (simp; done) | (simp [*]; done)), H', ⟨by have := HK1.out; have := HK2.out; omega⟩, ⟨HO71016.out⟩, ⟨by repeat (first | exact HB.out | apply below_alloc | apply pw_below_drewN | apply below_drew1)⟩⟩
       ·rw [if_neg c13] at H
        exact absurd H (by simp)
      ·rw [if_neg c12] at H
       have c12b0 : decide (x7_2 < (l1.length : Int)) = false := decide_eq_false c12
       clear c12
       obtain rfl := Option.some.inj H
       go_wp2
       go_ret
       exact ⟨_, by first | rfl | (simp [errW_none, errW_some] <;> rfl) | (simp [*, errW_none, errW_some] <;> rfl), by exact HO_5.out, by repeat (first | exact HB.out | apply below_alloc | apply pw_below_drewN | apply below_drew1)⟩

end Go.Proofs.Ytnfcpcgbdoiiiaa.G
