-- Printed by drive.py, this session's program over the kit's print.py. Not trusted: Lean checks it.
import Derived.Test.YtfdfpdiemeomiaaGx0
namespace Go.Proofs.Ytfdfpdiemeomiaa.G
open Go.RowKit Go.Proofs.YtfdfpdiemeomiaaW.PrintWords Go.Proofs.YtfdfpdiemeomiaaW.PrintLast Go.Proofs.YtfdfpdiemeomiaaW.PrintMore
attribute [local go_sem] max2_int min2_int max_two min_two max_three min_three max_four min_four   -- for this text's walks alone
set_option linter.unusedVariables false
set_option linter.unusedSimpArgs false

/-! ### papermillref34_Check: function 16 -/
mutual
def papermillref34_Check.l0 : Nat → List (S44) → Int → Option (Int)
  | 0, _, _ => none
  | k + 1, x0, x3 => if x3 < (x0.length : Int) then (if 0 ≤ x3 then (if ((rd_T44 x0 x3).f0) < 0 then (papermillref34_Check.j1 k x0 x3 true ((rd_T44 x0 x3).f0) ((rd_T44 x0 x3).f1) ((rd_T44 x0 x3).f2) ((rd_T44 x0 x3).f3) ((rd_T44 x0 x3).f4)) else (if ((rd_T44 x0 x3).f0) ≥ ((rd_T44 x0 x3).f1) then (papermillref34_Check.j1 k x0 x3 true ((rd_T44 x0 x3).f0) ((rd_T44 x0 x3).f1) ((rd_T44 x0 x3).f2) ((rd_T44 x0 x3).f3) ((rd_T44 x0 x3).f4)) else (papermillref34_Check.j1 k x0 x3 (decide (((rd_T44 x0 x3).f1) > 17179869184)) ((rd_T44 x0 x3).f0) ((rd_T44 x0 x3).f1) ((rd_T44 x0 x3).f2) ((rd_T44 x0 x3).f3) ((rd_T44 x0 x3).f4)))) else (none)) else (papermillref34_Check.l1 k x0 0)
def papermillref34_Check.j1 : Nat → List (S44) → Int → Bool → Int → Int → Int → Int → Int → Option (Int)
  | 0, _, _, _, _, _, _, _, _ => none
  | k + 1, x0, x3, x33, x17003000, x17003001, x17003002, x17003003, x17003004 => if x33 = true then (some 1) else (if x17003002 < 1 then (papermillref34_Check.j2 k x0 x3 true x17003000 x17003001 x17003002 x17003003 x17003004) else (papermillref34_Check.j2 k x0 x3 (decide (x17003002 > 3)) x17003000 x17003001 x17003002 x17003003 x17003004))
def papermillref34_Check.j2 : Nat → List (S44) → Int → Bool → Int → Int → Int → Int → Int → Option (Int)
  | 0, _, _, _, _, _, _, _, _ => none
  | k + 1, x0, x3, x41, x17003000, x17003001, x17003002, x17003003, x17003004 => if x41 = true then (some 17) else (if x17003003 < (-1) then (papermillref34_Check.j3 k x0 x3 true x17003000 x17003001 x17003002 x17003003 x17003004) else (papermillref34_Check.j3 k x0 x3 (decide (x17003003 ≥ 16)) x17003000 x17003001 x17003002 x17003003 x17003004))
def papermillref34_Check.j3 : Nat → List (S44) → Int → Bool → Int → Int → Int → Int → Int → Option (Int)
  | 0, _, _, _, _, _, _, _, _ => none
  | k + 1, x0, x3, x49, x17003000, x17003001, x17003002, x17003003, x17003004 => if x49 = true then (some 22) else (if x17003004 < 0 then (some 1) else (if x17003004 > 2048 then (some 1) else (papermillref34_Check.l0 k x0 (wrap64 (x3 + 1)))))
def papermillref34_Check.l1 : Nat → List (S44) → Int → Option (Int)
  | 0, _, _ => none
  | k + 1, x0, x5 => if x5 < (x0.length : Int) then (if x5 = 0 then (if 0 ≤ x5 then (if ((rd_T44 x0 x5).f0) = 0 then (if x5 > 0 then (if 0 ≤ (wrap64 (x5 - 1)) then (if (wrap64 (x5 - 1)) < (x0.length : Int) then (if ((rd_T44 x0 x5).f0) = ((rd_T44 x0 (wrap64 (x5 - 1))).f1) then (if ((rd_T44 x0 x5).f4) < ((rd_T44 x0 (wrap64 (x5 - 1))).f4) then (some 9) else (papermillref34_Check.l1 k x0 (wrap64 (x5 + 1)))) else (some 9)) else (none)) else (none)) else (papermillref34_Check.l1 k x0 (wrap64 (x5 + 1)))) else (some 9)) else (none)) else (if x5 > 0 then (if 0 ≤ x5 then (if 0 ≤ (wrap64 (x5 - 1)) then (if (wrap64 (x5 - 1)) < (x0.length : Int) then (if ((rd_T44 x0 x5).f0) = ((rd_T44 x0 (wrap64 (x5 - 1))).f1) then (if ((rd_T44 x0 x5).f4) < ((rd_T44 x0 (wrap64 (x5 - 1))).f4) then (some 9) else (papermillref34_Check.l1 k x0 (wrap64 (x5 + 1)))) else (some 9)) else (none)) else (none)) else (none)) else (papermillref34_Check.l1 k x0 (wrap64 (x5 + 1))))) else (some 0)
end
def papermillref34_Check.f (k : Nat) (l0 : List (S44)) : Option (Int) := if (l0.length : Int) > 512 then (some 8) else (papermillref34_Check.l0 k l0 0)
theorem papermillref34_Check.mono_l : ∀ k, (∀ y0 y1, LeO (papermillref34_Check.l0 k y0 y1) (papermillref34_Check.l0 (k + 1) y0 y1)) ∧ (∀ y0 y1 y2 y3 y4 y5 y6 y7, LeO (papermillref34_Check.j1 k y0 y1 y2 y3 y4 y5 y6 y7) (papermillref34_Check.j1 (k + 1) y0 y1 y2 y3 y4 y5 y6 y7)) ∧ (∀ y0 y1 y2 y3 y4 y5 y6 y7, LeO (papermillref34_Check.j2 k y0 y1 y2 y3 y4 y5 y6 y7) (papermillref34_Check.j2 (k + 1) y0 y1 y2 y3 y4 y5 y6 y7)) ∧ (∀ y0 y1 y2 y3 y4 y5 y6 y7, LeO (papermillref34_Check.j3 k y0 y1 y2 y3 y4 y5 y6 y7) (papermillref34_Check.j3 (k + 1) y0 y1 y2 y3 y4 y5 y6 y7)) ∧ (∀ y0 y1, LeO (papermillref34_Check.l1 k y0 y1) (papermillref34_Check.l1 (k + 1) y0 y1))
  | 0 => ⟨fun _ _ r h => by simp [papermillref34_Check.l0] at h, fun _ _ _ _ _ _ _ _ r h => by simp [papermillref34_Check.j1] at h, fun _ _ _ _ _ _ _ _ r h => by simp [papermillref34_Check.j2] at h, fun _ _ _ _ _ _ _ _ r h => by simp [papermillref34_Check.j3] at h, fun _ _ r h => by simp [papermillref34_Check.l1] at h⟩
  | k + 1 => by
    obtain ⟨ih0, ih1, ih2, ih3, ih4⟩ := papermillref34_Check.mono_l k
    refine ⟨?_, ?_, ?_, ?_, ?_⟩
    · intro y0 y1
      unfold papermillref34_Check.l0
      repeat' first
      | (with_reducible exact ih0 _ _)
      | (with_reducible exact ih1 _ _ _ _ _ _ _ _)
      | (with_reducible exact ih2 _ _ _ _ _ _ _ _)
      | (with_reducible exact ih3 _ _ _ _ _ _ _ _)
      | (with_reducible exact ih4 _ _)
      | (with_reducible exact LeO.refl _)
      | (with_reducible exact LeO.none _)
      | (with_reducible refine LeO.ite ?_ ?_)
      | (with_reducible refine LeO.bind ?_ (fun _ => ?_))
      | exact ih0 _ _
      | exact ih1 _ _ _ _ _ _ _ _
      | exact ih2 _ _ _ _ _ _ _ _
      | exact ih3 _ _ _ _ _ _ _ _
      | exact ih4 _ _
      | exact LeO.none _
      | refine LeO.ite ?_ ?_
      | refine LeO.bind ?_ (fun _ => ?_)
    · intro y0 y1 y2 y3 y4 y5 y6 y7
      unfold papermillref34_Check.j1
      repeat' first
      | (with_reducible exact ih0 _ _)
      | (with_reducible exact ih1 _ _ _ _ _ _ _ _)
      | (with_reducible exact ih2 _ _ _ _ _ _ _ _)
      | (with_reducible exact ih3 _ _ _ _ _ _ _ _)
      | (with_reducible exact ih4 _ _)
      | (with_reducible exact LeO.refl _)
      | (with_reducible exact LeO.none _)
      | (with_reducible refine LeO.ite ?_ ?_)
      | (with_reducible refine LeO.bind ?_ (fun _ => ?_))
      | exact ih0 _ _
      | exact ih1 _ _ _ _ _ _ _ _
      | exact ih2 _ _ _ _ _ _ _ _
      | exact ih3 _ _ _ _ _ _ _ _
      | exact ih4 _ _
      | exact LeO.none _
      | refine LeO.ite ?_ ?_
      | refine LeO.bind ?_ (fun _ => ?_)
    · intro y0 y1 y2 y3 y4 y5 y6 y7
      unfold papermillref34_Check.j2
      repeat' first
      | (with_reducible exact ih0 _ _)
      | (with_reducible exact ih1 _ _ _ _ _ _ _ _)
      | (with_reducible exact ih2 _ _ _ _ _ _ _ _)
      | (with_reducible exact ih3 _ _ _ _ _ _ _ _)
      | (with_reducible exact ih4 _ _)
      | (with_reducible exact LeO.refl _)
      | (with_reducible exact LeO.none _)
      | (with_reducible refine LeO.ite ?_ ?_)
      | (with_reducible refine LeO.bind ?_ (fun _ => ?_))
      | exact ih0 _ _
      | exact ih1 _ _ _ _ _ _ _ _
      | exact ih2 _ _ _ _ _ _ _ _
      | exact ih3 _ _ _ _ _ _ _ _
      | exact ih4 _ _
      | exact LeO.none _
      | refine LeO.ite ?_ ?_
      | refine LeO.bind ?_ (fun _ => ?_)
    · intro y0 y1 y2 y3 y4 y5 y6 y7
      unfold papermillref34_Check.j3
      repeat' first
      | (with_reducible exact ih0 _ _)
      | (with_reducible exact ih1 _ _ _ _ _ _ _ _)
      | (with_reducible exact ih2 _ _ _ _ _ _ _ _)
      | (with_reducible exact ih3 _ _ _ _ _ _ _ _)
      | (with_reducible exact ih4 _ _)
      | (with_reducible exact LeO.refl _)
      | (with_reducible exact LeO.none _)
      | (with_reducible refine LeO.ite ?_ ?_)
      | (with_reducible refine LeO.bind ?_ (fun _ => ?_))
      | exact ih0 _ _
      | exact ih1 _ _ _ _ _ _ _ _
      | exact ih2 _ _ _ _ _ _ _ _
      | exact ih3 _ _ _ _ _ _ _ _
      | exact ih4 _ _
      | exact LeO.none _
      | refine LeO.ite ?_ ?_
      | refine LeO.bind ?_ (fun _ => ?_)
    · intro y0 y1
      unfold papermillref34_Check.l1
      repeat' first
      | (with_reducible exact ih0 _ _)
      | (with_reducible exact ih1 _ _ _ _ _ _ _ _)
      | (with_reducible exact ih2 _ _ _ _ _ _ _ _)
      | (with_reducible exact ih3 _ _ _ _ _ _ _ _)
      | (with_reducible exact ih4 _ _)
      | (with_reducible exact LeO.refl _)
      | (with_reducible exact LeO.none _)
      | (with_reducible refine LeO.ite ?_ ?_)
      | (with_reducible refine LeO.bind ?_ (fun _ => ?_))
      | exact ih0 _ _
      | exact ih1 _ _ _ _ _ _ _ _
      | exact ih2 _ _ _ _ _ _ _ _
      | exact ih3 _ _ _ _ _ _ _ _
      | exact ih4 _ _
      | exact LeO.none _
      | refine LeO.ite ?_ ?_
      | refine LeO.bind ?_ (fun _ => ?_)
theorem papermillref34_Check.mono : ∀ a0 k, LeO (papermillref34_Check.f k a0) (papermillref34_Check.f (k + 1) a0) := by
  intro a0 k
  obtain ⟨ih0, ih1, ih2, ih3, ih4⟩ := papermillref34_Check.mono_l k
  unfold papermillref34_Check.f
  repeat' first
      | (with_reducible exact ih0 _ _)
      | (with_reducible exact ih1 _ _ _ _ _ _ _ _)
      | (with_reducible exact ih2 _ _ _ _ _ _ _ _)
      | (with_reducible exact ih3 _ _ _ _ _ _ _ _)
      | (with_reducible exact ih4 _ _)
      | (with_reducible exact LeO.refl _)
      | (with_reducible exact LeO.none _)
      | (with_reducible refine LeO.ite ?_ ?_)
      | (with_reducible refine LeO.bind ?_ (fun _ => ?_))
      | exact ih0 _ _
      | exact ih1 _ _ _ _ _ _ _ _
      | exact ih2 _ _ _ _ _ _ _ _
      | exact ih3 _ _ _ _ _ _ _ _
      | exact ih4 _ _
      | exact LeO.none _
      | refine LeO.ite ?_ ?_
      | refine LeO.bind ?_ (fun _ => ?_)
set_option maxHeartbeats 8000000 in
set_option maxRecDepth 100000 in
theorem papermillref34_Check.calls (k : Nat) (A0 : Option Addr) (c0 : Nat) (l0 : List (S44)) (r : Int) (w : World) (hr0 : Kd.C k44 w A0 l0.length l0) (hc0 : l0.length ≤ c0) (h : papermillref34_Check.f k l0 = some r) :
    Calls Try.prog 16 #[.slice A0 l0.length c0] w fun e w' => e = .returned (.int .i64 r) ∧ Below w.heap.size w w' := by
  have hu44 := Try.underlying44
  have HR0 := Aside0.mk hr0
  have HC0 := Aside0.mk hc0
  clear hr0 hc0
  have HB := Aside0.mk (Below.refl w.heap.size w)
  have H : (if (l0.length : Int) > 512 then (some 8) else (papermillref34_Check.l0 k l0 0)) = some r := h
  clear h
  by_cases c2 : (l0.length : Int) > 512
  · rw [if_pos c2] at H
    have c2b0 : decide (512 < (l0.length : Int)) = true := decide_eq_true c2
    have c2b1 : decide (512 < l0.length) = true := decide_eq_true (by omega)
    clear c2
    obtain rfl := Option.some.inj H
    go_enter Try.func16, Try.ntmps16
    go_wp2
    repeat (go_quiet (fail); try go_wp2)
    go_ret
    exact ⟨by first | rfl | (simp [errW_none, errW_some] <;> rfl) | (simp [*, errW_none, errW_some] <;> rfl), by repeat (first | (with_reducible first | exact HB.out | apply below_alloc | apply pw_below_drewN | apply below_drew1) | exact HB.out)⟩
  · rw [if_neg c2] at H
    have c2b0 : decide (512 < (l0.length : Int)) = false := decide_eq_false c2
    have c2b1 : decide (512 < l0.length) = false := decide_eq_false (by omega)
    clear c2
    have H' := Aside0.mk H
    clear H
    go_enter Try.func16, Try.ntmps16
    go_wp2
    repeat (go_quiet (fail); try go_wp2)
    go_loopg [3] k (fun kq v3 w' => ∃ (x3_1 : Int), v3 = .int .i64 x3_1 ∧ Aside0 (papermillref34_Check.l0 kq l0 x3_1 = some r) ∧ Aside0 (kq ≤ k) ∧ Aside0 (Below w.heap.size w w'))
    case atStart => exact ⟨(0), (by first | rfl | (simp; done) | (simp [*]; done)), H', ⟨Nat.le_refl _⟩, ⟨by repeat (first | (with_reducible first | exact HB.out | apply below_alloc | apply pw_below_drewN | apply below_drew1) | exact HB.out)⟩⟩
    case round =>
      clear H'
      try clear c1
      try clear c2
      try clear c2b0
      try clear c2b1
      try clear p2
      obtain ⟨x3_1, rfl, HA, HK1, HB⟩ := hrel
      cases gk with
      | zero => exact absurd HA.out (by simp [papermillref34_Check.l0])
      | succ k1 =>
        have H := HA.out
        clear HA
        simp only [papermillref34_Check.l0] at H
        by_cases c3 : x3_1 < (l0.length : Int)
        · rw [if_pos c3] at H
          have c3b0 : decide (x3_1 < (l0.length : Int)) = true := decide_eq_true c3
          clear c3
          by_cases c4 : 0 ≤ x3_1
          · rw [if_pos c4] at H
            have c4b0 : decide (0 ≤ x3_1) = true := decide_eq_true c4
            clear c4
            have HC5 := Aside0.mk H
            clear H
            have p17001 : 0 ≤ (x3_1 : Int) := of_decide_eq_true (by first | (with_reducible assumption) | assumption)
            have q17001 : x3_1 < (l0.length : Int) := of_decide_eq_true (by first | (with_reducible assumption) | assumption)
            obtain ⟨ad17001, e17001, hx17001_0, hx17001_1, hx17001_2, hx17001_3, hx17001_4⟩ := at_T44 HR0.out x3_1 p17001 q17001
            cases e17001
            replace hx17001_0 := (HB.out.cell (World.block_lt_of_cell? w _ hx17001_0)).trans hx17001_0
            replace hx17001_1 := (HB.out.cell (World.block_lt_of_cell? w _ hx17001_1)).trans hx17001_1
            replace hx17001_2 := (HB.out.cell (World.block_lt_of_cell? w _ hx17001_2)).trans hx17001_2
            replace hx17001_3 := (HB.out.cell (World.block_lt_of_cell? w _ hx17001_3)).trans hx17001_3
            replace hx17001_4 := (HB.out.cell (World.block_lt_of_cell? w _ hx17001_4)).trans hx17001_4
            replace p17001 := eq_true p17001
            replace q17001 := eq_true q17001
            go_upto_region 7 with (first | ((with_reducible refine gate_dst (N := 4) rfl ?_); refine box_event ?hg (N := 4) ?hd (cs := #[.int .i64 0, .int .i64 0, .int .i64 0, .int .i64 0, .int .i64 0]) (t := 44) ?hr ?_; (case hd => rfl); (case hg => rfl); (case hr => first | (go_simp; done) | (go_simp; rfl)); intro gb17002 hg w6 hbox hb; have n0_ := Aside0.mk (below_step (by repeat (first | (with_reducible first | exact HB.out | apply below_alloc | apply pw_below_drewN | apply below_drew1) | exact HB.out)) hb); have n1_ := Aside0.mk (hbox); have n2_ := Aside0.mk ((by rw [hg]; exact (below_size (by repeat (first | (with_reducible first | exact HB.out | apply below_alloc | apply pw_below_drewN | apply below_drew1) | exact HB.out))) : w.heap.size ≤ gb17002)); have n3_ := Aside0.mk ((by rw [hg]; exact (below_size (by repeat (first | (with_reducible first | exact HB.out | apply below_alloc | apply pw_below_drewN | apply below_drew1) | exact HB.out))) : w.heap.size ≤ gb17002)); clear HB; have HB := n0_; have BK17002 := n1_; have GW17002 := n2_; have GE17002 := n3_; clear n0_ n1_ n2_ n3_; clear hb hbox hg; have hcz7_0 : w6.cell? ⟨gb17002, 0, none⟩ = some (.int .i64 0) := (blk_cell BK17002.out 0).trans rfl; have hcz7_1 : w6.cell? ⟨gb17002, 1, none⟩ = some (.int .i64 0) := (blk_cell BK17002.out 1).trans rfl; have hcz7_2 : w6.cell? ⟨gb17002, 2, none⟩ = some (.int .i64 0) := (blk_cell BK17002.out 2).trans rfl; have hcz7_3 : w6.cell? ⟨gb17002, 3, none⟩ = some (.int .i64 0) := (blk_cell BK17002.out 3).trans rfl; have hcz7_4 : w6.cell? ⟨gb17002, 4, none⟩ = some (.int .i64 0) := (blk_cell BK17002.out 4).trans rfl; have hfz7_0 := blk_frozen BK17002.out 0; have hfz7_1 := blk_frozen BK17002.out 1; have hfz7_2 := blk_frozen BK17002.out 2; have hfz7_3 := blk_frozen BK17002.out 3; have hfz7_4 := blk_frozen BK17002.out 4))
            repeat (go_quiet (first | ((with_reducible refine gate_dst (N := 4) rfl ?_); refine box_event ?hg (N := 4) ?hd (cs := #[.int .i64 0, .int .i64 0, .int .i64 0, .int .i64 0, .int .i64 0]) (t := 44) ?hr ?_; (case hd => rfl); (case hg => rfl); (case hr => first | (go_simp; done) | (go_simp; rfl)); intro gb17002 hg w6 hbox hb; have n0_ := Aside0.mk (below_step (by repeat (first | (with_reducible first | exact HB.out | apply below_alloc | apply pw_below_drewN | apply below_drew1) | exact HB.out)) hb); have n1_ := Aside0.mk (hbox); have n2_ := Aside0.mk ((by rw [hg]; exact (below_size (by repeat (first | (with_reducible first | exact HB.out | apply below_alloc | apply pw_below_drewN | apply below_drew1) | exact HB.out))) : w.heap.size ≤ gb17002)); have n3_ := Aside0.mk ((by rw [hg]; exact (below_size (by repeat (first | (with_reducible first | exact HB.out | apply below_alloc | apply pw_below_drewN | apply below_drew1) | exact HB.out))) : w.heap.size ≤ gb17002)); clear HB; have HB := n0_; have BK17002 := n1_; have GW17002 := n2_; have GE17002 := n3_; clear n0_ n1_ n2_ n3_; clear hb hbox hg; have hcz7_0 : w6.cell? ⟨gb17002, 0, none⟩ = some (.int .i64 0) := (blk_cell BK17002.out 0).trans rfl; have hcz7_1 : w6.cell? ⟨gb17002, 1, none⟩ = some (.int .i64 0) := (blk_cell BK17002.out 1).trans rfl; have hcz7_2 : w6.cell? ⟨gb17002, 2, none⟩ = some (.int .i64 0) := (blk_cell BK17002.out 2).trans rfl; have hcz7_3 : w6.cell? ⟨gb17002, 3, none⟩ = some (.int .i64 0) := (blk_cell BK17002.out 3).trans rfl; have hcz7_4 : w6.cell? ⟨gb17002, 4, none⟩ = some (.int .i64 0) := (blk_cell BK17002.out 4).trans rfl; have hfz7_0 := blk_frozen BK17002.out 0; have hfz7_1 := blk_frozen BK17002.out 1; have hfz7_2 := blk_frozen BK17002.out 2; have hfz7_3 := blk_frozen BK17002.out 3; have hfz7_4 := blk_frozen BK17002.out 4)); go_upto_region 7 with (first | ((with_reducible refine gate_dst (N := 4) rfl ?_); refine box_event ?hg (N := 4) ?hd (cs := #[.int .i64 0, .int .i64 0, .int .i64 0, .int .i64 0, .int .i64 0]) (t := 44) ?hr ?_; (case hd => rfl); (case hg => rfl); (case hr => first | (go_simp; done) | (go_simp; rfl)); intro gb17002 hg w6 hbox hb; have n0_ := Aside0.mk (below_step (by repeat (first | (with_reducible first | exact HB.out | apply below_alloc | apply pw_below_drewN | apply below_drew1) | exact HB.out)) hb); have n1_ := Aside0.mk (hbox); have n2_ := Aside0.mk ((by rw [hg]; exact (below_size (by repeat (first | (with_reducible first | exact HB.out | apply below_alloc | apply pw_below_drewN | apply below_drew1) | exact HB.out))) : w.heap.size ≤ gb17002)); have n3_ := Aside0.mk ((by rw [hg]; exact (below_size (by repeat (first | (with_reducible first | exact HB.out | apply below_alloc | apply pw_below_drewN | apply below_drew1) | exact HB.out))) : w.heap.size ≤ gb17002)); clear HB; have HB := n0_; have BK17002 := n1_; have GW17002 := n2_; have GE17002 := n3_; clear n0_ n1_ n2_ n3_; clear hb hbox hg; have hcz7_0 : w6.cell? ⟨gb17002, 0, none⟩ = some (.int .i64 0) := (blk_cell BK17002.out 0).trans rfl; have hcz7_1 : w6.cell? ⟨gb17002, 1, none⟩ = some (.int .i64 0) := (blk_cell BK17002.out 1).trans rfl; have hcz7_2 : w6.cell? ⟨gb17002, 2, none⟩ = some (.int .i64 0) := (blk_cell BK17002.out 2).trans rfl; have hcz7_3 : w6.cell? ⟨gb17002, 3, none⟩ = some (.int .i64 0) := (blk_cell BK17002.out 3).trans rfl; have hcz7_4 : w6.cell? ⟨gb17002, 4, none⟩ = some (.int .i64 0) := (blk_cell BK17002.out 4).trans rfl; have hfz7_0 := blk_frozen BK17002.out 0; have hfz7_1 := blk_frozen BK17002.out 1; have hfz7_2 := blk_frozen BK17002.out 2; have hfz7_3 := blk_frozen BK17002.out 3; have hfz7_4 := blk_frozen BK17002.out 4)))
            (try simp only [Act.put, List.setIfInBounds_toArray, List.set_cons_zero, List.set_cons_succ])
            go_cut [33] (fun v33 wc => ∃ (kq : Nat) (x33_4 : Bool), v33 = .bool x33_4 ∧ Aside0 (papermillref34_Check.j1 kq l0 x3_1 x33_4 ((rd_T44 l0 x3_1).f0) ((rd_T44 l0 x3_1).f1) ((rd_T44 l0 x3_1).f2) ((rd_T44 l0 x3_1).f3) ((rd_T44 l0 x3_1).f4) = some r) ∧ Aside0 (kq ≤ k1) ∧ Aside0 (wc.heap[gb17002]? = some (.cells #[.int .i64 ((rd_T44 l0 x3_1).f0), .int .i64 ((rd_T44 l0 x3_1).f1), .int .i64 ((rd_T44 l0 x3_1).f2), .int .i64 ((rd_T44 l0 x3_1).f3), .int .i64 ((rd_T44 l0 x3_1).f4)] 44 (0, 0))) ∧ Aside0 (Below w.heap.size w wc))
            case first =>
              have H := HC5.out
              clear HC5
              by_cases c8 : ((rd_T44 l0 x3_1).f0) < 0
              · rw [if_pos c8] at H
                have c8b0 : decide (((rd_T44 l0 x3_1).f0) < 0) = true := decide_eq_true c8
                clear c8
                (first | rw [c8b0] | (simp only [i64_w, i32_w]; rw [c8b0]) | skip)
                have H' := Aside0.mk H
                clear H
                have hcz9_0 : w6.cell? ⟨gb17002, 0, none⟩ = some (.int .i64 0) := (blk_cell BK17002.out 0).trans rfl
                have hcz9_1 : w6.cell? ⟨gb17002, 1, none⟩ = some (.int .i64 0) := (blk_cell BK17002.out 1).trans rfl
                have hcz9_2 : w6.cell? ⟨gb17002, 2, none⟩ = some (.int .i64 0) := (blk_cell BK17002.out 2).trans rfl
                have hcz9_3 : w6.cell? ⟨gb17002, 3, none⟩ = some (.int .i64 0) := (blk_cell BK17002.out 3).trans rfl
                have hcz9_4 : w6.cell? ⟨gb17002, 4, none⟩ = some (.int .i64 0) := (blk_cell BK17002.out 4).trans rfl
                have hfz9_0 := blk_frozen BK17002.out 0
                have hfz9_1 := blk_frozen BK17002.out 1
                have hfz9_2 := blk_frozen BK17002.out 2
                have hfz9_3 := blk_frozen BK17002.out 3
                have hfz9_4 := blk_frozen BK17002.out 4
                go_wp2
                repeat (go_quiet (fail); try go_wp2)
                go_meet
                case rel => exact ⟨_, (true), (by first | rfl | (simp; done) | (simp [*]; done)), H', ⟨by have := HK1.out; first | omega | exact Nat.le_refl _⟩, ⟨by (with_reducible repeat (first | refine blk_drewN ?_ _ | refine blk_drew ?_ | refine blk_alloc ?_ _)); refine blk_put (cs := #[.int .i64 ((rd_T44 l0 x3_1).f0), .int .i64 ((rd_T44 l0 x3_1).f1), .int .i64 ((rd_T44 l0 x3_1).f2), .int .i64 ((rd_T44 l0 x3_1).f3), .int .i64 0]) ?_ 4 _ rfl; (with_reducible repeat (first | refine blk_drewN ?_ _ | refine blk_drew ?_ | refine blk_alloc ?_ _)); refine blk_put (cs := #[.int .i64 ((rd_T44 l0 x3_1).f0), .int .i64 ((rd_T44 l0 x3_1).f1), .int .i64 ((rd_T44 l0 x3_1).f2), .int .i64 0, .int .i64 0]) ?_ 3 _ rfl; (with_reducible repeat (first | refine blk_drewN ?_ _ | refine blk_drew ?_ | refine blk_alloc ?_ _)); refine blk_put (cs := #[.int .i64 ((rd_T44 l0 x3_1).f0), .int .i64 ((rd_T44 l0 x3_1).f1), .int .i64 0, .int .i64 0, .int .i64 0]) ?_ 2 _ rfl; (with_reducible repeat (first | refine blk_drewN ?_ _ | refine blk_drew ?_ | refine blk_alloc ?_ _)); refine blk_put (cs := #[.int .i64 ((rd_T44 l0 x3_1).f0), .int .i64 0, .int .i64 0, .int .i64 0, .int .i64 0]) ?_ 1 _ rfl; (with_reducible repeat (first | refine blk_drewN ?_ _ | refine blk_drew ?_ | refine blk_alloc ?_ _)); refine blk_put (cs := #[.int .i64 0, .int .i64 0, .int .i64 0, .int .i64 0, .int .i64 0]) ?_ 0 _ rfl; (with_reducible repeat (first | refine blk_drewN ?_ _ | refine blk_drew ?_ | refine blk_alloc ?_ _)); exact BK17002.out⟩, ⟨by repeat (first | (with_reducible first | exact HB.out | apply below_alloc | apply pw_below_drewN | apply below_drew1 | refine below_set ?_ GE17002.out) | exact HB.out)⟩⟩
              · rw [if_neg c8] at H
                have c8b0 : decide (((rd_T44 l0 x3_1).f0) < 0) = false := decide_eq_false c8
                clear c8
                (first | rw [c8b0] | (simp only [i64_w, i32_w]; rw [c8b0]) | skip)
                by_cases c10 : ((rd_T44 l0 x3_1).f0) ≥ ((rd_T44 l0 x3_1).f1)
                · rw [if_pos c10] at H
                  have c10b0 : decide (((rd_T44 l0 x3_1).f1) ≤ ((rd_T44 l0 x3_1).f0)) = true := decide_eq_true c10
                  clear c10
                  have H' := Aside0.mk H
                  clear H
                  have hcz11_0 : w6.cell? ⟨gb17002, 0, none⟩ = some (.int .i64 0) := (blk_cell BK17002.out 0).trans rfl
                  have hcz11_1 : w6.cell? ⟨gb17002, 1, none⟩ = some (.int .i64 0) := (blk_cell BK17002.out 1).trans rfl
                  have hcz11_2 : w6.cell? ⟨gb17002, 2, none⟩ = some (.int .i64 0) := (blk_cell BK17002.out 2).trans rfl
                  have hcz11_3 : w6.cell? ⟨gb17002, 3, none⟩ = some (.int .i64 0) := (blk_cell BK17002.out 3).trans rfl
                  have hcz11_4 : w6.cell? ⟨gb17002, 4, none⟩ = some (.int .i64 0) := (blk_cell BK17002.out 4).trans rfl
                  have hfz11_0 := blk_frozen BK17002.out 0
                  have hfz11_1 := blk_frozen BK17002.out 1
                  have hfz11_2 := blk_frozen BK17002.out 2
                  have hfz11_3 := blk_frozen BK17002.out 3
                  have hfz11_4 := blk_frozen BK17002.out 4
                  go_wp2
                  repeat (go_quiet (fail); try go_wp2)
                  go_meet
                  case rel => exact ⟨_, (true), (by first | rfl | (simp; done) | (simp [*]; done)), H', ⟨by have := HK1.out; first | omega | exact Nat.le_refl _⟩, ⟨by (with_reducible repeat (first | refine blk_drewN ?_ _ | refine blk_drew ?_ | refine blk_alloc ?_ _)); refine blk_put (cs := #[.int .i64 ((rd_T44 l0 x3_1).f0), .int .i64 ((rd_T44 l0 x3_1).f1), .int .i64 ((rd_T44 l0 x3_1).f2), .int .i64 ((rd_T44 l0 x3_1).f3), .int .i64 0]) ?_ 4 _ rfl; (with_reducible repeat (first | refine blk_drewN ?_ _ | refine blk_drew ?_ | refine blk_alloc ?_ _)); refine blk_put (cs := #[.int .i64 ((rd_T44 l0 x3_1).f0), .int .i64 ((rd_T44 l0 x3_1).f1), .int .i64 ((rd_T44 l0 x3_1).f2), .int .i64 0, .int .i64 0]) ?_ 3 _ rfl; (with_reducible repeat (first | refine blk_drewN ?_ _ | refine blk_drew ?_ | refine blk_alloc ?_ _)); refine blk_put (cs := #[.int .i64 ((rd_T44 l0 x3_1).f0), .int .i64 ((rd_T44 l0 x3_1).f1), .int .i64 0, .int .i64 0, .int .i64 0]) ?_ 2 _ rfl; (with_reducible repeat (first | refine blk_drewN ?_ _ | refine blk_drew ?_ | refine blk_alloc ?_ _)); refine blk_put (cs := #[.int .i64 ((rd_T44 l0 x3_1).f0), .int .i64 0, .int .i64 0, .int .i64 0, .int .i64 0]) ?_ 1 _ rfl; (with_reducible repeat (first | refine blk_drewN ?_ _ | refine blk_drew ?_ | refine blk_alloc ?_ _)); refine blk_put (cs := #[.int .i64 0, .int .i64 0, .int .i64 0, .int .i64 0, .int .i64 0]) ?_ 0 _ rfl; (with_reducible repeat (first | refine blk_drewN ?_ _ | refine blk_drew ?_ | refine blk_alloc ?_ _)); exact BK17002.out⟩, ⟨by repeat (first | (with_reducible first | exact HB.out | apply below_alloc | apply pw_below_drewN | apply below_drew1 | refine below_set ?_ GE17002.out) | exact HB.out)⟩⟩
                · rw [if_neg c10] at H
                  have c10b0 : decide (((rd_T44 l0 x3_1).f1) ≤ ((rd_T44 l0 x3_1).f0)) = false := decide_eq_false c10
                  clear c10
                  have H' := Aside0.mk H
                  clear H
                  have hcz12_0 : w6.cell? ⟨gb17002, 0, none⟩ = some (.int .i64 0) := (blk_cell BK17002.out 0).trans rfl
                  have hcz12_1 : w6.cell? ⟨gb17002, 1, none⟩ = some (.int .i64 0) := (blk_cell BK17002.out 1).trans rfl
                  have hcz12_2 : w6.cell? ⟨gb17002, 2, none⟩ = some (.int .i64 0) := (blk_cell BK17002.out 2).trans rfl
                  have hcz12_3 : w6.cell? ⟨gb17002, 3, none⟩ = some (.int .i64 0) := (blk_cell BK17002.out 3).trans rfl
                  have hcz12_4 : w6.cell? ⟨gb17002, 4, none⟩ = some (.int .i64 0) := (blk_cell BK17002.out 4).trans rfl
                  have hfz12_0 := blk_frozen BK17002.out 0
                  have hfz12_1 := blk_frozen BK17002.out 1
                  have hfz12_2 := blk_frozen BK17002.out 2
                  have hfz12_3 := blk_frozen BK17002.out 3
                  have hfz12_4 := blk_frozen BK17002.out 4
                  go_wp2
                  repeat (go_quiet (fail); try go_wp2)
                  go_meet
                  case rel => exact ⟨_, (decide (((rd_T44 l0 x3_1).f1) > 17179869184)), (by first | rfl | (simp; done) | (simp [*]; done)), H', ⟨by have := HK1.out; first | omega | exact Nat.le_refl _⟩, ⟨by (with_reducible repeat (first | refine blk_drewN ?_ _ | refine blk_drew ?_ | refine blk_alloc ?_ _)); refine blk_put (cs := #[.int .i64 ((rd_T44 l0 x3_1).f0), .int .i64 ((rd_T44 l0 x3_1).f1), .int .i64 ((rd_T44 l0 x3_1).f2), .int .i64 ((rd_T44 l0 x3_1).f3), .int .i64 0]) ?_ 4 _ rfl; (with_reducible repeat (first | refine blk_drewN ?_ _ | refine blk_drew ?_ | refine blk_alloc ?_ _)); refine blk_put (cs := #[.int .i64 ((rd_T44 l0 x3_1).f0), .int .i64 ((rd_T44 l0 x3_1).f1), .int .i64 ((rd_T44 l0 x3_1).f2), .int .i64 0, .int .i64 0]) ?_ 3 _ rfl; (with_reducible repeat (first | refine blk_drewN ?_ _ | refine blk_drew ?_ | refine blk_alloc ?_ _)); refine blk_put (cs := #[.int .i64 ((rd_T44 l0 x3_1).f0), .int .i64 ((rd_T44 l0 x3_1).f1), .int .i64 0, .int .i64 0, .int .i64 0]) ?_ 2 _ rfl; (with_reducible repeat (first | refine blk_drewN ?_ _ | refine blk_drew ?_ | refine blk_alloc ?_ _)); refine blk_put (cs := #[.int .i64 ((rd_T44 l0 x3_1).f0), .int .i64 0, .int .i64 0, .int .i64 0, .int .i64 0]) ?_ 1 _ rfl; (with_reducible repeat (first | refine blk_drewN ?_ _ | refine blk_drew ?_ | refine blk_alloc ?_ _)); refine blk_put (cs := #[.int .i64 0, .int .i64 0, .int .i64 0, .int .i64 0, .int .i64 0]) ?_ 0 _ rfl; (with_reducible repeat (first | refine blk_drewN ?_ _ | refine blk_drew ?_ | refine blk_alloc ?_ _)); exact BK17002.out⟩, ⟨by repeat (first | (with_reducible first | exact HB.out | apply below_alloc | apply pw_below_drewN | apply below_drew1 | refine below_set ?_ GE17002.out) | exact HB.out)⟩⟩
            case rest =>
              clear HC5
              try clear c1
              try clear p1
              try clear q1
              try clear hx1
              try clear c2
              try clear c2b0
              try clear c2b1
              try clear p2
              try clear c3
              try clear c3b0
              try clear c4
              try clear c4b0
              try clear c8
              try clear c8b0
              try clear c10
              try clear c10b0
              try clear hcz11_0
              try clear hcz11_1
              try clear hcz11_2
              try clear hcz11_3
              try clear hcz11_4
              try clear hcz12_0
              try clear hcz12_1
              try clear hcz12_2
              try clear hcz12_3
              try clear hcz12_4
              try clear hcz7_0
              try clear hcz7_1
              try clear hcz7_2
              try clear hcz7_3
              try clear hcz7_4
              try clear hcz9_0
              try clear hcz9_1
              try clear hcz9_2
              try clear hcz9_3
              try clear hcz9_4
              try clear hfz11_0
              try clear hfz11_1
              try clear hfz11_2
              try clear hfz11_3
              try clear hfz11_4
              try clear hfz12_0
              try clear hfz12_1
              try clear hfz12_2
              try clear hfz12_3
              try clear hfz12_4
              try clear hfz7_0
              try clear hfz7_1
              try clear hfz7_2
              try clear hfz7_3
              try clear hfz7_4
              try clear hfz9_0
              try clear hfz9_1
              try clear hfz9_2
              try clear hfz9_3
              try clear hfz9_4
              try clear hx17001_0
              try clear hx17001_1
              try clear hx17001_2
              try clear hx17001_3
              try clear hx17001_4
              try clear p17001
              try clear p2
              try clear q17001
              obtain ⟨kq, x33_4, rfl, HA, HJ4, BK17002, HB⟩ := hcut
              cases kq with
              | zero => exact absurd HA.out (by simp [papermillref34_Check.j1])
              | succ kj4 =>
                have H := HA.out
                clear HA
                simp only [papermillref34_Check.j1] at H
                by_cases c13 : x33_4 = true
                · subst c13
                  have H1 : (some 1) = some r := by rw [if_pos rfl] at H; exact H
                  clear H
                  have H := H1
                  clear H1
                  obtain rfl := Option.some.inj H
                  go_wp2
                  repeat (go_quiet (fail); try go_wp2)
                  go_ret
                  exact ⟨by first | rfl | (simp [errW_none, errW_some] <;> rfl) | (simp [*, errW_none, errW_some] <;> rfl), by repeat (first | (with_reducible first | exact HB.out | apply below_alloc | apply pw_below_drewN | apply below_drew1 | refine below_set ?_ GE17002.out) | exact HB.out)⟩
                · replace c13 := Bool.eq_false_iff.mpr c13
                  subst c13
                  have H1 : (if ((rd_T44 l0 x3_1).f2) < 1 then (papermillref34_Check.j2 kj4 l0 x3_1 true ((rd_T44 l0 x3_1).f0) ((rd_T44 l0 x3_1).f1) ((rd_T44 l0 x3_1).f2) ((rd_T44 l0 x3_1).f3) ((rd_T44 l0 x3_1).f4)) else (papermillref34_Check.j2 kj4 l0 x3_1 (decide (((rd_T44 l0 x3_1).f2) > 3)) ((rd_T44 l0 x3_1).f0) ((rd_T44 l0 x3_1).f1) ((rd_T44 l0 x3_1).f2) ((rd_T44 l0 x3_1).f3) ((rd_T44 l0 x3_1).f4))) = some r := by rw [if_neg (show ¬ (false = true) by decide)] at H; exact H
                  clear H
                  have H := H1
                  clear H1
                  have HC14 := Aside0.mk H
                  clear H
                  go_upto_region 9 with (fail)
                  repeat (go_quiet (fail); go_upto_region 9 with (fail))
                  go_cut [41] (fun v41 wc => ∃ (kq : Nat) (x41_13 : Bool), v41 = .bool x41_13 ∧ Aside0 (papermillref34_Check.j2 kq l0 x3_1 x41_13 ((rd_T44 l0 x3_1).f0) ((rd_T44 l0 x3_1).f1) ((rd_T44 l0 x3_1).f2) ((rd_T44 l0 x3_1).f3) ((rd_T44 l0 x3_1).f4) = some r) ∧ Aside0 (kq ≤ kj4) ∧ Aside0 (wc.heap[gb17002]? = some (.cells #[.int .i64 ((rd_T44 l0 x3_1).f0), .int .i64 ((rd_T44 l0 x3_1).f1), .int .i64 ((rd_T44 l0 x3_1).f2), .int .i64 ((rd_T44 l0 x3_1).f3), .int .i64 ((rd_T44 l0 x3_1).f4)] 44 (0, 0))) ∧ Aside0 (Below w.heap.size w wc))
                  case first =>
                    have H := HC14.out
                    clear HC14
                    by_cases c15 : ((rd_T44 l0 x3_1).f2) < 1
                    · rw [if_pos c15] at H
                      have c15b0 : decide (((rd_T44 l0 x3_1).f2) < 1) = true := decide_eq_true c15
                      clear c15
                      (first | rw [c15b0] | (simp only [i64_w, i32_w]; rw [c15b0]) | skip)
                      have H' := Aside0.mk H
                      clear H
                      have hcz16_0 : wc.cell? ⟨gb17002, 0, none⟩ = some (.int .i64 ((rd_T44 l0 x3_1).f0)) := (blk_cell BK17002.out 0).trans rfl
                      have hcz16_1 : wc.cell? ⟨gb17002, 1, none⟩ = some (.int .i64 ((rd_T44 l0 x3_1).f1)) := (blk_cell BK17002.out 1).trans rfl
                      have hcz16_2 : wc.cell? ⟨gb17002, 2, none⟩ = some (.int .i64 ((rd_T44 l0 x3_1).f2)) := (blk_cell BK17002.out 2).trans rfl
                      have hcz16_3 : wc.cell? ⟨gb17002, 3, none⟩ = some (.int .i64 ((rd_T44 l0 x3_1).f3)) := (blk_cell BK17002.out 3).trans rfl
                      have hcz16_4 : wc.cell? ⟨gb17002, 4, none⟩ = some (.int .i64 ((rd_T44 l0 x3_1).f4)) := (blk_cell BK17002.out 4).trans rfl
                      have hfz16_0 := blk_frozen BK17002.out 0
                      have hfz16_1 := blk_frozen BK17002.out 1
                      have hfz16_2 := blk_frozen BK17002.out 2
                      have hfz16_3 := blk_frozen BK17002.out 3
                      have hfz16_4 := blk_frozen BK17002.out 4
                      go_wp2
                      repeat (go_quiet (fail); try go_wp2)
                      go_meet
                      case rel => exact ⟨_, (true), (by first | rfl | (simp; done) | (simp [*]; done)), H', ⟨by have := HK1.out; have := HJ4.out; first | omega | exact Nat.le_refl _⟩, ⟨by (with_reducible repeat (first | refine blk_drewN ?_ _ | refine blk_drew ?_ | refine blk_alloc ?_ _)); exact BK17002.out⟩, ⟨by repeat (first | (with_reducible first | exact HB.out | apply below_alloc | apply pw_below_drewN | apply below_drew1 | refine below_set ?_ GE17002.out) | exact HB.out)⟩⟩
                    · rw [if_neg c15] at H
                      have c15b0 : decide (((rd_T44 l0 x3_1).f2) < 1) = false := decide_eq_false c15
                      clear c15
                      (first | rw [c15b0] | (simp only [i64_w, i32_w]; rw [c15b0]) | skip)
                      have H' := Aside0.mk H
                      clear H
                      have hcz17_0 : wc.cell? ⟨gb17002, 0, none⟩ = some (.int .i64 ((rd_T44 l0 x3_1).f0)) := (blk_cell BK17002.out 0).trans rfl
                      have hcz17_1 : wc.cell? ⟨gb17002, 1, none⟩ = some (.int .i64 ((rd_T44 l0 x3_1).f1)) := (blk_cell BK17002.out 1).trans rfl
                      have hcz17_2 : wc.cell? ⟨gb17002, 2, none⟩ = some (.int .i64 ((rd_T44 l0 x3_1).f2)) := (blk_cell BK17002.out 2).trans rfl
                      have hcz17_3 : wc.cell? ⟨gb17002, 3, none⟩ = some (.int .i64 ((rd_T44 l0 x3_1).f3)) := (blk_cell BK17002.out 3).trans rfl
                      have hcz17_4 : wc.cell? ⟨gb17002, 4, none⟩ = some (.int .i64 ((rd_T44 l0 x3_1).f4)) := (blk_cell BK17002.out 4).trans rfl
                      have hfz17_0 := blk_frozen BK17002.out 0
                      have hfz17_1 := blk_frozen BK17002.out 1
                      have hfz17_2 := blk_frozen BK17002.out 2
                      have hfz17_3 := blk_frozen BK17002.out 3
                      have hfz17_4 := blk_frozen BK17002.out 4
                      go_wp2
                      repeat (go_quiet (fail); try go_wp2)
                      go_meet
                      case rel => exact ⟨_, (decide (((rd_T44 l0 x3_1).f2) > 3)), (by first | rfl | (simp; done) | (simp [*]; done)), H', ⟨by have := HK1.out; have := HJ4.out; first | omega | exact Nat.le_refl _⟩, ⟨by (with_reducible repeat (first | refine blk_drewN ?_ _ | refine blk_drew ?_ | refine blk_alloc ?_ _)); exact BK17002.out⟩, ⟨by repeat (first | (with_reducible first | exact HB.out | apply below_alloc | apply pw_below_drewN | apply below_drew1 | refine below_set ?_ GE17002.out) | exact HB.out)⟩⟩
                  case rest =>
                    clear HC14
                    try clear c1
                    try clear p1
                    try clear q1
                    try clear hx1
                    try clear c2
                    try clear c2b0
                    try clear c2b1
                    try clear p2
                    try clear c3
                    try clear c3b0
                    try clear c4
                    try clear c4b0
                    try clear c8
                    try clear c8b0
                    try clear c10
                    try clear c10b0
                    try clear c13
                    try clear c15
                    try clear c15b0
                    try clear c16
                    try clear p17
                    try clear q17
                    try clear hx17
                    try clear hcz11_0
                    try clear hcz11_1
                    try clear hcz11_2
                    try clear hcz11_3
                    try clear hcz11_4
                    try clear hcz12_0
                    try clear hcz12_1
                    try clear hcz12_2
                    try clear hcz12_3
                    try clear hcz12_4
                    try clear hcz16_0
                    try clear hcz16_1
                    try clear hcz16_2
                    try clear hcz16_3
                    try clear hcz16_4
                    try clear hcz17_0
                    try clear hcz17_1
                    try clear hcz17_2
                    try clear hcz17_3
                    try clear hcz17_4
                    try clear hcz7_0
                    try clear hcz7_1
                    try clear hcz7_2
                    try clear hcz7_3
                    try clear hcz7_4
                    try clear hcz9_0
                    try clear hcz9_1
                    try clear hcz9_2
                    try clear hcz9_3
                    try clear hcz9_4
                    try clear hfz11_0
                    try clear hfz11_1
                    try clear hfz11_2
                    try clear hfz11_3
                    try clear hfz11_4
                    try clear hfz12_0
                    try clear hfz12_1
                    try clear hfz12_2
                    try clear hfz12_3
                    try clear hfz12_4
                    try clear hfz16_0
                    try clear hfz16_1
                    try clear hfz16_2
                    try clear hfz16_3
                    try clear hfz16_4
                    try clear hfz17_0
                    try clear hfz17_1
                    try clear hfz17_2
                    try clear hfz17_3
                    try clear hfz17_4
                    try clear hfz7_0
                    try clear hfz7_1
                    try clear hfz7_2
                    try clear hfz7_3
                    try clear hfz7_4
                    try clear hfz9_0
                    try clear hfz9_1
                    try clear hfz9_2
                    try clear hfz9_3
                    try clear hfz9_4
                    try clear hx17001_0
                    try clear hx17001_1
                    try clear hx17001_2
                    try clear hx17001_3
                    try clear hx17001_4
                    try clear p1
                    try clear p17001
                    try clear p2
                    try clear q1
                    try clear q17001
                    obtain ⟨kq, x41_13, rfl, HA, HJ13, BK17002, HB⟩ := hcut
                    cases kq with
                    | zero => exact absurd HA.out (by simp [papermillref34_Check.j2])
                    | succ kj13 =>
                      have H := HA.out
                      clear HA
                      simp only [papermillref34_Check.j2] at H
                      by_cases c18 : x41_13 = true
                      · subst c18
                        have H1 : (some 17) = some r := by rw [if_pos rfl] at H; exact H
                        clear H
                        have H := H1
                        clear H1
                        obtain rfl := Option.some.inj H
                        go_wp2
                        repeat (go_quiet (fail); try go_wp2)
                        go_ret
                        exact ⟨by first | rfl | (simp [errW_none, errW_some] <;> rfl) | (simp [*, errW_none, errW_some] <;> rfl), by repeat (first | (with_reducible first | exact HB.out | apply below_alloc | apply pw_below_drewN | apply below_drew1 | refine below_set ?_ GE17002.out) | exact HB.out)⟩
                      · replace c18 := Bool.eq_false_iff.mpr c18
                        subst c18
                        have H1 : (if ((rd_T44 l0 x3_1).f3) < (-1) then (papermillref34_Check.j3 kj13 l0 x3_1 true ((rd_T44 l0 x3_1).f0) ((rd_T44 l0 x3_1).f1) ((rd_T44 l0 x3_1).f2) ((rd_T44 l0 x3_1).f3) ((rd_T44 l0 x3_1).f4)) else (papermillref34_Check.j3 kj13 l0 x3_1 (decide (((rd_T44 l0 x3_1).f3) ≥ 16)) ((rd_T44 l0 x3_1).f0) ((rd_T44 l0 x3_1).f1) ((rd_T44 l0 x3_1).f2) ((rd_T44 l0 x3_1).f3) ((rd_T44 l0 x3_1).f4))) = some r := by rw [if_neg (show ¬ (false = true) by decide)] at H; exact H
                        clear H
                        have H := H1
                        clear H1
                        have HC19 := Aside0.mk H
                        clear H
                        go_upto_region 11 with (fail)
                        repeat (go_quiet (fail); go_upto_region 11 with (fail))
                        go_cut [49] (fun v49 wc => ∃ (kq : Nat) (x49_18 : Bool), v49 = .bool x49_18 ∧ Aside0 (papermillref34_Check.j3 kq l0 x3_1 x49_18 ((rd_T44 l0 x3_1).f0) ((rd_T44 l0 x3_1).f1) ((rd_T44 l0 x3_1).f2) ((rd_T44 l0 x3_1).f3) ((rd_T44 l0 x3_1).f4) = some r) ∧ Aside0 (kq ≤ kj13) ∧ Aside0 (wc.heap[gb17002]? = some (.cells #[.int .i64 ((rd_T44 l0 x3_1).f0), .int .i64 ((rd_T44 l0 x3_1).f1), .int .i64 ((rd_T44 l0 x3_1).f2), .int .i64 ((rd_T44 l0 x3_1).f3), .int .i64 ((rd_T44 l0 x3_1).f4)] 44 (0, 0))) ∧ Aside0 (Below w.heap.size w wc))
                        case first =>
                          have H := HC19.out
                          clear HC19
                          by_cases c20 : ((rd_T44 l0 x3_1).f3) < (-1)
                          · rw [if_pos c20] at H
                            have c20b0 : decide (((rd_T44 l0 x3_1).f3) < (-1)) = true := decide_eq_true c20
                            clear c20
                            (first | rw [c20b0] | (simp only [i64_w, i32_w]; rw [c20b0]) | skip)
                            have H' := Aside0.mk H
                            clear H
                            have hcz21_0 : wc.cell? ⟨gb17002, 0, none⟩ = some (.int .i64 ((rd_T44 l0 x3_1).f0)) := (blk_cell BK17002.out 0).trans rfl
                            have hcz21_1 : wc.cell? ⟨gb17002, 1, none⟩ = some (.int .i64 ((rd_T44 l0 x3_1).f1)) := (blk_cell BK17002.out 1).trans rfl
                            have hcz21_2 : wc.cell? ⟨gb17002, 2, none⟩ = some (.int .i64 ((rd_T44 l0 x3_1).f2)) := (blk_cell BK17002.out 2).trans rfl
                            have hcz21_3 : wc.cell? ⟨gb17002, 3, none⟩ = some (.int .i64 ((rd_T44 l0 x3_1).f3)) := (blk_cell BK17002.out 3).trans rfl
                            have hcz21_4 : wc.cell? ⟨gb17002, 4, none⟩ = some (.int .i64 ((rd_T44 l0 x3_1).f4)) := (blk_cell BK17002.out 4).trans rfl
                            have hfz21_0 := blk_frozen BK17002.out 0
                            have hfz21_1 := blk_frozen BK17002.out 1
                            have hfz21_2 := blk_frozen BK17002.out 2
                            have hfz21_3 := blk_frozen BK17002.out 3
                            have hfz21_4 := blk_frozen BK17002.out 4
                            go_wp2
                            repeat (go_quiet (fail); try go_wp2)
                            go_meet
                            case rel => exact ⟨_, (true), (by first | rfl | (simp; done) | (simp [*]; done)), H', ⟨by have := HK1.out; have := HJ4.out; have := HJ13.out; first | omega | exact Nat.le_refl _⟩, ⟨by (with_reducible repeat (first | refine blk_drewN ?_ _ | refine blk_drew ?_ | refine blk_alloc ?_ _)); exact BK17002.out⟩, ⟨by repeat (first | (with_reducible first | exact HB.out | apply below_alloc | apply pw_below_drewN | apply below_drew1 | refine below_set ?_ GE17002.out) | exact HB.out)⟩⟩
                          · rw [if_neg c20] at H
                            have c20b0 : decide (((rd_T44 l0 x3_1).f3) < (-1)) = false := decide_eq_false c20
                            clear c20
                            (first | rw [c20b0] | (simp only [i64_w, i32_w]; rw [c20b0]) | skip)
                            have H' := Aside0.mk H
                            clear H
                            have hcz22_0 : wc.cell? ⟨gb17002, 0, none⟩ = some (.int .i64 ((rd_T44 l0 x3_1).f0)) := (blk_cell BK17002.out 0).trans rfl
                            have hcz22_1 : wc.cell? ⟨gb17002, 1, none⟩ = some (.int .i64 ((rd_T44 l0 x3_1).f1)) := (blk_cell BK17002.out 1).trans rfl
                            have hcz22_2 : wc.cell? ⟨gb17002, 2, none⟩ = some (.int .i64 ((rd_T44 l0 x3_1).f2)) := (blk_cell BK17002.out 2).trans rfl
                            have hcz22_3 : wc.cell? ⟨gb17002, 3, none⟩ = some (.int .i64 ((rd_T44 l0 x3_1).f3)) := (blk_cell BK17002.out 3).trans rfl
                            have hcz22_4 : wc.cell? ⟨gb17002, 4, none⟩ = some (.int .i64 ((rd_T44 l0 x3_1).f4)) := (blk_cell BK17002.out 4).trans rfl
                            have hfz22_0 := blk_frozen BK17002.out 0
                            have hfz22_1 := blk_frozen BK17002.out 1
                            have hfz22_2 := blk_frozen BK17002.out 2
                            have hfz22_3 := blk_frozen BK17002.out 3
                            have hfz22_4 := blk_frozen BK17002.out 4
                            go_wp2
                            repeat (go_quiet (fail); try go_wp2)
                            go_meet
                            case rel => exact ⟨_, (decide (((rd_T44 l0 x3_1).f3) ≥ 16)), (by first | rfl | (simp; done) | (simp [*]; done)), H', ⟨by have := HK1.out; have := HJ4.out; have := HJ13.out; first | omega | exact Nat.le_refl _⟩, ⟨by (with_reducible repeat (first | refine blk_drewN ?_ _ | refine blk_drew ?_ | refine blk_alloc ?_ _)); exact BK17002.out⟩, ⟨by repeat (first | (with_reducible first | exact HB.out | apply below_alloc | apply pw_below_drewN | apply below_drew1 | refine below_set ?_ GE17002.out) | exact HB.out)⟩⟩
                        case rest =>
                          clear HC19
                          try clear c1
                          try clear p1
                          try clear q1
                          try clear hx1
                          try clear c2
                          try clear c2b0
                          try clear c2b1
                          try clear p2
                          try clear c3
                          try clear c3b0
                          try clear c4
                          try clear c4b0
                          try clear c8
                          try clear c8b0
                          try clear c10
                          try clear c10b0
                          try clear c13
                          try clear c15
                          try clear c15b0
                          try clear c16
                          try clear p17
                          try clear q17
                          try clear hx17
                          try clear c18
                          try clear c20
                          try clear c20b0
                          try clear hcz11_0
                          try clear hcz11_1
                          try clear hcz11_2
                          try clear hcz11_3
                          try clear hcz11_4
                          try clear hcz12_0
                          try clear hcz12_1
                          try clear hcz12_2
                          try clear hcz12_3
                          try clear hcz12_4
                          try clear hcz16_0
                          try clear hcz16_1
                          try clear hcz16_2
                          try clear hcz16_3
                          try clear hcz16_4
                          try clear hcz17_0
                          try clear hcz17_1
                          try clear hcz17_2
                          try clear hcz17_3
                          try clear hcz17_4
                          try clear hcz21_0
                          try clear hcz21_1
                          try clear hcz21_2
                          try clear hcz21_3
                          try clear hcz21_4
                          try clear hcz22_0
                          try clear hcz22_1
                          try clear hcz22_2
                          try clear hcz22_3
                          try clear hcz22_4
                          try clear hcz7_0
                          try clear hcz7_1
                          try clear hcz7_2
                          try clear hcz7_3
                          try clear hcz7_4
                          try clear hcz9_0
                          try clear hcz9_1
                          try clear hcz9_2
                          try clear hcz9_3
                          try clear hcz9_4
                          try clear hfz11_0
                          try clear hfz11_1
                          try clear hfz11_2
                          try clear hfz11_3
                          try clear hfz11_4
                          try clear hfz12_0
                          try clear hfz12_1
                          try clear hfz12_2
                          try clear hfz12_3
                          try clear hfz12_4
                          try clear hfz16_0
                          try clear hfz16_1
                          try clear hfz16_2
                          try clear hfz16_3
                          try clear hfz16_4
                          try clear hfz17_0
                          try clear hfz17_1
                          try clear hfz17_2
                          try clear hfz17_3
                          try clear hfz17_4
                          try clear hfz21_0
                          try clear hfz21_1
                          try clear hfz21_2
                          try clear hfz21_3
                          try clear hfz21_4
                          try clear hfz22_0
                          try clear hfz22_1
                          try clear hfz22_2
                          try clear hfz22_3
                          try clear hfz22_4
                          try clear hfz7_0
                          try clear hfz7_1
                          try clear hfz7_2
                          try clear hfz7_3
                          try clear hfz7_4
                          try clear hfz9_0
                          try clear hfz9_1
                          try clear hfz9_2
                          try clear hfz9_3
                          try clear hfz9_4
                          try clear hx17001_0
                          try clear hx17001_1
                          try clear hx17001_2
                          try clear hx17001_3
                          try clear hx17001_4
                          try clear p1
                          try clear p17
                          try clear p17001
                          try clear p2
                          try clear q1
                          try clear q17
                          try clear q17001
                          obtain ⟨kq, x49_18, rfl, HA, HJ18, BK17002, HB⟩ := hcut
                          cases kq with
                          | zero => exact absurd HA.out (by simp [papermillref34_Check.j3])
                          | succ kj18 =>
                            have H := HA.out
                            clear HA
                            simp only [papermillref34_Check.j3] at H
                            by_cases c23 : x49_18 = true
                            · subst c23
                              have H1 : (some 22) = some r := by rw [if_pos rfl] at H; exact H
                              clear H
                              have H := H1
                              clear H1
                              obtain rfl := Option.some.inj H
                              go_wp2
                              repeat (go_quiet (fail); try go_wp2)
                              go_ret
                              exact ⟨by first | rfl | (simp [errW_none, errW_some] <;> rfl) | (simp [*, errW_none, errW_some] <;> rfl), by repeat (first | (with_reducible first | exact HB.out | apply below_alloc | apply pw_below_drewN | apply below_drew1 | refine below_set ?_ GE17002.out) | exact HB.out)⟩
                            · replace c23 := Bool.eq_false_iff.mpr c23
                              subst c23
                              have H1 : (if ((rd_T44 l0 x3_1).f4) < 0 then (some 1) else (if ((rd_T44 l0 x3_1).f4) > 2048 then (some 1) else (papermillref34_Check.l0 kj18 l0 (wrap64 (x3_1 + 1))))) = some r := by rw [if_neg (show ¬ (false = true) by decide)] at H; exact H
                              clear H
                              have H := H1
                              clear H1
                              by_cases c24 : ((rd_T44 l0 x3_1).f4) < 0
                              · rw [if_pos c24] at H
                                have c24b0 : decide (((rd_T44 l0 x3_1).f4) < 0) = true := decide_eq_true c24
                                clear c24
                                obtain rfl := Option.some.inj H
                                have hcz25_0 : wc.cell? ⟨gb17002, 0, none⟩ = some (.int .i64 ((rd_T44 l0 x3_1).f0)) := (blk_cell BK17002.out 0).trans rfl
                                have hcz25_1 : wc.cell? ⟨gb17002, 1, none⟩ = some (.int .i64 ((rd_T44 l0 x3_1).f1)) := (blk_cell BK17002.out 1).trans rfl
                                have hcz25_2 : wc.cell? ⟨gb17002, 2, none⟩ = some (.int .i64 ((rd_T44 l0 x3_1).f2)) := (blk_cell BK17002.out 2).trans rfl
                                have hcz25_3 : wc.cell? ⟨gb17002, 3, none⟩ = some (.int .i64 ((rd_T44 l0 x3_1).f3)) := (blk_cell BK17002.out 3).trans rfl
                                have hcz25_4 : wc.cell? ⟨gb17002, 4, none⟩ = some (.int .i64 ((rd_T44 l0 x3_1).f4)) := (blk_cell BK17002.out 4).trans rfl
                                have hfz25_0 := blk_frozen BK17002.out 0
                                have hfz25_1 := blk_frozen BK17002.out 1
                                have hfz25_2 := blk_frozen BK17002.out 2
                                have hfz25_3 := blk_frozen BK17002.out 3
                                have hfz25_4 := blk_frozen BK17002.out 4
                                go_wp2
                                repeat (go_quiet (fail); try go_wp2)
                                go_ret
                                exact ⟨by first | rfl | (simp [errW_none, errW_some] <;> rfl) | (simp [*, errW_none, errW_some] <;> rfl), by repeat (first | (with_reducible first | exact HB.out | apply below_alloc | apply pw_below_drewN | apply below_drew1 | refine below_set ?_ GE17002.out) | exact HB.out)⟩
                              · rw [if_neg c24] at H
                                have c24b0 : decide (((rd_T44 l0 x3_1).f4) < 0) = false := decide_eq_false c24
                                clear c24
                                by_cases c26 : ((rd_T44 l0 x3_1).f4) > 2048
                                · rw [if_pos c26] at H
                                  have c26b0 : decide (2048 < ((rd_T44 l0 x3_1).f4)) = true := decide_eq_true c26
                                  clear c26
                                  obtain rfl := Option.some.inj H
                                  have hcz27_0 : wc.cell? ⟨gb17002, 0, none⟩ = some (.int .i64 ((rd_T44 l0 x3_1).f0)) := (blk_cell BK17002.out 0).trans rfl
                                  have hcz27_1 : wc.cell? ⟨gb17002, 1, none⟩ = some (.int .i64 ((rd_T44 l0 x3_1).f1)) := (blk_cell BK17002.out 1).trans rfl
                                  have hcz27_2 : wc.cell? ⟨gb17002, 2, none⟩ = some (.int .i64 ((rd_T44 l0 x3_1).f2)) := (blk_cell BK17002.out 2).trans rfl
                                  have hcz27_3 : wc.cell? ⟨gb17002, 3, none⟩ = some (.int .i64 ((rd_T44 l0 x3_1).f3)) := (blk_cell BK17002.out 3).trans rfl
                                  have hcz27_4 : wc.cell? ⟨gb17002, 4, none⟩ = some (.int .i64 ((rd_T44 l0 x3_1).f4)) := (blk_cell BK17002.out 4).trans rfl
                                  have hfz27_0 := blk_frozen BK17002.out 0
                                  have hfz27_1 := blk_frozen BK17002.out 1
                                  have hfz27_2 := blk_frozen BK17002.out 2
                                  have hfz27_3 := blk_frozen BK17002.out 3
                                  have hfz27_4 := blk_frozen BK17002.out 4
                                  go_wp2
                                  repeat (go_quiet (fail); try go_wp2)
                                  go_ret
                                  exact ⟨by first | rfl | (simp [errW_none, errW_some] <;> rfl) | (simp [*, errW_none, errW_some] <;> rfl), by repeat (first | (with_reducible first | exact HB.out | apply below_alloc | apply pw_below_drewN | apply below_drew1 | refine below_set ?_ GE17002.out) | exact HB.out)⟩
                                · rw [if_neg c26] at H
                                  have c26b0 : decide (2048 < ((rd_T44 l0 x3_1).f4)) = false := decide_eq_false c26
                                  clear c26
                                  have H' := Aside0.mk H
                                  clear H
                                  have hcz28_0 : wc.cell? ⟨gb17002, 0, none⟩ = some (.int .i64 ((rd_T44 l0 x3_1).f0)) := (blk_cell BK17002.out 0).trans rfl
                                  have hcz28_1 : wc.cell? ⟨gb17002, 1, none⟩ = some (.int .i64 ((rd_T44 l0 x3_1).f1)) := (blk_cell BK17002.out 1).trans rfl
                                  have hcz28_2 : wc.cell? ⟨gb17002, 2, none⟩ = some (.int .i64 ((rd_T44 l0 x3_1).f2)) := (blk_cell BK17002.out 2).trans rfl
                                  have hcz28_3 : wc.cell? ⟨gb17002, 3, none⟩ = some (.int .i64 ((rd_T44 l0 x3_1).f3)) := (blk_cell BK17002.out 3).trans rfl
                                  have hcz28_4 : wc.cell? ⟨gb17002, 4, none⟩ = some (.int .i64 ((rd_T44 l0 x3_1).f4)) := (blk_cell BK17002.out 4).trans rfl
                                  have hfz28_0 := blk_frozen BK17002.out 0
                                  have hfz28_1 := blk_frozen BK17002.out 1
                                  have hfz28_2 := blk_frozen BK17002.out 2
                                  have hfz28_3 := blk_frozen BK17002.out 3
                                  have hfz28_4 := blk_frozen BK17002.out 4
                                  go_wp2
                                  repeat (go_quiet (fail); try go_wp2)
                                  go_roundg kj18
                                  case measure => have := HK1.out; have := HJ4.out; have := HJ13.out; have := HJ18.out; omega
                                  case rel => exact ⟨(wrap64 (x3_1 + 1)), (by first | rfl | (simp; done) | (simp [*]; done)), H', ⟨by have := HK1.out; have := HJ4.out; have := HJ13.out; have := HJ18.out; omega⟩, ⟨by repeat (first | (with_reducible first | exact HB.out | apply below_alloc | apply pw_below_drewN | apply below_drew1 | refine below_set ?_ GE17002.out) | exact HB.out)⟩⟩
          · rw [if_neg c4] at H
            exact absurd H (by simp)
        · rw [if_neg c3] at H
          have c3b0 : decide (x3_1 < (l0.length : Int)) = false := decide_eq_false c3
          clear c3
          have H' := Aside0.mk H
          clear H
          go_wp2
          repeat (go_quiet (fail); try go_wp2)
          go_loopg [5] k1 (fun kq v5 w' => ∃ (x5_2 : Int), v5 = .int .i64 x5_2 ∧ Aside0 (papermillref34_Check.l1 kq l0 x5_2 = some r) ∧ Aside0 (kq ≤ k1) ∧ Aside0 (Below w.heap.size w w'))
          case atStart => exact ⟨(0), (by first | rfl | (simp; done) | (simp [*]; done)), H', ⟨Nat.le_refl _⟩, ⟨by repeat (first | (with_reducible first | exact HB.out | apply below_alloc | apply pw_below_drewN | apply below_drew1) | exact HB.out)⟩⟩
          case round =>
            clear H'
            try clear c1
            try clear p1
            try clear q1
            try clear hx1
            try clear c2
            try clear c2b0
            try clear c2b1
            try clear p2
            try clear c3
            try clear c3b0
            try clear c4
            try clear c4b0
            try clear p6
            try clear c8
            try clear c8b0
            try clear c10
            try clear c10b0
            try clear c13
            try clear c15
            try clear c15b0
            try clear c16
            try clear p17
            try clear q17
            try clear hx17
            try clear c18
            try clear c20
            try clear c20b0
            try clear c23
            try clear c24
            try clear c24b0
            try clear c26
            try clear c26b0
            try clear hcz11_0
            try clear hcz11_1
            try clear hcz11_2
            try clear hcz11_3
            try clear hcz11_4
            try clear hcz12_0
            try clear hcz12_1
            try clear hcz12_2
            try clear hcz12_3
            try clear hcz12_4
            try clear hcz16_0
            try clear hcz16_1
            try clear hcz16_2
            try clear hcz16_3
            try clear hcz16_4
            try clear hcz17_0
            try clear hcz17_1
            try clear hcz17_2
            try clear hcz17_3
            try clear hcz17_4
            try clear hcz21_0
            try clear hcz21_1
            try clear hcz21_2
            try clear hcz21_3
            try clear hcz21_4
            try clear hcz22_0
            try clear hcz22_1
            try clear hcz22_2
            try clear hcz22_3
            try clear hcz22_4
            try clear hcz25_0
            try clear hcz25_1
            try clear hcz25_2
            try clear hcz25_3
            try clear hcz25_4
            try clear hcz27_0
            try clear hcz27_1
            try clear hcz27_2
            try clear hcz27_3
            try clear hcz27_4
            try clear hcz28_0
            try clear hcz28_1
            try clear hcz28_2
            try clear hcz28_3
            try clear hcz28_4
            try clear hcz7_0
            try clear hcz7_1
            try clear hcz7_2
            try clear hcz7_3
            try clear hcz7_4
            try clear hcz9_0
            try clear hcz9_1
            try clear hcz9_2
            try clear hcz9_3
            try clear hcz9_4
            try clear hfz11_0
            try clear hfz11_1
            try clear hfz11_2
            try clear hfz11_3
            try clear hfz11_4
            try clear hfz12_0
            try clear hfz12_1
            try clear hfz12_2
            try clear hfz12_3
            try clear hfz12_4
            try clear hfz16_0
            try clear hfz16_1
            try clear hfz16_2
            try clear hfz16_3
            try clear hfz16_4
            try clear hfz17_0
            try clear hfz17_1
            try clear hfz17_2
            try clear hfz17_3
            try clear hfz17_4
            try clear hfz21_0
            try clear hfz21_1
            try clear hfz21_2
            try clear hfz21_3
            try clear hfz21_4
            try clear hfz22_0
            try clear hfz22_1
            try clear hfz22_2
            try clear hfz22_3
            try clear hfz22_4
            try clear hfz25_0
            try clear hfz25_1
            try clear hfz25_2
            try clear hfz25_3
            try clear hfz25_4
            try clear hfz27_0
            try clear hfz27_1
            try clear hfz27_2
            try clear hfz27_3
            try clear hfz27_4
            try clear hfz28_0
            try clear hfz28_1
            try clear hfz28_2
            try clear hfz28_3
            try clear hfz28_4
            try clear hfz7_0
            try clear hfz7_1
            try clear hfz7_2
            try clear hfz7_3
            try clear hfz7_4
            try clear hfz9_0
            try clear hfz9_1
            try clear hfz9_2
            try clear hfz9_3
            try clear hfz9_4
            try clear hx17001_0
            try clear hx17001_1
            try clear hx17001_2
            try clear hx17001_3
            try clear hx17001_4
            try clear p1
            try clear p17
            try clear p17001
            try clear p2
            try clear q1
            try clear q17
            try clear q17001
            obtain ⟨x5_2, rfl, HA, HK2, HB⟩ := hrel
            cases gk with
            | zero => exact absurd HA.out (by simp [papermillref34_Check.l1])
            | succ k2 =>
              have H := HA.out
              clear HA
              simp only [papermillref34_Check.l1] at H
              by_cases c29 : x5_2 < (l0.length : Int)
              · rw [if_pos c29] at H
                have c29b0 : decide (x5_2 < (l0.length : Int)) = true := decide_eq_true c29
                clear c29
                by_cases c30 : x5_2 = 0
                · rw [if_pos c30] at H
                  have c30b0 : (x5_2 == 0) = true := beq_iff_eq.mpr c30
                  have c30b1 : (x5_2 != 0) = false := bne_eq_false_iff_eq.mpr c30
                  clear c30
                  by_cases c31 : 0 ≤ x5_2
                  · rw [if_pos c31] at H
                    have c31b0 : decide (0 ≤ x5_2) = true := decide_eq_true c31
                    clear c31
                    by_cases c32 : ((rd_T44 l0 x5_2).f0) = 0
                    · rw [if_pos c32] at H
                      have c32b0 : (((rd_T44 l0 x5_2).f0) == 0) = true := beq_iff_eq.mpr c32
                      have c32b1 : (((rd_T44 l0 x5_2).f0) != 0) = false := bne_eq_false_iff_eq.mpr c32
                      clear c32
                      by_cases c33 : x5_2 > 0
                      · rw [if_pos c33] at H
                        have c33b0 : decide (0 < x5_2) = true := decide_eq_true c33
                        clear c33
                        obtain ⟨ji34, hji34⟩ : ∃ j_ : Int, (wrap64 (x5_2 - 1)) = j_ := ⟨_, rfl⟩
                        replace H : (if 0 ≤ (ji34) then (if (ji34) < (l0.length : Int) then (if ((rd_T44 l0 x5_2).f0) = ((rd_T44 l0 (ji34)).f1) then (if ((rd_T44 l0 x5_2).f4) < ((rd_T44 l0 (ji34)).f4) then (some 9) else (papermillref34_Check.l1 k2 l0 (wrap64 (x5_2 + 1)))) else (some 9)) else (none)) else (none)) = some r := by first | (rw [hji34] at H; exact H) | (simp only [hji34] at H ⊢; exact H)
                        have hji34w : (IntKind.i64.wrap (x5_2 - 1)) = ji34 := (i64_w _).trans hji34
                        by_cases c35 : 0 ≤ (ji34)
                        · rw [if_pos c35] at H
                          have c35b0 : decide (0 ≤ (ji34)) = true := decide_eq_true c35
                          clear c35
                          by_cases c36 : (ji34) < (l0.length : Int)
                          · rw [if_pos c36] at H
                            have c36b0 : decide ((ji34) < (l0.length : Int)) = true := decide_eq_true c36
                            clear c36
                            by_cases c37 : ((rd_T44 l0 x5_2).f0) = ((rd_T44 l0 (ji34)).f1)
                            · rw [if_pos c37] at H
                              have c37b0 : (((rd_T44 l0 x5_2).f0) == ((rd_T44 l0 (ji34)).f1)) = true := beq_iff_eq.mpr c37
                              have c37b1 : (((rd_T44 l0 x5_2).f0) != ((rd_T44 l0 (ji34)).f1)) = false := bne_eq_false_iff_eq.mpr c37
                              clear c37
                              by_cases c38 : ((rd_T44 l0 x5_2).f4) < ((rd_T44 l0 (ji34)).f4)
                              · rw [if_pos c38] at H
                                have c38b0 : decide (((rd_T44 l0 x5_2).f4) < ((rd_T44 l0 (ji34)).f4)) = true := decide_eq_true c38
                                clear c38
                                obtain rfl := Option.some.inj H
                                have p17003 : 0 ≤ (x5_2 : Int) := of_decide_eq_true (by first | (with_reducible assumption) | assumption)
                                have q17003 : x5_2 < (l0.length : Int) := of_decide_eq_true (by first | (with_reducible assumption) | assumption)
                                obtain ⟨ad17003, e17003, hx17003_0, hx17003_1, hx17003_2, hx17003_3, hx17003_4⟩ := at_T44 HR0.out x5_2 p17003 q17003
                                cases e17003
                                replace hx17003_0 := (HB.out.cell (World.block_lt_of_cell? w _ hx17003_0)).trans hx17003_0
                                replace hx17003_1 := (HB.out.cell (World.block_lt_of_cell? w _ hx17003_1)).trans hx17003_1
                                replace hx17003_2 := (HB.out.cell (World.block_lt_of_cell? w _ hx17003_2)).trans hx17003_2
                                replace hx17003_3 := (HB.out.cell (World.block_lt_of_cell? w _ hx17003_3)).trans hx17003_3
                                replace hx17003_4 := (HB.out.cell (World.block_lt_of_cell? w _ hx17003_4)).trans hx17003_4
                                replace p17003 := eq_true p17003
                                replace q17003 := eq_true q17003
                                have p17004 : 0 ≤ (x5_2 : Int) := of_decide_eq_true (by first | (with_reducible assumption) | assumption)
                                have q17004 : x5_2 < (l0.length : Int) := of_decide_eq_true (by first | (with_reducible assumption) | assumption)
                                obtain ⟨ad17004, e17004, hx17004_0, hx17004_1, hx17004_2, hx17004_3, hx17004_4⟩ := at_T44 HR0.out x5_2 p17004 q17004
                                obtain rfl : ad17003 = ad17004 := (by injection e17004)
                                replace hx17004_0 := (HB.out.cell (World.block_lt_of_cell? w _ hx17004_0)).trans hx17004_0
                                replace hx17004_1 := (HB.out.cell (World.block_lt_of_cell? w _ hx17004_1)).trans hx17004_1
                                replace hx17004_2 := (HB.out.cell (World.block_lt_of_cell? w _ hx17004_2)).trans hx17004_2
                                replace hx17004_3 := (HB.out.cell (World.block_lt_of_cell? w _ hx17004_3)).trans hx17004_3
                                replace hx17004_4 := (HB.out.cell (World.block_lt_of_cell? w _ hx17004_4)).trans hx17004_4
                                replace p17004 := eq_true p17004
                                replace q17004 := eq_true q17004
                                have p17005 : 0 ≤ ((ji34) : Int) := of_decide_eq_true (by first | (with_reducible assumption) | assumption)
                                have q17005 : (ji34) < (l0.length : Int) := of_decide_eq_true (by first | (with_reducible assumption) | assumption)
                                obtain ⟨ad17005, e17005, hx17005_0, hx17005_1, hx17005_2, hx17005_3, hx17005_4⟩ := at_T44 HR0.out (ji34) p17005 q17005
                                obtain rfl : ad17003 = ad17005 := (by injection e17005)
                                replace hx17005_0 := (HB.out.cell (World.block_lt_of_cell? w _ hx17005_0)).trans hx17005_0
                                replace hx17005_1 := (HB.out.cell (World.block_lt_of_cell? w _ hx17005_1)).trans hx17005_1
                                replace hx17005_2 := (HB.out.cell (World.block_lt_of_cell? w _ hx17005_2)).trans hx17005_2
                                replace hx17005_3 := (HB.out.cell (World.block_lt_of_cell? w _ hx17005_3)).trans hx17005_3
                                replace hx17005_4 := (HB.out.cell (World.block_lt_of_cell? w _ hx17005_4)).trans hx17005_4
                                replace p17005 := eq_true p17005
                                replace q17005 := eq_true q17005
                                have p17006 : 0 ≤ (x5_2 : Int) := of_decide_eq_true (by first | (with_reducible assumption) | assumption)
                                have q17006 : x5_2 < (l0.length : Int) := of_decide_eq_true (by first | (with_reducible assumption) | assumption)
                                obtain ⟨ad17006, e17006, hx17006_0, hx17006_1, hx17006_2, hx17006_3, hx17006_4⟩ := at_T44 HR0.out x5_2 p17006 q17006
                                obtain rfl : ad17003 = ad17006 := (by injection e17006)
                                replace hx17006_0 := (HB.out.cell (World.block_lt_of_cell? w _ hx17006_0)).trans hx17006_0
                                replace hx17006_1 := (HB.out.cell (World.block_lt_of_cell? w _ hx17006_1)).trans hx17006_1
                                replace hx17006_2 := (HB.out.cell (World.block_lt_of_cell? w _ hx17006_2)).trans hx17006_2
                                replace hx17006_3 := (HB.out.cell (World.block_lt_of_cell? w _ hx17006_3)).trans hx17006_3
                                replace hx17006_4 := (HB.out.cell (World.block_lt_of_cell? w _ hx17006_4)).trans hx17006_4
                                replace p17006 := eq_true p17006
                                replace q17006 := eq_true q17006
                                have p17007 : 0 ≤ ((ji34) : Int) := of_decide_eq_true (by first | (with_reducible assumption) | assumption)
                                have q17007 : (ji34) < (l0.length : Int) := of_decide_eq_true (by first | (with_reducible assumption) | assumption)
                                obtain ⟨ad17007, e17007, hx17007_0, hx17007_1, hx17007_2, hx17007_3, hx17007_4⟩ := at_T44 HR0.out (ji34) p17007 q17007
                                obtain rfl : ad17003 = ad17007 := (by injection e17007)
                                replace hx17007_0 := (HB.out.cell (World.block_lt_of_cell? w _ hx17007_0)).trans hx17007_0
                                replace hx17007_1 := (HB.out.cell (World.block_lt_of_cell? w _ hx17007_1)).trans hx17007_1
                                replace hx17007_2 := (HB.out.cell (World.block_lt_of_cell? w _ hx17007_2)).trans hx17007_2
                                replace hx17007_3 := (HB.out.cell (World.block_lt_of_cell? w _ hx17007_3)).trans hx17007_3
                                replace hx17007_4 := (HB.out.cell (World.block_lt_of_cell? w _ hx17007_4)).trans hx17007_4
                                replace p17007 := eq_true p17007
                                replace q17007 := eq_true q17007
                                go_wp2
                                repeat (go_quiet (fail); try go_wp2)
                                go_ret
                                exact ⟨by first | rfl | (simp [errW_none, errW_some] <;> rfl) | (simp only [← hji34]; first | rfl | (simp [errW_none, errW_some] <;> rfl)) | (simp [*, errW_none, errW_some] <;> rfl), by repeat (first | (with_reducible first | exact HB.out | apply below_alloc | apply pw_below_drewN | apply below_drew1) | exact HB.out)⟩
                              · rw [if_neg c38] at H
                                have c38b0 : decide (((rd_T44 l0 x5_2).f4) < ((rd_T44 l0 (ji34)).f4)) = false := decide_eq_false c38
                                clear c38
                                have H' := Aside0.mk H
                                clear H
                                have p17003 : 0 ≤ (x5_2 : Int) := of_decide_eq_true (by first | (with_reducible assumption) | assumption)
                                have q17003 : x5_2 < (l0.length : Int) := of_decide_eq_true (by first | (with_reducible assumption) | assumption)
                                obtain ⟨ad17003, e17003, hx17003_0, hx17003_1, hx17003_2, hx17003_3, hx17003_4⟩ := at_T44 HR0.out x5_2 p17003 q17003
                                cases e17003
                                replace hx17003_0 := (HB.out.cell (World.block_lt_of_cell? w _ hx17003_0)).trans hx17003_0
                                replace hx17003_1 := (HB.out.cell (World.block_lt_of_cell? w _ hx17003_1)).trans hx17003_1
                                replace hx17003_2 := (HB.out.cell (World.block_lt_of_cell? w _ hx17003_2)).trans hx17003_2
                                replace hx17003_3 := (HB.out.cell (World.block_lt_of_cell? w _ hx17003_3)).trans hx17003_3
                                replace hx17003_4 := (HB.out.cell (World.block_lt_of_cell? w _ hx17003_4)).trans hx17003_4
                                replace p17003 := eq_true p17003
                                replace q17003 := eq_true q17003
                                have p17004 : 0 ≤ (x5_2 : Int) := of_decide_eq_true (by first | (with_reducible assumption) | assumption)
                                have q17004 : x5_2 < (l0.length : Int) := of_decide_eq_true (by first | (with_reducible assumption) | assumption)
                                obtain ⟨ad17004, e17004, hx17004_0, hx17004_1, hx17004_2, hx17004_3, hx17004_4⟩ := at_T44 HR0.out x5_2 p17004 q17004
                                obtain rfl : ad17003 = ad17004 := (by injection e17004)
                                replace hx17004_0 := (HB.out.cell (World.block_lt_of_cell? w _ hx17004_0)).trans hx17004_0
                                replace hx17004_1 := (HB.out.cell (World.block_lt_of_cell? w _ hx17004_1)).trans hx17004_1
                                replace hx17004_2 := (HB.out.cell (World.block_lt_of_cell? w _ hx17004_2)).trans hx17004_2
                                replace hx17004_3 := (HB.out.cell (World.block_lt_of_cell? w _ hx17004_3)).trans hx17004_3
                                replace hx17004_4 := (HB.out.cell (World.block_lt_of_cell? w _ hx17004_4)).trans hx17004_4
                                replace p17004 := eq_true p17004
                                replace q17004 := eq_true q17004
                                have p17005 : 0 ≤ ((ji34) : Int) := of_decide_eq_true (by first | (with_reducible assumption) | assumption)
                                have q17005 : (ji34) < (l0.length : Int) := of_decide_eq_true (by first | (with_reducible assumption) | assumption)
                                obtain ⟨ad17005, e17005, hx17005_0, hx17005_1, hx17005_2, hx17005_3, hx17005_4⟩ := at_T44 HR0.out (ji34) p17005 q17005
                                obtain rfl : ad17003 = ad17005 := (by injection e17005)
                                replace hx17005_0 := (HB.out.cell (World.block_lt_of_cell? w _ hx17005_0)).trans hx17005_0
                                replace hx17005_1 := (HB.out.cell (World.block_lt_of_cell? w _ hx17005_1)).trans hx17005_1
                                replace hx17005_2 := (HB.out.cell (World.block_lt_of_cell? w _ hx17005_2)).trans hx17005_2
                                replace hx17005_3 := (HB.out.cell (World.block_lt_of_cell? w _ hx17005_3)).trans hx17005_3
                                replace hx17005_4 := (HB.out.cell (World.block_lt_of_cell? w _ hx17005_4)).trans hx17005_4
                                replace p17005 := eq_true p17005
                                replace q17005 := eq_true q17005
                                have p17006 : 0 ≤ (x5_2 : Int) := of_decide_eq_true (by first | (with_reducible assumption) | assumption)
                                have q17006 : x5_2 < (l0.length : Int) := of_decide_eq_true (by first | (with_reducible assumption) | assumption)
                                obtain ⟨ad17006, e17006, hx17006_0, hx17006_1, hx17006_2, hx17006_3, hx17006_4⟩ := at_T44 HR0.out x5_2 p17006 q17006
                                obtain rfl : ad17003 = ad17006 := (by injection e17006)
                                replace hx17006_0 := (HB.out.cell (World.block_lt_of_cell? w _ hx17006_0)).trans hx17006_0
                                replace hx17006_1 := (HB.out.cell (World.block_lt_of_cell? w _ hx17006_1)).trans hx17006_1
                                replace hx17006_2 := (HB.out.cell (World.block_lt_of_cell? w _ hx17006_2)).trans hx17006_2
                                replace hx17006_3 := (HB.out.cell (World.block_lt_of_cell? w _ hx17006_3)).trans hx17006_3
                                replace hx17006_4 := (HB.out.cell (World.block_lt_of_cell? w _ hx17006_4)).trans hx17006_4
                                replace p17006 := eq_true p17006
                                replace q17006 := eq_true q17006
                                have p17007 : 0 ≤ ((ji34) : Int) := of_decide_eq_true (by first | (with_reducible assumption) | assumption)
                                have q17007 : (ji34) < (l0.length : Int) := of_decide_eq_true (by first | (with_reducible assumption) | assumption)
                                obtain ⟨ad17007, e17007, hx17007_0, hx17007_1, hx17007_2, hx17007_3, hx17007_4⟩ := at_T44 HR0.out (ji34) p17007 q17007
                                obtain rfl : ad17003 = ad17007 := (by injection e17007)
                                replace hx17007_0 := (HB.out.cell (World.block_lt_of_cell? w _ hx17007_0)).trans hx17007_0
                                replace hx17007_1 := (HB.out.cell (World.block_lt_of_cell? w _ hx17007_1)).trans hx17007_1
                                replace hx17007_2 := (HB.out.cell (World.block_lt_of_cell? w _ hx17007_2)).trans hx17007_2
                                replace hx17007_3 := (HB.out.cell (World.block_lt_of_cell? w _ hx17007_3)).trans hx17007_3
                                replace hx17007_4 := (HB.out.cell (World.block_lt_of_cell? w _ hx17007_4)).trans hx17007_4
                                replace p17007 := eq_true p17007
                                replace q17007 := eq_true q17007
                                go_wp2
                                repeat (go_quiet (fail); try go_wp2)
                                go_roundg k2
                                case measure => have := HK1.out; have := HK2.out; omega
                                case rel => exact ⟨(wrap64 (x5_2 + 1)), (by first | rfl | (simp; done) | (simp [*]; done)), H', ⟨by have := HK1.out; have := HK2.out; omega⟩, ⟨by repeat (first | (with_reducible first | exact HB.out | apply below_alloc | apply pw_below_drewN | apply below_drew1) | exact HB.out)⟩⟩
                            · rw [if_neg c37] at H
                              have c37b0 : (((rd_T44 l0 x5_2).f0) == ((rd_T44 l0 (ji34)).f1)) = false := beq_eq_false_iff_ne.mpr c37
                              have c37b1 : (((rd_T44 l0 x5_2).f0) != ((rd_T44 l0 (ji34)).f1)) = true := bne_iff_ne.mpr c37
                              obtain rfl := Option.some.inj H
                              have p17003 : 0 ≤ (x5_2 : Int) := of_decide_eq_true (by first | (with_reducible assumption) | assumption)
                              have q17003 : x5_2 < (l0.length : Int) := of_decide_eq_true (by first | (with_reducible assumption) | assumption)
                              obtain ⟨ad17003, e17003, hx17003_0, hx17003_1, hx17003_2, hx17003_3, hx17003_4⟩ := at_T44 HR0.out x5_2 p17003 q17003
                              cases e17003
                              replace hx17003_0 := (HB.out.cell (World.block_lt_of_cell? w _ hx17003_0)).trans hx17003_0
                              replace hx17003_1 := (HB.out.cell (World.block_lt_of_cell? w _ hx17003_1)).trans hx17003_1
                              replace hx17003_2 := (HB.out.cell (World.block_lt_of_cell? w _ hx17003_2)).trans hx17003_2
                              replace hx17003_3 := (HB.out.cell (World.block_lt_of_cell? w _ hx17003_3)).trans hx17003_3
                              replace hx17003_4 := (HB.out.cell (World.block_lt_of_cell? w _ hx17003_4)).trans hx17003_4
                              replace p17003 := eq_true p17003
                              replace q17003 := eq_true q17003
                              have p17004 : 0 ≤ (x5_2 : Int) := of_decide_eq_true (by first | (with_reducible assumption) | assumption)
                              have q17004 : x5_2 < (l0.length : Int) := of_decide_eq_true (by first | (with_reducible assumption) | assumption)
                              obtain ⟨ad17004, e17004, hx17004_0, hx17004_1, hx17004_2, hx17004_3, hx17004_4⟩ := at_T44 HR0.out x5_2 p17004 q17004
                              obtain rfl : ad17003 = ad17004 := (by injection e17004)
                              replace hx17004_0 := (HB.out.cell (World.block_lt_of_cell? w _ hx17004_0)).trans hx17004_0
                              replace hx17004_1 := (HB.out.cell (World.block_lt_of_cell? w _ hx17004_1)).trans hx17004_1
                              replace hx17004_2 := (HB.out.cell (World.block_lt_of_cell? w _ hx17004_2)).trans hx17004_2
                              replace hx17004_3 := (HB.out.cell (World.block_lt_of_cell? w _ hx17004_3)).trans hx17004_3
                              replace hx17004_4 := (HB.out.cell (World.block_lt_of_cell? w _ hx17004_4)).trans hx17004_4
                              replace p17004 := eq_true p17004
                              replace q17004 := eq_true q17004
                              have p17005 : 0 ≤ ((ji34) : Int) := of_decide_eq_true (by first | (with_reducible assumption) | assumption)
                              have q17005 : (ji34) < (l0.length : Int) := of_decide_eq_true (by first | (with_reducible assumption) | assumption)
                              obtain ⟨ad17005, e17005, hx17005_0, hx17005_1, hx17005_2, hx17005_3, hx17005_4⟩ := at_T44 HR0.out (ji34) p17005 q17005
                              obtain rfl : ad17003 = ad17005 := (by injection e17005)
                              replace hx17005_0 := (HB.out.cell (World.block_lt_of_cell? w _ hx17005_0)).trans hx17005_0
                              replace hx17005_1 := (HB.out.cell (World.block_lt_of_cell? w _ hx17005_1)).trans hx17005_1
                              replace hx17005_2 := (HB.out.cell (World.block_lt_of_cell? w _ hx17005_2)).trans hx17005_2
                              replace hx17005_3 := (HB.out.cell (World.block_lt_of_cell? w _ hx17005_3)).trans hx17005_3
                              replace hx17005_4 := (HB.out.cell (World.block_lt_of_cell? w _ hx17005_4)).trans hx17005_4
                              replace p17005 := eq_true p17005
                              replace q17005 := eq_true q17005
                              go_wp2
                              repeat (go_quiet (fail); try go_wp2)
                              go_ret
                              exact ⟨by first | rfl | (simp [errW_none, errW_some] <;> rfl) | (simp only [← hji34]; first | rfl | (simp [errW_none, errW_some] <;> rfl)) | (simp [*, errW_none, errW_some] <;> rfl), by repeat (first | (with_reducible first | exact HB.out | apply below_alloc | apply pw_below_drewN | apply below_drew1) | exact HB.out)⟩
                          · rw [if_neg c36] at H
                            exact absurd H (by simp)
                        · rw [if_neg c35] at H
                          exact absurd H (by simp)
                      · rw [if_neg c33] at H
                        have c33b0 : decide (0 < x5_2) = false := decide_eq_false c33
                        clear c33
                        have H' := Aside0.mk H
                        clear H
                        have p17003 : 0 ≤ (x5_2 : Int) := of_decide_eq_true (by first | (with_reducible assumption) | assumption)
                        have q17003 : x5_2 < (l0.length : Int) := of_decide_eq_true (by first | (with_reducible assumption) | assumption)
                        obtain ⟨ad17003, e17003, hx17003_0, hx17003_1, hx17003_2, hx17003_3, hx17003_4⟩ := at_T44 HR0.out x5_2 p17003 q17003
                        cases e17003
                        replace hx17003_0 := (HB.out.cell (World.block_lt_of_cell? w _ hx17003_0)).trans hx17003_0
                        replace hx17003_1 := (HB.out.cell (World.block_lt_of_cell? w _ hx17003_1)).trans hx17003_1
                        replace hx17003_2 := (HB.out.cell (World.block_lt_of_cell? w _ hx17003_2)).trans hx17003_2
                        replace hx17003_3 := (HB.out.cell (World.block_lt_of_cell? w _ hx17003_3)).trans hx17003_3
                        replace hx17003_4 := (HB.out.cell (World.block_lt_of_cell? w _ hx17003_4)).trans hx17003_4
                        replace p17003 := eq_true p17003
                        replace q17003 := eq_true q17003
                        go_wp2
                        repeat (go_quiet (fail); try go_wp2)
                        go_roundg k2
                        case measure => have := HK1.out; have := HK2.out; omega
                        case rel => exact ⟨(wrap64 (x5_2 + 1)), (by first | rfl | (simp; done) | (simp [*]; done)), H', ⟨by have := HK1.out; have := HK2.out; omega⟩, ⟨by repeat (first | (with_reducible first | exact HB.out | apply below_alloc | apply pw_below_drewN | apply below_drew1) | exact HB.out)⟩⟩
                    · rw [if_neg c32] at H
                      have c32b0 : (((rd_T44 l0 x5_2).f0) == 0) = false := beq_eq_false_iff_ne.mpr c32
                      have c32b1 : (((rd_T44 l0 x5_2).f0) != 0) = true := bne_iff_ne.mpr c32
                      obtain rfl := Option.some.inj H
                      have p17003 : 0 ≤ (x5_2 : Int) := of_decide_eq_true (by first | (with_reducible assumption) | assumption)
                      have q17003 : x5_2 < (l0.length : Int) := of_decide_eq_true (by first | (with_reducible assumption) | assumption)
                      obtain ⟨ad17003, e17003, hx17003_0, hx17003_1, hx17003_2, hx17003_3, hx17003_4⟩ := at_T44 HR0.out x5_2 p17003 q17003
                      cases e17003
                      replace hx17003_0 := (HB.out.cell (World.block_lt_of_cell? w _ hx17003_0)).trans hx17003_0
                      replace hx17003_1 := (HB.out.cell (World.block_lt_of_cell? w _ hx17003_1)).trans hx17003_1
                      replace hx17003_2 := (HB.out.cell (World.block_lt_of_cell? w _ hx17003_2)).trans hx17003_2
                      replace hx17003_3 := (HB.out.cell (World.block_lt_of_cell? w _ hx17003_3)).trans hx17003_3
                      replace hx17003_4 := (HB.out.cell (World.block_lt_of_cell? w _ hx17003_4)).trans hx17003_4
                      replace p17003 := eq_true p17003
                      replace q17003 := eq_true q17003
                      go_wp2
                      repeat (go_quiet (fail); try go_wp2)
                      go_ret
                      exact ⟨by first | rfl | (simp [errW_none, errW_some] <;> rfl) | (simp [*, errW_none, errW_some] <;> rfl), by repeat (first | (with_reducible first | exact HB.out | apply below_alloc | apply pw_below_drewN | apply below_drew1) | exact HB.out)⟩
                  · rw [if_neg c31] at H
                    exact absurd H (by simp)
                · rw [if_neg c30] at H
                  have c30b0 : (x5_2 == 0) = false := beq_eq_false_iff_ne.mpr c30
                  have c30b1 : (x5_2 != 0) = true := bne_iff_ne.mpr c30
                  by_cases c39 : x5_2 > 0
                  · rw [if_pos c39] at H
                    have c39b0 : decide (0 < x5_2) = true := decide_eq_true c39
                    clear c39
                    by_cases c40 : 0 ≤ x5_2
                    · rw [if_pos c40] at H
                      have c40b0 : decide (0 ≤ x5_2) = true := decide_eq_true c40
                      clear c40
                      obtain ⟨ji41, hji41⟩ : ∃ j_ : Int, (wrap64 (x5_2 - 1)) = j_ := ⟨_, rfl⟩
                      replace H : (if 0 ≤ (ji41) then (if (ji41) < (l0.length : Int) then (if ((rd_T44 l0 x5_2).f0) = ((rd_T44 l0 (ji41)).f1) then (if ((rd_T44 l0 x5_2).f4) < ((rd_T44 l0 (ji41)).f4) then (some 9) else (papermillref34_Check.l1 k2 l0 (wrap64 (x5_2 + 1)))) else (some 9)) else (none)) else (none)) = some r := by first | (rw [hji41] at H; exact H) | (simp only [hji41] at H ⊢; exact H)
                      have hji41w : (IntKind.i64.wrap (x5_2 - 1)) = ji41 := (i64_w _).trans hji41
                      by_cases c42 : 0 ≤ (ji41)
                      · rw [if_pos c42] at H
                        have c42b0 : decide (0 ≤ (ji41)) = true := decide_eq_true c42
                        clear c42
                        by_cases c43 : (ji41) < (l0.length : Int)
                        · rw [if_pos c43] at H
                          have c43b0 : decide ((ji41) < (l0.length : Int)) = true := decide_eq_true c43
                          clear c43
                          by_cases c44 : ((rd_T44 l0 x5_2).f0) = ((rd_T44 l0 (ji41)).f1)
                          · rw [if_pos c44] at H
                            have c44b0 : (((rd_T44 l0 x5_2).f0) == ((rd_T44 l0 (ji41)).f1)) = true := beq_iff_eq.mpr c44
                            have c44b1 : (((rd_T44 l0 x5_2).f0) != ((rd_T44 l0 (ji41)).f1)) = false := bne_eq_false_iff_eq.mpr c44
                            clear c44
                            by_cases c45 : ((rd_T44 l0 x5_2).f4) < ((rd_T44 l0 (ji41)).f4)
                            · rw [if_pos c45] at H
                              have c45b0 : decide (((rd_T44 l0 x5_2).f4) < ((rd_T44 l0 (ji41)).f4)) = true := decide_eq_true c45
                              clear c45
                              obtain rfl := Option.some.inj H
                              have p17008 : 0 ≤ (x5_2 : Int) := of_decide_eq_true (by first | (with_reducible assumption) | assumption)
                              have q17008 : x5_2 < (l0.length : Int) := of_decide_eq_true (by first | (with_reducible assumption) | assumption)
                              obtain ⟨ad17008, e17008, hx17008_0, hx17008_1, hx17008_2, hx17008_3, hx17008_4⟩ := at_T44 HR0.out x5_2 p17008 q17008
                              cases e17008
                              replace hx17008_0 := (HB.out.cell (World.block_lt_of_cell? w _ hx17008_0)).trans hx17008_0
                              replace hx17008_1 := (HB.out.cell (World.block_lt_of_cell? w _ hx17008_1)).trans hx17008_1
                              replace hx17008_2 := (HB.out.cell (World.block_lt_of_cell? w _ hx17008_2)).trans hx17008_2
                              replace hx17008_3 := (HB.out.cell (World.block_lt_of_cell? w _ hx17008_3)).trans hx17008_3
                              replace hx17008_4 := (HB.out.cell (World.block_lt_of_cell? w _ hx17008_4)).trans hx17008_4
                              replace p17008 := eq_true p17008
                              replace q17008 := eq_true q17008
                              have p17009 : 0 ≤ ((ji41) : Int) := of_decide_eq_true (by first | (with_reducible assumption) | assumption)
                              have q17009 : (ji41) < (l0.length : Int) := of_decide_eq_true (by first | (with_reducible assumption) | assumption)
                              obtain ⟨ad17009, e17009, hx17009_0, hx17009_1, hx17009_2, hx17009_3, hx17009_4⟩ := at_T44 HR0.out (ji41) p17009 q17009
                              obtain rfl : ad17008 = ad17009 := (by injection e17009)
                              replace hx17009_0 := (HB.out.cell (World.block_lt_of_cell? w _ hx17009_0)).trans hx17009_0
                              replace hx17009_1 := (HB.out.cell (World.block_lt_of_cell? w _ hx17009_1)).trans hx17009_1
                              replace hx17009_2 := (HB.out.cell (World.block_lt_of_cell? w _ hx17009_2)).trans hx17009_2
                              replace hx17009_3 := (HB.out.cell (World.block_lt_of_cell? w _ hx17009_3)).trans hx17009_3
                              replace hx17009_4 := (HB.out.cell (World.block_lt_of_cell? w _ hx17009_4)).trans hx17009_4
                              replace p17009 := eq_true p17009
                              replace q17009 := eq_true q17009
                              have p17010 : 0 ≤ (x5_2 : Int) := of_decide_eq_true (by first | (with_reducible assumption) | assumption)
                              have q17010 : x5_2 < (l0.length : Int) := of_decide_eq_true (by first | (with_reducible assumption) | assumption)
                              obtain ⟨ad17010, e17010, hx17010_0, hx17010_1, hx17010_2, hx17010_3, hx17010_4⟩ := at_T44 HR0.out x5_2 p17010 q17010
                              obtain rfl : ad17008 = ad17010 := (by injection e17010)
                              replace hx17010_0 := (HB.out.cell (World.block_lt_of_cell? w _ hx17010_0)).trans hx17010_0
                              replace hx17010_1 := (HB.out.cell (World.block_lt_of_cell? w _ hx17010_1)).trans hx17010_1
                              replace hx17010_2 := (HB.out.cell (World.block_lt_of_cell? w _ hx17010_2)).trans hx17010_2
                              replace hx17010_3 := (HB.out.cell (World.block_lt_of_cell? w _ hx17010_3)).trans hx17010_3
                              replace hx17010_4 := (HB.out.cell (World.block_lt_of_cell? w _ hx17010_4)).trans hx17010_4
                              replace p17010 := eq_true p17010
                              replace q17010 := eq_true q17010
                              have p17011 : 0 ≤ ((ji41) : Int) := of_decide_eq_true (by first | (with_reducible assumption) | assumption)
                              have q17011 : (ji41) < (l0.length : Int) := of_decide_eq_true (by first | (with_reducible assumption) | assumption)
                              obtain ⟨ad17011, e17011, hx17011_0, hx17011_1, hx17011_2, hx17011_3, hx17011_4⟩ := at_T44 HR0.out (ji41) p17011 q17011
                              obtain rfl : ad17008 = ad17011 := (by injection e17011)
                              replace hx17011_0 := (HB.out.cell (World.block_lt_of_cell? w _ hx17011_0)).trans hx17011_0
                              replace hx17011_1 := (HB.out.cell (World.block_lt_of_cell? w _ hx17011_1)).trans hx17011_1
                              replace hx17011_2 := (HB.out.cell (World.block_lt_of_cell? w _ hx17011_2)).trans hx17011_2
                              replace hx17011_3 := (HB.out.cell (World.block_lt_of_cell? w _ hx17011_3)).trans hx17011_3
                              replace hx17011_4 := (HB.out.cell (World.block_lt_of_cell? w _ hx17011_4)).trans hx17011_4
                              replace p17011 := eq_true p17011
                              replace q17011 := eq_true q17011
                              go_wp2
                              repeat (go_quiet (fail); try go_wp2)
                              go_ret
                              exact ⟨by first | rfl | (simp [errW_none, errW_some] <;> rfl) | (simp only [← hji41]; first | rfl | (simp [errW_none, errW_some] <;> rfl)) | (simp [*, errW_none, errW_some] <;> rfl), by repeat (first | (with_reducible first | exact HB.out | apply below_alloc | apply pw_below_drewN | apply below_drew1) | exact HB.out)⟩
                            · rw [if_neg c45] at H
                              have c45b0 : decide (((rd_T44 l0 x5_2).f4) < ((rd_T44 l0 (ji41)).f4)) = false := decide_eq_false c45
                              clear c45
                              have H' := Aside0.mk H
                              clear H
                              have p17008 : 0 ≤ (x5_2 : Int) := of_decide_eq_true (by first | (with_reducible assumption) | assumption)
                              have q17008 : x5_2 < (l0.length : Int) := of_decide_eq_true (by first | (with_reducible assumption) | assumption)
                              obtain ⟨ad17008, e17008, hx17008_0, hx17008_1, hx17008_2, hx17008_3, hx17008_4⟩ := at_T44 HR0.out x5_2 p17008 q17008
                              cases e17008
                              replace hx17008_0 := (HB.out.cell (World.block_lt_of_cell? w _ hx17008_0)).trans hx17008_0
                              replace hx17008_1 := (HB.out.cell (World.block_lt_of_cell? w _ hx17008_1)).trans hx17008_1
                              replace hx17008_2 := (HB.out.cell (World.block_lt_of_cell? w _ hx17008_2)).trans hx17008_2
                              replace hx17008_3 := (HB.out.cell (World.block_lt_of_cell? w _ hx17008_3)).trans hx17008_3
                              replace hx17008_4 := (HB.out.cell (World.block_lt_of_cell? w _ hx17008_4)).trans hx17008_4
                              replace p17008 := eq_true p17008
                              replace q17008 := eq_true q17008
                              have p17009 : 0 ≤ ((ji41) : Int) := of_decide_eq_true (by first | (with_reducible assumption) | assumption)
                              have q17009 : (ji41) < (l0.length : Int) := of_decide_eq_true (by first | (with_reducible assumption) | assumption)
                              obtain ⟨ad17009, e17009, hx17009_0, hx17009_1, hx17009_2, hx17009_3, hx17009_4⟩ := at_T44 HR0.out (ji41) p17009 q17009
                              obtain rfl : ad17008 = ad17009 := (by injection e17009)
                              replace hx17009_0 := (HB.out.cell (World.block_lt_of_cell? w _ hx17009_0)).trans hx17009_0
                              replace hx17009_1 := (HB.out.cell (World.block_lt_of_cell? w _ hx17009_1)).trans hx17009_1
                              replace hx17009_2 := (HB.out.cell (World.block_lt_of_cell? w _ hx17009_2)).trans hx17009_2
                              replace hx17009_3 := (HB.out.cell (World.block_lt_of_cell? w _ hx17009_3)).trans hx17009_3
                              replace hx17009_4 := (HB.out.cell (World.block_lt_of_cell? w _ hx17009_4)).trans hx17009_4
                              replace p17009 := eq_true p17009
                              replace q17009 := eq_true q17009
                              have p17010 : 0 ≤ (x5_2 : Int) := of_decide_eq_true (by first | (with_reducible assumption) | assumption)
                              have q17010 : x5_2 < (l0.length : Int) := of_decide_eq_true (by first | (with_reducible assumption) | assumption)
                              obtain ⟨ad17010, e17010, hx17010_0, hx17010_1, hx17010_2, hx17010_3, hx17010_4⟩ := at_T44 HR0.out x5_2 p17010 q17010
                              obtain rfl : ad17008 = ad17010 := (by injection e17010)
                              replace hx17010_0 := (HB.out.cell (World.block_lt_of_cell? w _ hx17010_0)).trans hx17010_0
                              replace hx17010_1 := (HB.out.cell (World.block_lt_of_cell? w _ hx17010_1)).trans hx17010_1
                              replace hx17010_2 := (HB.out.cell (World.block_lt_of_cell? w _ hx17010_2)).trans hx17010_2
                              replace hx17010_3 := (HB.out.cell (World.block_lt_of_cell? w _ hx17010_3)).trans hx17010_3
                              replace hx17010_4 := (HB.out.cell (World.block_lt_of_cell? w _ hx17010_4)).trans hx17010_4
                              replace p17010 := eq_true p17010
                              replace q17010 := eq_true q17010
                              have p17011 : 0 ≤ ((ji41) : Int) := of_decide_eq_true (by first | (with_reducible assumption) | assumption)
                              have q17011 : (ji41) < (l0.length : Int) := of_decide_eq_true (by first | (with_reducible assumption) | assumption)
                              obtain ⟨ad17011, e17011, hx17011_0, hx17011_1, hx17011_2, hx17011_3, hx17011_4⟩ := at_T44 HR0.out (ji41) p17011 q17011
                              obtain rfl : ad17008 = ad17011 := (by injection e17011)
                              replace hx17011_0 := (HB.out.cell (World.block_lt_of_cell? w _ hx17011_0)).trans hx17011_0
                              replace hx17011_1 := (HB.out.cell (World.block_lt_of_cell? w _ hx17011_1)).trans hx17011_1
                              replace hx17011_2 := (HB.out.cell (World.block_lt_of_cell? w _ hx17011_2)).trans hx17011_2
                              replace hx17011_3 := (HB.out.cell (World.block_lt_of_cell? w _ hx17011_3)).trans hx17011_3
                              replace hx17011_4 := (HB.out.cell (World.block_lt_of_cell? w _ hx17011_4)).trans hx17011_4
                              replace p17011 := eq_true p17011
                              replace q17011 := eq_true q17011
                              go_wp2
                              repeat (go_quiet (fail); try go_wp2)
                              go_roundg k2
                              case measure => have := HK1.out; have := HK2.out; omega
                              case rel => exact ⟨(wrap64 (x5_2 + 1)), (by first | rfl | (simp; done) | (simp [*]; done)), H', ⟨by have := HK1.out; have := HK2.out; omega⟩, ⟨by repeat (first | (with_reducible first | exact HB.out | apply below_alloc | apply pw_below_drewN | apply below_drew1) | exact HB.out)⟩⟩
                          · rw [if_neg c44] at H
                            have c44b0 : (((rd_T44 l0 x5_2).f0) == ((rd_T44 l0 (ji41)).f1)) = false := beq_eq_false_iff_ne.mpr c44
                            have c44b1 : (((rd_T44 l0 x5_2).f0) != ((rd_T44 l0 (ji41)).f1)) = true := bne_iff_ne.mpr c44
                            obtain rfl := Option.some.inj H
                            have p17008 : 0 ≤ (x5_2 : Int) := of_decide_eq_true (by first | (with_reducible assumption) | assumption)
                            have q17008 : x5_2 < (l0.length : Int) := of_decide_eq_true (by first | (with_reducible assumption) | assumption)
                            obtain ⟨ad17008, e17008, hx17008_0, hx17008_1, hx17008_2, hx17008_3, hx17008_4⟩ := at_T44 HR0.out x5_2 p17008 q17008
                            cases e17008
                            replace hx17008_0 := (HB.out.cell (World.block_lt_of_cell? w _ hx17008_0)).trans hx17008_0
                            replace hx17008_1 := (HB.out.cell (World.block_lt_of_cell? w _ hx17008_1)).trans hx17008_1
                            replace hx17008_2 := (HB.out.cell (World.block_lt_of_cell? w _ hx17008_2)).trans hx17008_2
                            replace hx17008_3 := (HB.out.cell (World.block_lt_of_cell? w _ hx17008_3)).trans hx17008_3
                            replace hx17008_4 := (HB.out.cell (World.block_lt_of_cell? w _ hx17008_4)).trans hx17008_4
                            replace p17008 := eq_true p17008
                            replace q17008 := eq_true q17008
                            have p17009 : 0 ≤ ((ji41) : Int) := of_decide_eq_true (by first | (with_reducible assumption) | assumption)
                            have q17009 : (ji41) < (l0.length : Int) := of_decide_eq_true (by first | (with_reducible assumption) | assumption)
                            obtain ⟨ad17009, e17009, hx17009_0, hx17009_1, hx17009_2, hx17009_3, hx17009_4⟩ := at_T44 HR0.out (ji41) p17009 q17009
                            obtain rfl : ad17008 = ad17009 := (by injection e17009)
                            replace hx17009_0 := (HB.out.cell (World.block_lt_of_cell? w _ hx17009_0)).trans hx17009_0
                            replace hx17009_1 := (HB.out.cell (World.block_lt_of_cell? w _ hx17009_1)).trans hx17009_1
                            replace hx17009_2 := (HB.out.cell (World.block_lt_of_cell? w _ hx17009_2)).trans hx17009_2
                            replace hx17009_3 := (HB.out.cell (World.block_lt_of_cell? w _ hx17009_3)).trans hx17009_3
                            replace hx17009_4 := (HB.out.cell (World.block_lt_of_cell? w _ hx17009_4)).trans hx17009_4
                            replace p17009 := eq_true p17009
                            replace q17009 := eq_true q17009
                            go_wp2
                            repeat (go_quiet (fail); try go_wp2)
                            go_ret
                            exact ⟨by first | rfl | (simp [errW_none, errW_some] <;> rfl) | (simp only [← hji41]; first | rfl | (simp [errW_none, errW_some] <;> rfl)) | (simp [*, errW_none, errW_some] <;> rfl), by repeat (first | (with_reducible first | exact HB.out | apply below_alloc | apply pw_below_drewN | apply below_drew1) | exact HB.out)⟩
                        · rw [if_neg c43] at H
                          exact absurd H (by simp)
                      · rw [if_neg c42] at H
                        exact absurd H (by simp)
                    · rw [if_neg c40] at H
                      exact absurd H (by simp)
                  · rw [if_neg c39] at H
                    have c39b0 : decide (0 < x5_2) = false := decide_eq_false c39
                    clear c39
                    have H' := Aside0.mk H
                    clear H
                    go_wp2
                    repeat (go_quiet (fail); try go_wp2)
                    go_roundg k2
                    case measure => have := HK1.out; have := HK2.out; omega
                    case rel => exact ⟨(wrap64 (x5_2 + 1)), (by first | rfl | (simp; done) | (simp [*]; done)), H', ⟨by have := HK1.out; have := HK2.out; omega⟩, ⟨by repeat (first | (with_reducible first | exact HB.out | apply below_alloc | apply pw_below_drewN | apply below_drew1) | exact HB.out)⟩⟩
              · rw [if_neg c29] at H
                have c29b0 : decide (x5_2 < (l0.length : Int)) = false := decide_eq_false c29
                clear c29
                obtain rfl := Option.some.inj H
                go_wp2
                repeat (go_quiet (fail); try go_wp2)
                go_ret
                exact ⟨by first | rfl | (simp [errW_none, errW_some] <;> rfl) | (simp [*, errW_none, errW_some] <;> rfl), by repeat (first | (with_reducible first | exact HB.out | apply below_alloc | apply pw_below_drewN | apply below_drew1) | exact HB.out)⟩

end Go.Proofs.Ytfdfpdiemeomiaa.G
