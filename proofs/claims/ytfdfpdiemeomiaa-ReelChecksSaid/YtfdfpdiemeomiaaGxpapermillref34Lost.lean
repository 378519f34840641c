-- Printed by drive.py, this session's program over the kit's print.py. Not trusted: Lean checks it.
import Derived.Test.YtfdfpdiemeomiaaGx0
import Derived.Test.YtfdfpdiemeomiaaGxpapermillref34Check
import Derived.Test.YtfdfpdiemeomiaaGxpapermillref04Norm
namespace Go.Proofs.Ytfdfpdiemeomiaa.G
open Go.RowKit Go.Proofs.YtfdfpdiemeomiaaW.PrintWords Go.Proofs.YtfdfpdiemeomiaaW.PrintLast Go.Proofs.YtfdfpdiemeomiaaW.PrintMore
attribute [local go_sem] max2_int min2_int max_two min_two max_three min_three max_four min_four   -- for this text's walks alone
set_option linter.unusedVariables false
set_option linter.unusedSimpArgs false

/-! ### papermillref34_Lost: function 14 -/
mutual
def papermillref34_Lost.l0 : Nat → List (S44) → List (S36) → Int → Option ((List (S36)) × Int)
  | 0, _, _, _ => none
  | k + 1, x0, x5, x6 => if x6 < (x0.length : Int) then (if 0 ≤ x6 then (if ((rd_T44 x0 x6).f2) = 3 then (if (wrap64 ((x5.length : Int) - 1)) ≥ 0 then (if 0 ≤ (wrap64 ((x5.length : Int) - 1)) then (if (wrap64 ((x5.length : Int) - 1)) < (x5.length : Int) then (papermillref34_Lost.j1 k x0 x5 x6 (wrap64 ((x5.length : Int) - 1)) (((rd_T36 x5 (wrap64 ((x5.length : Int) - 1))).f1) == ((rd_T44 x0 x6).f0))) else (none)) else (none)) else (papermillref34_Lost.j1 k x0 x5 x6 (wrap64 ((x5.length : Int) - 1)) false)) else (papermillref34_Lost.j1 k x0 x5 x6 (wrap64 ((x5.length : Int) - 1)) false)) else (none)) else ((papermillref04_Norm.f k x5).bind fun bt15002 => (some (bt15002.1, bt15002.2)))
def papermillref34_Lost.j1 : Nat → List (S44) → List (S36) → Int → Int → Bool → Option ((List (S36)) × Int)
  | 0, _, _, _, _, _ => none
  | k + 1, x0, x5, x6, x7, x44 => if x44 = true then (if 0 ≤ x6 then (if x6 < (x0.length : Int) then (if 0 ≤ x7 then (if x7 < (x5.length : Int) then (papermillref34_Lost.l0 k x0 (x5.set (x7 : Int).toNat (⟨(rd_T36 x5 x7).f0, (rd_T44 x0 x6).f1⟩ : S36)) (wrap64 (x6 + 1))) else (none)) else (none)) else (none)) else (none)) else (if 0 ≤ x6 then (if x6 < (x0.length : Int) then (if ((rd_T44 x0 x6).f2) = 3 then (if x5.length < 8796093022208 then (papermillref34_Lost.l0 k x0 (x5 ++ [(⟨(rd_T44 x0 x6).f0, (rd_T44 x0 x6).f1⟩ : S36)]) (wrap64 (x6 + 1))) else (none)) else (papermillref34_Lost.l0 k x0 x5 (wrap64 (x6 + 1)))) else (none)) else (none))
end
def papermillref34_Lost.f (k : Nat) (l0 : List (S44)) : Option ((List (S36)) × Int) := (papermillref34_Check.f k l0).bind fun t15001 => (if t15001 = 0 then (papermillref34_Lost.l0 k l0 ([] : List (S36)) 0) else (some (([] : List (S36)), t15001)))
theorem papermillref34_Lost.mono_l : ∀ k, (∀ y0 y1 y2, LeO (papermillref34_Lost.l0 k y0 y1 y2) (papermillref34_Lost.l0 (k + 1) y0 y1 y2)) ∧ (∀ y0 y1 y2 y3 y4, LeO (papermillref34_Lost.j1 k y0 y1 y2 y3 y4) (papermillref34_Lost.j1 (k + 1) y0 y1 y2 y3 y4))
  | 0 => ⟨fun _ _ _ r h => by simp [papermillref34_Lost.l0] at h, fun _ _ _ _ _ r h => by simp [papermillref34_Lost.j1] at h⟩
  | k + 1 => by
    obtain ⟨ih0, ih1⟩ := papermillref34_Lost.mono_l k
    refine ⟨?_, ?_⟩
    · intro y0 y1 y2
      unfold papermillref34_Lost.l0
      repeat' first
      | (with_reducible exact ih0 _ _ _)
      | (with_reducible exact ih1 _ _ _ _ _)
      | (with_reducible exact papermillref04_Norm.mono _ _)
      | (with_reducible exact papermillref34_Check.mono _ _)
      | (with_reducible exact LeO.refl _)
      | (with_reducible exact LeO.none _)
      | (with_reducible refine LeO.ite ?_ ?_)
      | (with_reducible refine LeO.bind ?_ (fun _ => ?_))
      | exact ih0 _ _ _
      | exact ih1 _ _ _ _ _
      | exact papermillref04_Norm.mono _ _
      | exact papermillref34_Check.mono _ _
      | exact LeO.none _
      | refine LeO.ite ?_ ?_
      | refine LeO.bind ?_ (fun _ => ?_)
    · intro y0 y1 y2 y3 y4
      unfold papermillref34_Lost.j1
      repeat' first
      | (with_reducible exact ih0 _ _ _)
      | (with_reducible exact ih1 _ _ _ _ _)
      | (with_reducible exact papermillref04_Norm.mono _ _)
      | (with_reducible exact papermillref34_Check.mono _ _)
      | (with_reducible exact LeO.refl _)
      | (with_reducible exact LeO.none _)
      | (with_reducible refine LeO.ite ?_ ?_)
      | (with_reducible refine LeO.bind ?_ (fun _ => ?_))
      | exact ih0 _ _ _
      | exact ih1 _ _ _ _ _
      | exact papermillref04_Norm.mono _ _
      | exact papermillref34_Check.mono _ _
      | exact LeO.none _
      | refine LeO.ite ?_ ?_
      | refine LeO.bind ?_ (fun _ => ?_)
theorem papermillref34_Lost.mono : ∀ a0 k, LeO (papermillref34_Lost.f k a0) (papermillref34_Lost.f (k + 1) a0) := by
  intro a0 k
  obtain ⟨ih0, ih1⟩ := papermillref34_Lost.mono_l k
  unfold papermillref34_Lost.f
  repeat' first
      | (with_reducible exact ih0 _ _ _)
      | (with_reducible exact ih1 _ _ _ _ _)
      | (with_reducible exact papermillref04_Norm.mono _ _)
      | (with_reducible exact papermillref34_Check.mono _ _)
      | (with_reducible exact LeO.refl _)
      | (with_reducible exact LeO.none _)
      | (with_reducible refine LeO.ite ?_ ?_)
      | (with_reducible refine LeO.bind ?_ (fun _ => ?_))
      | exact ih0 _ _ _
      | exact ih1 _ _ _ _ _
      | exact papermillref04_Norm.mono _ _
      | exact papermillref34_Check.mono _ _
      | exact LeO.none _
      | refine LeO.ite ?_ ?_
      | refine LeO.bind ?_ (fun _ => ?_)
def papermillref34_Lost.T9 : Bool × List (List Nat × List Nat) := (true, [([], []), ([], []), ([0, 1], [0, 1]), ([2], [2]), ([3], [3]), ([4], [4]), ([5], [5]), ([6], [6]), ([7, 6], [6, 7]), ([6, 8], [6, 8]), ([9, 6], [9]), ([10], [10]), ([10], [10]), ([11, 12, 10], [10, 11, 12]), ([13, 10], [10, 13]), ([14, 10], [10, 14]), ([10], [10]), ([10], [10]), ([16, 17, 10], [10, 16, 17]), ([18, 10], [10, 18]), ([19, 10], [10, 19]), ([15, 20, 10], [10, 15, 20]), ([10, 21], [10, 21])])
def papermillref34_Lost.B9 : List Nat := [0, 0, 3, 7, 15, 31, 63, 127, 255, 511, 1023, 2047, 2047, 8191, 16383, 32767, 2047, 2047, 198655, 460799, 985087, 2097151, 4194303]
theorem papermillref34_Lost.tab9 : rtab .any (opsOf Try.f14 9) = papermillref34_Lost.T9 := by kernel_rfl
theorem papermillref34_Lost.bits9 : waitsOk papermillref34_Lost.T9.2 papermillref34_Lost.B9 = true := by kernel_rfl
def papermillref34_Lost.T12 : Bool × List (List Nat × List Nat) := (true, [([], []), ([], []), ([], []), ([1, 2], [1, 2]), ([3], [3]), ([4], [4]), ([], []), ([], []), ([6, 7], [6, 7]), ([8], [8]), ([9], [9]), ([5, 10], [5, 10]), ([11], [11]), ([0, 12], [0, 12]), ([13, 13, 0, 1, 2, 3, 4, 5, 6, 7, 8, 9, 10, 11, 12, 13], [0, 13])])
def papermillref34_Lost.B12 : List Nat := [0, 0, 0, 6, 14, 30, 0, 0, 192, 448, 960, 2046, 4094, 8191, 16383]
theorem papermillref34_Lost.tab12 : rtab .any (opsOf Try.f14 12) = papermillref34_Lost.T12 := by kernel_rfl
theorem papermillref34_Lost.bits12 : waitsOk papermillref34_Lost.T12.2 papermillref34_Lost.B12 = true := by kernel_rfl
set_option maxHeartbeats 8000000 in
set_option maxRecDepth 100000 in
theorem papermillref34_Lost.calls (k : Nat) (A0 : Option Addr) (c0 : Nat) (l0 : List (S44)) (r1 : List (S36)) (r2 : Int) (w : World) (hr0 : Kd.C k44 w A0 l0.length l0) (hc0 : l0.length ≤ c0) (h : papermillref34_Lost.f k l0 = some (r1, r2)) :
    Calls Try.prog 14 #[.slice A0 l0.length c0] w fun e w' => ∃ v0_ : Value, e = .returned (.tuple #[v0_, .int .i64 r2]) ∧ Kd.R k36 36 w' w.heap.size (fun _ => True) v0_ r1 ∧ Below w.heap.size w w' := by
  have hu36 := Try.underlying36
  have HR0 := Aside0.mk hr0
  have HC0 := Aside0.mk hc0
  clear hr0 hc0
  have HB := Aside0.mk (Below.refl w.heap.size w)
  have H : ((papermillref34_Check.f k l0).bind fun t15001 => (if t15001 = 0 then (papermillref34_Lost.l0 k l0 ([] : List (S36)) 0) else (some (([] : List (S36)), t15001)))) = some (r1, r2) := h
  clear h
  replace H := Option.bind_eq_some_iff.mp H
  obtain ⟨t15001, A20, H⟩ := H
  replace H : (if t15001 = 0 then (papermillref34_Lost.l0 k l0 ([] : List (S36)) 0) else (some (([] : List (S36)), t15001))) = some (r1, r2) := H
  have A2 := Aside0.mk A20
  clear A20
  by_cases c3 : t15001 = 0
  · rw [if_pos c3] at H
    have c3b0 : (t15001 == 0) = true := beq_iff_eq.mpr c3
    have c3b1 : (t15001 != 0) = false := bne_eq_false_iff_eq.mpr c3
    clear c3
    have H' := Aside0.mk H
    clear H
    go_enter Try.func14, Try.ntmps14
    go_wp2_with (first | ((with_reducible refine gate_callee (f := 16) rfl ?_); refine goesL_ (some 9) rfl rfl Try.func16 (by kernel_rfl) rfl #[.slice A0 l0.length c0] rfl (by (try simp only [List.map_toArray, List.map_cons, List.map_nil]); first | done | rfl | (simp only [List.length_drop, List.length_take]; rfl)) ?_; (with_reducible refine (papermillref34_Check.calls k _ _ l0 t15001 _ ?side1 ?side2 A2.out).mono ?_); (case side1 => repeat (first | exact HR0.out | (with_reducible refine Kd.C_alloc ?_ _) | (with_reducible refine Kd.C_drewN ?_ _) | (with_reducible refine Kd.C_drew ?_))); (case side2 => exact HC0.out); rintro e w4 ⟨rfl, hb⟩; refine ⟨_, rfl, ?_⟩; have n0_ := Aside0.mk (below_step (by repeat (first | (with_reducible first | exact HB.out | apply below_alloc | apply pw_below_drewN | apply below_drew1) | exact HB.out)) hb); clear HB; have HB := n0_; clear n0_; (try clear hb); (try clear hb2); (try clear hk); (try clear hi)))
    go_loopg [5, 6] k (fun kq v5 v6 w' => ∃ (x5_1 : List (S36)) (x6_1 : Int), v6 = .int .i64 x6_1 ∧ Aside0 (papermillref34_Lost.l0 kq l0 x5_1 x6_1 = some (r1, r2)) ∧ Aside0 (kq ≤ k) ∧ Aside0 (Kd.R k36 36 w' w.heap.size (fun _ => True) v5 x5_1) ∧ Aside0 (Below w.heap.size w w'))
    case atStart => exact ⟨(([] : List (S36))), (0), (by first | rfl | (simp; done) | (simp [*]; done)), H', ⟨Nat.le_refl _⟩, ⟨by first | exact Kd.R_nil _ _ _ _ _ | exact Kd.N_nil _ _ _ _ _ | exact Kd.V_nil _ _ _ _ _ | exact Kd.Q_nil _ _ _ _ _ | exact Kd.S_nil _ _ _ _ _⟩, ⟨by repeat (first | (with_reducible first | exact HB.out | apply below_alloc | apply pw_below_drewN | apply below_drew1) | exact HB.out)⟩⟩
    case round =>
      clear H'
      try clear c1
      try clear p2
      try clear c3
      try clear c3b0
      try clear c3b1
      obtain ⟨x5_1, x6_1, rfl, HA, HK1, HO_5, HB⟩ := hrel
      cases gk with
      | zero => exact absurd HA.out (by simp [papermillref34_Lost.l0])
      | succ k1 =>
        have H := HA.out
        clear HA
        simp only [papermillref34_Lost.l0] at H
        by_cases c5 : x6_1 < (l0.length : Int)
        · rw [if_pos c5] at H
          have c5b0 : decide (x6_1 < (l0.length : Int)) = true := decide_eq_true c5
          clear c5
          have HC6 := Aside0.mk H
          clear H
          obtain ⟨Ao7, co7, eo7⟩ := Kd.R_slice HO_5.out
          subst eo7
          go_upto_region 9 with (fail)
          go_cut [44] (fun v44 wc => ∃ (kq : Nat) (x44_5 : Bool), v44 = .bool x44_5 ∧ Aside0 (papermillref34_Lost.j1 kq l0 x5_1 x6_1 (wrap64 ((x5_1.length : Int) - 1)) x44_5 = some (r1, r2)) ∧ Aside0 (kq ≤ k1) ∧ Aside0 (Kd.R k36 36 wc w.heap.size (fun _ => True) (.slice Ao7 x5_1.length co7) x5_1) ∧ Aside0 (Below w.heap.size w wc))
          case first =>
            have H := HC6.out
            clear HC6
            by_cases c8 : 0 ≤ x6_1
            · rw [if_pos c8] at H
              have c8b0 : decide (0 ≤ x6_1) = true := decide_eq_true c8
              clear c8
              (first | rw [c8b0] | (simp only [i64_w, i32_w]; rw [c8b0]) | skip)
              by_cases c9 : ((rd_T44 l0 x6_1).f2) = 3
              · rw [if_pos c9] at H
                have c9b0 : (((rd_T44 l0 x6_1).f2) == 3) = true := beq_iff_eq.mpr c9
                have c9b1 : (((rd_T44 l0 x6_1).f2) != 3) = false := bne_eq_false_iff_eq.mpr c9
                clear c9
                by_cases c10 : (wrap64 ((x5_1.length : Int) - 1)) ≥ 0
                · rw [if_pos c10] at H
                  have c10b0 : decide (0 ≤ (wrap64 ((x5_1.length : Int) - 1))) = true := decide_eq_true c10
                  clear c10
                  obtain ⟨ji11, hji11⟩ : ∃ j_ : Int, (wrap64 ((x5_1.length : Int) - 1)) = j_ := ⟨_, rfl⟩
                  replace H : (if 0 ≤ (ji11) then (if (ji11) < (x5_1.length : Int) then (papermillref34_Lost.j1 k1 l0 x5_1 x6_1 ji11 (((rd_T36 x5_1 (ji11)).f1) == ((rd_T44 l0 x6_1).f0))) else (none)) else (none)) = some (r1, r2) := by first | (rw [hji11] at H; exact H) | (simp only [hji11] at H ⊢; exact H)
                  (try rw [hji11] at c10b0)
                  have hji11w : (IntKind.i64.wrap ((x5_1.length : Int) - 1)) = ji11 := (i64_w _).trans hji11
                  by_cases c12 : 0 ≤ (ji11)
                  · rw [if_pos c12] at H
                    have c12b0 : decide (0 ≤ (ji11)) = true := decide_eq_true c12
                    clear c12
                    by_cases c13 : (ji11) < (x5_1.length : Int)
                    · rw [if_pos c13] at H
                      have c13b0 : decide ((ji11) < (x5_1.length : Int)) = true := decide_eq_true c13
                      clear c13
                      have H' := Aside0.mk H
                      clear H
                      try go_wp2
                      have n0_ := Aside0.mk (Kd.R_drew HO_5.out)
                      have n1_ := Aside0.mk (below_drew1 HB.out)
                      clear HO_5
                      clear HB
                      have HO_5 := n0_
                      have HB := n1_
                      clear n0_ n1_
                      have p15006 : 0 ≤ (x6_1 : Int) := of_decide_eq_true (by first | (with_reducible assumption) | assumption)
                      have q15006 : x6_1 < (l0.length : Int) := of_decide_eq_true (by first | (with_reducible assumption) | assumption)
                      obtain ⟨ad15006, e15006, hx15006_0, hx15006_1, hx15006_2, hx15006_3, hx15006_4⟩ := at_T44 HR0.out x6_1 p15006 q15006
                      have hw15006_4 := hx15006_4
                      have hw15006_3 := hx15006_3
                      have hw15006_2 := hx15006_2
                      have hw15006_1 := hx15006_1
                      have hw15006_0 := hx15006_0
                      cases e15006
                      replace hx15006_0 := (HB.out.cell (World.block_lt_of_cell? w _ hx15006_0)).trans hx15006_0
                      replace hx15006_1 := (HB.out.cell (World.block_lt_of_cell? w _ hx15006_1)).trans hx15006_1
                      replace hx15006_2 := (HB.out.cell (World.block_lt_of_cell? w _ hx15006_2)).trans hx15006_2
                      replace hx15006_3 := (HB.out.cell (World.block_lt_of_cell? w _ hx15006_3)).trans hx15006_3
                      replace hx15006_4 := (HB.out.cell (World.block_lt_of_cell? w _ hx15006_4)).trans hx15006_4
                      replace p15006 := eq_true p15006
                      replace q15006 := eq_true q15006
                      have p15007 : 0 ≤ ((ji11) : Int) := of_decide_eq_true (by first | (with_reducible assumption) | assumption)
                      have q15007 : (ji11) < (x5_1.length : Int) := of_decide_eq_true (by first | (with_reducible assumption) | assumption)
                      obtain ⟨ad15007, e15007, hx15007_0, hx15007_1⟩ := at_T36 (Kd.R_reads' HO_5.out).2.2 (ji11) p15007 q15007
                      cases e15007
                      replace p15007 := eq_true p15007
                      replace q15007 := eq_true q15007
                      have p15008 : 0 ≤ (x6_1 : Int) := of_decide_eq_true (by first | (with_reducible assumption) | assumption)
                      have q15008 : x6_1 < (l0.length : Int) := of_decide_eq_true (by first | (with_reducible assumption) | assumption)
                      obtain ⟨ad15008, e15008, hx15008_0, hx15008_1, hx15008_2, hx15008_3, hx15008_4⟩ := at_T44 HR0.out x6_1 p15008 q15008
                      have hw15008_4 := hx15008_4
                      have hw15008_3 := hx15008_3
                      have hw15008_2 := hx15008_2
                      have hw15008_1 := hx15008_1
                      have hw15008_0 := hx15008_0
                      obtain rfl : ad15006 = ad15008 := (by injection e15008)
                      replace hx15008_0 := (HB.out.cell (World.block_lt_of_cell? w _ hx15008_0)).trans hx15008_0
                      replace hx15008_1 := (HB.out.cell (World.block_lt_of_cell? w _ hx15008_1)).trans hx15008_1
                      replace hx15008_2 := (HB.out.cell (World.block_lt_of_cell? w _ hx15008_2)).trans hx15008_2
                      replace hx15008_3 := (HB.out.cell (World.block_lt_of_cell? w _ hx15008_3)).trans hx15008_3
                      replace hx15008_4 := (HB.out.cell (World.block_lt_of_cell? w _ hx15008_4)).trans hx15008_4
                      replace p15008 := eq_true p15008
                      replace q15008 := eq_true q15008
                      refine start_ (n := 23) (S := fun w' => w'.cell? (ad15006.add ((x6_1).toNat * 5)) = some (.int .i64 ((rd_T44 l0 x6_1).f0)) ∧ w'.cell? ⟨(ad15006.add ((x6_1).toNat * 5)).block, (ad15006.add ((x6_1).toNat * 5)).off + 1, none⟩ = some (.int .i64 ((rd_T44 l0 x6_1).f1)) ∧ w'.cell? ⟨(ad15006.add ((x6_1).toNat * 5)).block, (ad15006.add ((x6_1).toNat * 5)).off + 2, none⟩ = some (.int .i64 ((rd_T44 l0 x6_1).f2)) ∧ w'.cell? ⟨(ad15006.add ((x6_1).toNat * 5)).block, (ad15006.add ((x6_1).toNat * 5)).off + 3, none⟩ = some (.int .i64 ((rd_T44 l0 x6_1).f3)) ∧ w'.cell? ⟨(ad15006.add ((x6_1).toNat * 5)).block, (ad15006.add ((x6_1).toNat * 5)).off + 4, none⟩ = some (.int .i64 ((rd_T44 l0 x6_1).f4)) ∧ w'.cell? (ad15007.add (((ji11)).toNat * 2)) = some (.int .i64 ((rd_T36 x5_1 (ji11)).f0)) ∧ w'.cell? ⟨(ad15007.add (((ji11)).toNat * 2)).block, (ad15007.add (((ji11)).toNat * 2)).off + 1, none⟩ = some (.int .i64 ((rd_T36 x5_1 (ji11)).f1)) ∧ w'.cell? (ad15006.add ((x6_1).toNat * 5)) = some (.int .i64 ((rd_T44 l0 x6_1).f0)) ∧ w'.cell? ⟨(ad15006.add ((x6_1).toNat * 5)).block, (ad15006.add ((x6_1).toNat * 5)).off + 1, none⟩ = some (.int .i64 ((rd_T44 l0 x6_1).f1)) ∧ w'.cell? ⟨(ad15006.add ((x6_1).toNat * 5)).block, (ad15006.add ((x6_1).toNat * 5)).off + 2, none⟩ = some (.int .i64 ((rd_T44 l0 x6_1).f2)) ∧ w'.cell? ⟨(ad15006.add ((x6_1).toNat * 5)).block, (ad15006.add ((x6_1).toNat * 5)).off + 3, none⟩ = some (.int .i64 ((rd_T44 l0 x6_1).f3)) ∧ w'.cell? ⟨(ad15006.add ((x6_1).toNat * 5)).block, (ad15006.add ((x6_1).toNat * 5)).off + 4, none⟩ = some (.int .i64 ((rd_T44 l0 x6_1).f4))) (ds := []) #[false, false, false, false, false, false, false, false, false, false, false, false, false, false, false, false, false, false, false, false, false, false, false] (by kernel_rfl) rfl rfl ⟨((HB.out.cell (World.block_lt_of_cell? w _ hw15006_0)).trans hw15006_0), ((HB.out.cell (World.block_lt_of_cell? w _ hw15006_1)).trans hw15006_1), ((HB.out.cell (World.block_lt_of_cell? w _ hw15006_2)).trans hw15006_2), ((HB.out.cell (World.block_lt_of_cell? w _ hw15006_3)).trans hw15006_3), ((HB.out.cell (World.block_lt_of_cell? w _ hw15006_4)).trans hw15006_4), hx15007_0, hx15007_1, ((HB.out.cell (World.block_lt_of_cell? w _ hw15008_0)).trans hw15008_0), ((HB.out.cell (World.block_lt_of_cell? w _ hw15008_1)).trans hw15008_1), ((HB.out.cell (World.block_lt_of_cell? w _ hw15008_2)).trans hw15008_2), ((HB.out.cell (World.block_lt_of_cell? w _ hw15008_3)).trans hw15008_3), ((HB.out.cell (World.block_lt_of_cell? w _ hw15008_4)).trans hw15008_4)⟩ (fun hHeld => ?_); refine with_tabW papermillref34_Lost.tab9 papermillref34_Lost.bits9 (fun HT_ HW_ => ?_)
                      generalize wr.drew = w14 at HO_5 HB hx15006_0 hx15006_1 hx15006_2 hx15006_3 hx15006_4 hx15007_0 hx15007_1 hx15008_0 hx15008_1 hx15008_2 hx15008_3 hx15008_4 hHeld ⊢
                      refine pure_ (i := 0) (N := some 22) (v := ?_) (a' := ?_) #[true, false, false, false, false, false, false, false, false, false, false, false, false, false, false, false, false, false, false, false, false, false, false] rfl rfl (any_of HT_.out (by kernel_rfl)) (fun _ _ _ h => h) (Or.inl ⟨by rfl, ?_⟩) ?_ ?_
                      rotate_left
                      · intro w'
                        go_simp
                        with_reducible rfl
                      rotate_left
                      · simp only [Act.put, List.setIfInBounds_toArray, List.set_cons_zero, List.set_cons_succ, i64_w, i32_w]
                        (first | rfl | (simp only [hji11]; rfl) | (simp only [hji20]; rfl) | (simp only [hji11, hji20]; rfl))
                      refine pure_ (i := 1) (N := some 23) (v := ?_) (a' := ?_) #[true, true, false, false, false, false, false, false, false, false, false, false, false, false, false, false, false, false, false, false, false, false, false] rfl rfl (any_of HT_.out (by kernel_rfl)) (fun _ _ _ h => h) (Or.inl ⟨by rfl, ?_⟩) ?_ ?_
                      rotate_left
                      · intro w'
                        go_simp
                        with_reducible rfl
                      rotate_left
                      · simp only [Act.put, List.setIfInBounds_toArray, List.set_cons_zero, List.set_cons_succ, i64_w, i32_w]
                        (first | rfl | (simp only [hji11]; rfl) | (simp only [hji20]; rfl) | (simp only [hji11, hji20]; rfl))
                      refine pure_ (i := 2) (N := some 24) (v := ?_) (a' := ?_) #[true, true, true, false, false, false, false, false, false, false, false, false, false, false, false, false, false, false, false, false, false, false, false] rfl rfl (any_of HT_.out (by kernel_rfl)) (fun _ _ _ h => h) (Or.inl ⟨by rfl, ?_⟩) ?_ ?_
                      rotate_left
                      · intro w'
                        go_simp
                        with_reducible rfl
                      rotate_left
                      · simp only [Act.put, List.setIfInBounds_toArray, List.set_cons_zero, List.set_cons_succ, i64_w, i32_w]
                        (first | rfl | (simp only [hji11]; rfl) | (simp only [hji20]; rfl) | (simp only [hji11, hji20]; rfl))
                      refine pure_ (i := 3) (N := some 25) (v := ?_) (a' := ?_) #[true, true, true, true, false, false, false, false, false, false, false, false, false, false, false, false, false, false, false, false, false, false, false] rfl rfl (any_of HT_.out (by kernel_rfl)) (fun _ _ _ h => h) (Or.inl ⟨by rfl, ?_⟩) ?_ ?_
                      rotate_left
                      · intro w'
                        go_simp
                        with_reducible rfl
                      rotate_left
                      · simp only [Act.put, List.setIfInBounds_toArray, List.set_cons_zero, List.set_cons_succ, i64_w, i32_w]
                        (first | rfl | (simp only [hji11]; rfl) | (simp only [hji20]; rfl) | (simp only [hji11, hji20]; rfl))
                      refine take_ (i := 4) (N := some 26) (v := ?_) (a' := ?_) #[true, true, true, true, true, false, false, false, false, false, false, false, false, false, false, false, false, false, false, false, false, false, false] rfl rfl (take_ofW HT_.out HW_.out (by kernel_rfl)) (fun _ _ _ h => h) (Or.inl ⟨by rfl, ?_⟩) hHeld ?_ ?_
                      rotate_left
                      · rintro w' ⟨s0, s1, s2, s3, s4, s5, s6, s7, s8, s9, s10, s11⟩
                        go_simp
                        with_reducible rfl
                      rotate_left
                      · simp only [Act.put, List.setIfInBounds_toArray, List.set_cons_zero, List.set_cons_succ, i64_w, i32_w]
                        (first | rfl | (simp only [hji11]; rfl) | (simp only [hji20]; rfl) | (simp only [hji11, hji20]; rfl))
                      refine pure_ (i := 5) (N := some 27) (v := ?_) (a' := ?_) #[true, true, true, true, true, true, false, false, false, false, false, false, false, false, false, false, false, false, false, false, false, false, false] rfl rfl (any_of HT_.out (by kernel_rfl)) (fun _ _ _ h => h) (Or.inl ⟨by rfl, ?_⟩) ?_ ?_
                      rotate_left
                      · intro w'
                        go_simp
                        with_reducible rfl
                      rotate_left
                      · simp only [Act.put, List.setIfInBounds_toArray, List.set_cons_zero, List.set_cons_succ, i64_w, i32_w]
                        (first | rfl | (simp only [hji11]; rfl) | (simp only [hji20]; rfl) | (simp only [hji11, hji20]; rfl))
                      refine pure_ (i := 6) (N := some 28) (v := ?_) (a' := ?_) #[true, true, true, true, true, true, true, false, false, false, false, false, false, false, false, false, false, false, false, false, false, false, false] rfl rfl (any_of HT_.out (by kernel_rfl)) (fun _ _ _ h => h) (Or.inl ⟨by rfl, ?_⟩) ?_ ?_
                      rotate_left
                      · intro w'
                        go_simp
                        with_reducible rfl
                      rotate_left
                      · simp only [Act.put, List.setIfInBounds_toArray, List.set_cons_zero, List.set_cons_succ, i64_w, i32_w]
                        (first | rfl | (simp only [hji11]; rfl) | (simp only [hji20]; rfl) | (simp only [hji11, hji20]; rfl))
                      refine pure_ (i := 7) (N := some 29) (v := ?_) (a' := ?_) #[true, true, true, true, true, true, true, true, false, false, false, false, false, false, false, false, false, false, false, false, false, false, false] rfl rfl (any_of HT_.out (by kernel_rfl)) (fun _ _ _ h => h) (Or.inl ⟨by rfl, ?_⟩) ?_ ?_
                      rotate_left
                      · intro w'
                        go_simp
                        with_reducible rfl
                      rotate_left
                      · simp only [Act.put, List.setIfInBounds_toArray, List.set_cons_zero, List.set_cons_succ, i64_w, i32_w]
                        (first | rfl | (simp only [hji11]; rfl) | (simp only [hji20]; rfl) | (simp only [hji11, hji20]; rfl))
                      refine pure_ (i := 8) (N := some 30) (v := ?_) (a' := ?_) #[true, true, true, true, true, true, true, true, true, false, false, false, false, false, false, false, false, false, false, false, false, false, false] rfl rfl (any_of HT_.out (by kernel_rfl)) (fun _ _ _ h => h) (Or.inl ⟨by rfl, ?_⟩) ?_ ?_
                      rotate_left
                      · intro w'
                        go_simp
                        with_reducible rfl
                      rotate_left
                      · simp only [Act.put, List.setIfInBounds_toArray, List.set_cons_zero, List.set_cons_succ, i64_w, i32_w]
                        (first | rfl | (simp only [hji11]; rfl) | (simp only [hji20]; rfl) | (simp only [hji11, hji20]; rfl))
                      refine pure_ (i := 9) (N := some 31) (v := ?_) (a' := ?_) #[true, true, true, true, true, true, true, true, true, true, false, false, false, false, false, false, false, false, false, false, false, false, false] rfl rfl (any_of HT_.out (by kernel_rfl)) (fun _ _ _ h => h) (Or.inl ⟨by rfl, ?_⟩) ?_ ?_
                      rotate_left
                      · intro w'
                        go_simp
                        with_reducible rfl
                      rotate_left
                      · simp only [Act.put, List.setIfInBounds_toArray, List.set_cons_zero, List.set_cons_succ, i64_w, i32_w]
                        (first | rfl | (simp only [hji11]; rfl) | (simp only [hji20]; rfl) | (simp only [hji11, hji20]; rfl))
                      refine pure_ (i := 10) (N := some 32) (v := ?_) (a' := ?_) #[true, true, true, true, true, true, true, true, true, true, true, false, false, false, false, false, false, false, false, false, false, false, false] rfl rfl (any_of HT_.out (by kernel_rfl)) (fun _ _ _ h => h) (Or.inl ⟨by rfl, ?_⟩) ?_ ?_
                      rotate_left
                      · intro w'
                        go_simp
                        with_reducible rfl
                      rotate_left
                      · simp only [Act.put, List.setIfInBounds_toArray, List.set_cons_zero, List.set_cons_succ, i64_w, i32_w]
                        (first | rfl | (simp only [hji11]; rfl) | (simp only [hji20]; rfl) | (simp only [hji11, hji20]; rfl))
                      refine pure_ (i := 11) (N := some 33) (v := ?_) (a' := ?_) #[true, true, true, true, true, true, true, true, true, true, true, true, false, false, false, false, false, false, false, false, false, false, false] rfl rfl (any_of HT_.out (by kernel_rfl)) (fun _ _ _ h => h) (Or.inl ⟨by rfl, ?_⟩) ?_ ?_
                      rotate_left
                      · intro w'
                        go_simp
                        with_reducible rfl
                      rotate_left
                      · simp only [Act.put, List.setIfInBounds_toArray, List.set_cons_zero, List.set_cons_succ, i64_w, i32_w]
                        (first | rfl | (simp only [hji11]; rfl) | (simp only [hji20]; rfl) | (simp only [hji11, hji20]; rfl))
                      refine pure_ (i := 12) (N := some 34) (v := ?_) (a' := ?_) #[true, true, true, true, true, true, true, true, true, true, true, true, true, false, false, false, false, false, false, false, false, false, false] rfl rfl (any_of HT_.out (by kernel_rfl)) (fun _ _ _ h => h) (Or.inl ⟨by rfl, ?_⟩) ?_ ?_
                      rotate_left
                      · intro w'
                        go_simp
                        with_reducible rfl
                      rotate_left
                      · simp only [Act.put, List.setIfInBounds_toArray, List.set_cons_zero, List.set_cons_succ, i64_w, i32_w]
                        (first | rfl | (simp only [hji11]; rfl) | (simp only [hji20]; rfl) | (simp only [hji11, hji20]; rfl))
                      refine pure_ (i := 13) (N := some 35) (v := ?_) (a' := ?_) #[true, true, true, true, true, true, true, true, true, true, true, true, true, true, false, false, false, false, false, false, false, false, false] rfl rfl (any_of HT_.out (by kernel_rfl)) (fun _ _ _ h => h) (Or.inl ⟨by rfl, ?_⟩) ?_ ?_
                      rotate_left
                      · intro w'
                        go_simp
                        with_reducible rfl
                      rotate_left
                      · simp only [Act.put, List.setIfInBounds_toArray, List.set_cons_zero, List.set_cons_succ, i64_w, i32_w]
                        (first | rfl | (simp only [hji11]; rfl) | (simp only [hji20]; rfl) | (simp only [hji11, hji20]; rfl))
                      refine pure_ (i := 14) (N := some 36) (v := ?_) (a' := ?_) #[true, true, true, true, true, true, true, true, true, true, true, true, true, true, true, false, false, false, false, false, false, false, false] rfl rfl (any_of HT_.out (by kernel_rfl)) (fun _ _ _ h => h) (Or.inl ⟨by rfl, ?_⟩) ?_ ?_
                      rotate_left
                      · intro w'
                        go_simp
                        with_reducible rfl
                      rotate_left
                      · simp only [Act.put, List.setIfInBounds_toArray, List.set_cons_zero, List.set_cons_succ, i64_w, i32_w]
                        (first | rfl | (simp only [hji11]; rfl) | (simp only [hji20]; rfl) | (simp only [hji11, hji20]; rfl))
                      refine pure_ (i := 16) (N := some 38) (v := ?_) (a' := ?_) #[true, true, true, true, true, true, true, true, true, true, true, true, true, true, true, false, true, false, false, false, false, false, false] rfl rfl (any_of HT_.out (by kernel_rfl)) (fun _ _ _ h => h) (Or.inl ⟨by rfl, ?_⟩) ?_ ?_
                      rotate_left
                      · intro w'
                        go_simp
                        with_reducible rfl
                      rotate_left
                      · simp only [Act.put, List.setIfInBounds_toArray, List.set_cons_zero, List.set_cons_succ, i64_w, i32_w]
                        (first | rfl | (simp only [hji11]; rfl) | (simp only [hji20]; rfl) | (simp only [hji11, hji20]; rfl))
                      refine pure_ (i := 17) (N := some 39) (v := ?_) (a' := ?_) #[true, true, true, true, true, true, true, true, true, true, true, true, true, true, true, false, true, true, false, false, false, false, false] rfl rfl (any_of HT_.out (by kernel_rfl)) (fun _ _ _ h => h) (Or.inl ⟨by rfl, ?_⟩) ?_ ?_
                      rotate_left
                      · intro w'
                        go_simp
                        with_reducible rfl
                      rotate_left
                      · simp only [Act.put, List.setIfInBounds_toArray, List.set_cons_zero, List.set_cons_succ, i64_w, i32_w]
                        (first | rfl | (simp only [hji11]; rfl) | (simp only [hji20]; rfl) | (simp only [hji11, hji20]; rfl))
                      refine pure_ (i := 18) (N := some 40) (v := ?_) (a' := ?_) #[true, true, true, true, true, true, true, true, true, true, true, true, true, true, true, false, true, true, true, false, false, false, false] rfl rfl (any_of HT_.out (by kernel_rfl)) (fun _ _ _ h => h) (Or.inl ⟨by rfl, ?_⟩) ?_ ?_
                      rotate_left
                      · intro w'
                        go_simp
                        with_reducible rfl
                      rotate_left
                      · simp only [Act.put, List.setIfInBounds_toArray, List.set_cons_zero, List.set_cons_succ, i64_w, i32_w]
                        (first | rfl | (simp only [hji11]; rfl) | (simp only [hji20]; rfl) | (simp only [hji11, hji20]; rfl))
                      refine pure_ (i := 19) (N := some 41) (v := ?_) (a' := ?_) #[true, true, true, true, true, true, true, true, true, true, true, true, true, true, true, false, true, true, true, true, false, false, false] rfl rfl (any_of HT_.out (by kernel_rfl)) (fun _ _ _ h => h) (Or.inl ⟨by rfl, ?_⟩) ?_ ?_
                      rotate_left
                      · intro w'
                        go_simp
                        with_reducible rfl
                      rotate_left
                      · simp only [Act.put, List.setIfInBounds_toArray, List.set_cons_zero, List.set_cons_succ, i64_w, i32_w]
                        (first | rfl | (simp only [hji11]; rfl) | (simp only [hji20]; rfl) | (simp only [hji11, hji20]; rfl))
                      refine take_ (i := 15) (N := some 37) (v := ?_) (a' := ?_) #[true, true, true, true, true, true, true, true, true, true, true, true, true, true, true, true, true, true, true, true, false, false, false] rfl rfl (take_ofW HT_.out HW_.out (by kernel_rfl)) (fun _ _ _ h => h) (Or.inl ⟨by rfl, ?_⟩) hHeld ?_ ?_
                      rotate_left
                      · rintro w' ⟨s0, s1, s2, s3, s4, s5, s6, s7, s8, s9, s10, s11⟩
                        go_simp
                        with_reducible rfl
                      rotate_left
                      · simp only [Act.put, List.setIfInBounds_toArray, List.set_cons_zero, List.set_cons_succ, i64_w, i32_w]
                        (first | rfl | (simp only [hji11]; rfl) | (simp only [hji20]; rfl) | (simp only [hji11, hji20]; rfl))
                      refine take_ (i := 20) (N := some 42) (v := ?_) (a' := ?_) #[true, true, true, true, true, true, true, true, true, true, true, true, true, true, true, true, true, true, true, true, true, false, false] rfl rfl (take_ofW HT_.out HW_.out (by kernel_rfl)) (fun _ _ _ h => h) (Or.inl ⟨by rfl, ?_⟩) hHeld ?_ ?_
                      rotate_left
                      · rintro w' ⟨s0, s1, s2, s3, s4, s5, s6, s7, s8, s9, s10, s11⟩
                        go_simp
                        with_reducible rfl
                      rotate_left
                      · simp only [Act.put, List.setIfInBounds_toArray, List.set_cons_zero, List.set_cons_succ, i64_w, i32_w]
                        (first | rfl | (simp only [hji11]; rfl) | (simp only [hji20]; rfl) | (simp only [hji11, hji20]; rfl))
                      refine pure_ (i := 21) (N := some 43) (v := ?_) (a' := ?_) #[true, true, true, true, true, true, true, true, true, true, true, true, true, true, true, true, true, true, true, true, true, true, false] rfl rfl (any_of HT_.out (by kernel_rfl)) (fun _ _ _ h => h) (Or.inl ⟨by rfl, ?_⟩) ?_ ?_
                      rotate_left
                      · intro w'
                        go_simp
                        with_reducible rfl
                      rotate_left
                      · simp only [Act.put, List.setIfInBounds_toArray, List.set_cons_zero, List.set_cons_succ, i64_w, i32_w]
                        (first | rfl | (simp only [hji11]; rfl) | (simp only [hji20]; rfl) | (simp only [hji11, hji20]; rfl))
                      refine pure_ (i := 22) (N := some 44) (v := ?_) (a' := ?_) #[true, true, true, true, true, true, true, true, true, true, true, true, true, true, true, true, true, true, true, true, true, true, true] rfl rfl (any_of HT_.out (by kernel_rfl)) (fun _ _ _ h => h) (Or.inl ⟨by rfl, ?_⟩) ?_ ?_
                      rotate_left
                      · intro w'
                        go_simp
                        with_reducible rfl
                      rotate_left
                      · simp only [Act.put, List.setIfInBounds_toArray, List.set_cons_zero, List.set_cons_succ, i64_w, i32_w]
                        (first | rfl | (simp only [hji11]; rfl) | (simp only [hji20]; rfl) | (simp only [hji11, hji20]; rfl))
                      refine done_ (done_of HT_.out (by kernel_rfl)) ?_
                      try go_wp2
                      simp only [← hji11]
                      go_meet
                      case rel => exact ⟨_, ((((rd_T36 x5_1 (ji11)).f1) == ((rd_T44 l0 x6_1).f0))), (by first | rfl | (simp; done) | (simp only [← hji11] <;> (first | rfl | simp)) | (simp [*]; done)), (by rw [hji11]; exact H'), ⟨by have := HK1.out; first | omega | exact Nat.le_refl _⟩, ⟨by (with_reducible repeat (first | apply Kd.R_alloc | apply Kd.R_drewN | apply Kd.R_drew)); exact HO_5.out⟩, ⟨by repeat (first | (with_reducible first | exact HB.out | apply below_alloc | apply pw_below_drewN | apply below_drew1) | exact HB.out)⟩⟩
                    · rw [if_neg c13] at H
                      exact absurd H (by simp)
                  · rw [if_neg c12] at H
                    exact absurd H (by simp)
                · rw [if_neg c10] at H
                  have c10b0 : decide (0 ≤ (wrap64 ((x5_1.length : Int) - 1))) = false := decide_eq_false c10
                  clear c10
                  have H' := Aside0.mk H
                  clear H
                  try go_wp2
                  have n0_ := Aside0.mk (Kd.R_drew HO_5.out)
                  have n1_ := Aside0.mk (below_drew1 HB.out)
                  clear HO_5
                  clear HB
                  have HO_5 := n0_
                  have HB := n1_
                  clear n0_ n1_
                  have p15006 : 0 ≤ (x6_1 : Int) := of_decide_eq_true (by first | (with_reducible assumption) | assumption)
                  have q15006 : x6_1 < (l0.length : Int) := of_decide_eq_true (by first | (with_reducible assumption) | assumption)
                  obtain ⟨ad15006, e15006, hx15006_0, hx15006_1, hx15006_2, hx15006_3, hx15006_4⟩ := at_T44 HR0.out x6_1 p15006 q15006
                  have hw15006_4 := hx15006_4
                  have hw15006_3 := hx15006_3
                  have hw15006_2 := hx15006_2
                  have hw15006_1 := hx15006_1
                  have hw15006_0 := hx15006_0
                  cases e15006
                  replace hx15006_0 := (HB.out.cell (World.block_lt_of_cell? w _ hx15006_0)).trans hx15006_0
                  replace hx15006_1 := (HB.out.cell (World.block_lt_of_cell? w _ hx15006_1)).trans hx15006_1
                  replace hx15006_2 := (HB.out.cell (World.block_lt_of_cell? w _ hx15006_2)).trans hx15006_2
                  replace hx15006_3 := (HB.out.cell (World.block_lt_of_cell? w _ hx15006_3)).trans hx15006_3
                  replace hx15006_4 := (HB.out.cell (World.block_lt_of_cell? w _ hx15006_4)).trans hx15006_4
                  replace p15006 := eq_true p15006
                  replace q15006 := eq_true q15006
                  refine start_ (n := 23) (S := fun w' => w'.cell? (ad15006.add ((x6_1).toNat * 5)) = some (.int .i64 ((rd_T44 l0 x6_1).f0)) ∧ w'.cell? ⟨(ad15006.add ((x6_1).toNat * 5)).block, (ad15006.add ((x6_1).toNat * 5)).off + 1, none⟩ = some (.int .i64 ((rd_T44 l0 x6_1).f1)) ∧ w'.cell? ⟨(ad15006.add ((x6_1).toNat * 5)).block, (ad15006.add ((x6_1).toNat * 5)).off + 2, none⟩ = some (.int .i64 ((rd_T44 l0 x6_1).f2)) ∧ w'.cell? ⟨(ad15006.add ((x6_1).toNat * 5)).block, (ad15006.add ((x6_1).toNat * 5)).off + 3, none⟩ = some (.int .i64 ((rd_T44 l0 x6_1).f3)) ∧ w'.cell? ⟨(ad15006.add ((x6_1).toNat * 5)).block, (ad15006.add ((x6_1).toNat * 5)).off + 4, none⟩ = some (.int .i64 ((rd_T44 l0 x6_1).f4))) (ds := []) #[false, false, false, false, false, false, false, false, false, false, false, false, false, false, false, false, false, false, false, false, false, false, false] (by kernel_rfl) rfl rfl ⟨((HB.out.cell (World.block_lt_of_cell? w _ hw15006_0)).trans hw15006_0), ((HB.out.cell (World.block_lt_of_cell? w _ hw15006_1)).trans hw15006_1), ((HB.out.cell (World.block_lt_of_cell? w _ hw15006_2)).trans hw15006_2), ((HB.out.cell (World.block_lt_of_cell? w _ hw15006_3)).trans hw15006_3), ((HB.out.cell (World.block_lt_of_cell? w _ hw15006_4)).trans hw15006_4)⟩ (fun hHeld => ?_); refine with_tabW papermillref34_Lost.tab9 papermillref34_Lost.bits9 (fun HT_ HW_ => ?_)
                  generalize wr.drew = w15 at HO_5 HB hx15006_0 hx15006_1 hx15006_2 hx15006_3 hx15006_4 hHeld ⊢
                  refine pure_ (i := 0) (N := some 22) (v := ?_) (a' := ?_) #[true, false, false, false, false, false, false, false, false, false, false, false, false, false, false, false, false, false, false, false, false, false, false] rfl rfl (any_of HT_.out (by kernel_rfl)) (fun _ _ _ h => h) (Or.inl ⟨by rfl, ?_⟩) ?_ ?_
                  rotate_left
                  · intro w'
                    go_simp
                    with_reducible rfl
                  rotate_left
                  · simp only [Act.put, List.setIfInBounds_toArray, List.set_cons_zero, List.set_cons_succ, i64_w, i32_w]
                    (first | rfl | (simp only [hji11]; rfl) | (simp only [hji20]; rfl) | (simp only [hji11, hji20]; rfl))
                  refine pure_ (i := 1) (N := some 23) (v := ?_) (a' := ?_) #[true, true, false, false, false, false, false, false, false, false, false, false, false, false, false, false, false, false, false, false, false, false, false] rfl rfl (any_of HT_.out (by kernel_rfl)) (fun _ _ _ h => h) (Or.inl ⟨by rfl, ?_⟩) ?_ ?_
                  rotate_left
                  · intro w'
                    go_simp
                    with_reducible rfl
                  rotate_left
                  · simp only [Act.put, List.setIfInBounds_toArray, List.set_cons_zero, List.set_cons_succ, i64_w, i32_w]
                    (first | rfl | (simp only [hji11]; rfl) | (simp only [hji20]; rfl) | (simp only [hji11, hji20]; rfl))
                  refine pure_ (i := 2) (N := some 24) (v := ?_) (a' := ?_) #[true, true, true, false, false, false, false, false, false, false, false, false, false, false, false, false, false, false, false, false, false, false, false] rfl rfl (any_of HT_.out (by kernel_rfl)) (fun _ _ _ h => h) (Or.inl ⟨by rfl, ?_⟩) ?_ ?_
                  rotate_left
                  · intro w'
                    go_simp
                    with_reducible rfl
                  rotate_left
                  · simp only [Act.put, List.setIfInBounds_toArray, List.set_cons_zero, List.set_cons_succ, i64_w, i32_w]
                    (first | rfl | (simp only [hji11]; rfl) | (simp only [hji20]; rfl) | (simp only [hji11, hji20]; rfl))
                  refine pure_ (i := 3) (N := some 25) (v := ?_) (a' := ?_) #[true, true, true, true, false, false, false, false, false, false, false, false, false, false, false, false, false, false, false, false, false, false, false] rfl rfl (any_of HT_.out (by kernel_rfl)) (fun _ _ _ h => h) (Or.inl ⟨by rfl, ?_⟩) ?_ ?_
                  rotate_left
                  · intro w'
                    go_simp
                    with_reducible rfl
                  rotate_left
                  · simp only [Act.put, List.setIfInBounds_toArray, List.set_cons_zero, List.set_cons_succ, i64_w, i32_w]
                    (first | rfl | (simp only [hji11]; rfl) | (simp only [hji20]; rfl) | (simp only [hji11, hji20]; rfl))
                  refine take_ (i := 4) (N := some 26) (v := ?_) (a' := ?_) #[true, true, true, true, true, false, false, false, false, false, false, false, false, false, false, false, false, false, false, false, false, false, false] rfl rfl (take_ofW HT_.out HW_.out (by kernel_rfl)) (fun _ _ _ h => h) (Or.inl ⟨by rfl, ?_⟩) hHeld ?_ ?_
                  rotate_left
                  · rintro w' ⟨s0, s1, s2, s3, s4⟩
                    go_simp
                    with_reducible rfl
                  rotate_left
                  · simp only [Act.put, List.setIfInBounds_toArray, List.set_cons_zero, List.set_cons_succ, i64_w, i32_w]
                    (first | rfl | (simp only [hji11]; rfl) | (simp only [hji20]; rfl) | (simp only [hji11, hji20]; rfl))
                  refine pure_ (i := 5) (N := some 27) (v := ?_) (a' := ?_) #[true, true, true, true, true, true, false, false, false, false, false, false, false, false, false, false, false, false, false, false, false, false, false] rfl rfl (any_of HT_.out (by kernel_rfl)) (fun _ _ _ h => h) (Or.inl ⟨by rfl, ?_⟩) ?_ ?_
                  rotate_left
                  · intro w'
                    go_simp
                    with_reducible rfl
                  rotate_left
                  · simp only [Act.put, List.setIfInBounds_toArray, List.set_cons_zero, List.set_cons_succ, i64_w, i32_w]
                    (first | rfl | (simp only [hji11]; rfl) | (simp only [hji20]; rfl) | (simp only [hji11, hji20]; rfl))
                  refine pure_ (i := 6) (N := some 28) (v := ?_) (a' := ?_) #[true, true, true, true, true, true, true, false, false, false, false, false, false, false, false, false, false, false, false, false, false, false, false] rfl rfl (any_of HT_.out (by kernel_rfl)) (fun _ _ _ h => h) (Or.inl ⟨by rfl, ?_⟩) ?_ ?_
                  rotate_left
                  · intro w'
                    go_simp
                    with_reducible rfl
                  rotate_left
                  · simp only [Act.put, List.setIfInBounds_toArray, List.set_cons_zero, List.set_cons_succ, i64_w, i32_w]
                    (first | rfl | (simp only [hji11]; rfl) | (simp only [hji20]; rfl) | (simp only [hji11, hji20]; rfl))
                  refine pure_ (i := 7) (N := some 29) (v := ?_) (a' := ?_) #[true, true, true, true, true, true, true, true, false, false, false, false, false, false, false, false, false, false, false, false, false, false, false] rfl rfl (any_of HT_.out (by kernel_rfl)) (fun _ _ _ h => h) (Or.inl ⟨by rfl, ?_⟩) ?_ ?_
                  rotate_left
                  · intro w'
                    go_simp
                    with_reducible rfl
                  rotate_left
                  · simp only [Act.put, List.setIfInBounds_toArray, List.set_cons_zero, List.set_cons_succ, i64_w, i32_w]
                    (first | rfl | (simp only [hji11]; rfl) | (simp only [hji20]; rfl) | (simp only [hji11, hji20]; rfl))
                  refine pure_ (i := 8) (N := some 30) (v := ?_) (a' := ?_) #[true, true, true, true, true, true, true, true, true, false, false, false, false, false, false, false, false, false, false, false, false, false, false] rfl rfl (any_of HT_.out (by kernel_rfl)) (fun _ _ _ h => h) (Or.inl ⟨by rfl, ?_⟩) ?_ ?_
                  rotate_left
                  · intro w'
                    go_simp
                    with_reducible rfl
                  rotate_left
                  · simp only [Act.put, List.setIfInBounds_toArray, List.set_cons_zero, List.set_cons_succ, i64_w, i32_w]
                    (first | rfl | (simp only [hji11]; rfl) | (simp only [hji20]; rfl) | (simp only [hji11, hji20]; rfl))
                  refine pure_ (i := 9) (N := some 31) (v := ?_) (a' := ?_) #[true, true, true, true, true, true, true, true, true, true, false, false, false, false, false, false, false, false, false, false, false, false, false] rfl rfl (any_of HT_.out (by kernel_rfl)) (fun _ _ _ h => h) (Or.inl ⟨by rfl, ?_⟩) ?_ ?_
                  rotate_left
                  · intro w'
                    go_simp
                    with_reducible rfl
                  rotate_left
                  · simp only [Act.put, List.setIfInBounds_toArray, List.set_cons_zero, List.set_cons_succ, i64_w, i32_w]
                    (first | rfl | (simp only [hji11]; rfl) | (simp only [hji20]; rfl) | (simp only [hji11, hji20]; rfl))
                  refine pure_ (i := 10) (N := some 32) (v := ?_) (a' := ?_) #[true, true, true, true, true, true, true, true, true, true, true, false, false, false, false, false, false, false, false, false, false, false, false] rfl rfl (any_of HT_.out (by kernel_rfl)) (fun _ _ _ h => h) (Or.inl ⟨by rfl, ?_⟩) ?_ ?_
                  rotate_left
                  · intro w'
                    go_simp
                    with_reducible rfl
                  rotate_left
                  · simp only [Act.put, List.setIfInBounds_toArray, List.set_cons_zero, List.set_cons_succ, i64_w, i32_w]
                    (first | rfl | (simp only [hji11]; rfl) | (simp only [hji20]; rfl) | (simp only [hji11, hji20]; rfl))
                  refine pure_ (i := 11) (N := some 33) (v := undef) (a' := ?_) #[true, true, true, true, true, true, true, true, true, true, true, true, false, false, false, false, false, false, false, false, false, false, false] rfl rfl (any_of HT_.out (by kernel_rfl)) (fun _ _ _ h => h) (Or.inr ⟨by rfl, rfl⟩) ?_ ?_
                  rotate_left
                  · simp only [Act.put, List.setIfInBounds_toArray, List.set_cons_zero, List.set_cons_succ, i64_w, i32_w]
                    (first | rfl | (simp only [hji11]; rfl) | (simp only [hji20]; rfl) | (simp only [hji11, hji20]; rfl))
                  refine pure_ (i := 12) (N := some 34) (v := undef) (a' := ?_) #[true, true, true, true, true, true, true, true, true, true, true, true, true, false, false, false, false, false, false, false, false, false, false] rfl rfl (any_of HT_.out (by kernel_rfl)) (fun _ _ _ h => h) (Or.inr ⟨by rfl, rfl⟩) ?_ ?_
                  rotate_left
                  · simp only [Act.put, List.setIfInBounds_toArray, List.set_cons_zero, List.set_cons_succ, i64_w, i32_w]
                    (first | rfl | (simp only [hji11]; rfl) | (simp only [hji20]; rfl) | (simp only [hji11, hji20]; rfl))
                  refine pure_ (i := 13) (N := some 35) (v := undef) (a' := ?_) #[true, true, true, true, true, true, true, true, true, true, true, true, true, true, false, false, false, false, false, false, false, false, false] rfl rfl (any_of HT_.out (by kernel_rfl)) (fun _ _ _ h => h) (Or.inr ⟨by rfl, rfl⟩) ?_ ?_
                  rotate_left
                  · simp only [Act.put, List.setIfInBounds_toArray, List.set_cons_zero, List.set_cons_succ, i64_w, i32_w]
                    (first | rfl | (simp only [hji11]; rfl) | (simp only [hji20]; rfl) | (simp only [hji11, hji20]; rfl))
                  refine pure_ (i := 14) (N := some 36) (v := undef) (a' := ?_) #[true, true, true, true, true, true, true, true, true, true, true, true, true, true, true, false, false, false, false, false, false, false, false] rfl rfl (any_of HT_.out (by kernel_rfl)) (fun _ _ _ h => h) (Or.inr ⟨by rfl, rfl⟩) ?_ ?_
                  rotate_left
                  · simp only [Act.put, List.setIfInBounds_toArray, List.set_cons_zero, List.set_cons_succ, i64_w, i32_w]
                    (first | rfl | (simp only [hji11]; rfl) | (simp only [hji20]; rfl) | (simp only [hji11, hji20]; rfl))
                  refine pure_ (i := 15) (N := some 37) (v := undef) (a' := ?_) #[true, true, true, true, true, true, true, true, true, true, true, true, true, true, true, true, false, false, false, false, false, false, false] rfl rfl (any_of HT_.out (by kernel_rfl)) (fun _ _ _ h => h) (Or.inr ⟨by rfl, rfl⟩) ?_ ?_
                  rotate_left
                  · simp only [Act.put, List.setIfInBounds_toArray, List.set_cons_zero, List.set_cons_succ, i64_w, i32_w]
                    (first | rfl | (simp only [hji11]; rfl) | (simp only [hji20]; rfl) | (simp only [hji11, hji20]; rfl))
                  refine pure_ (i := 16) (N := some 38) (v := undef) (a' := ?_) #[true, true, true, true, true, true, true, true, true, true, true, true, true, true, true, true, true, false, false, false, false, false, false] rfl rfl (any_of HT_.out (by kernel_rfl)) (fun _ _ _ h => h) (Or.inr ⟨by rfl, rfl⟩) ?_ ?_
                  rotate_left
                  · simp only [Act.put, List.setIfInBounds_toArray, List.set_cons_zero, List.set_cons_succ, i64_w, i32_w]
                    (first | rfl | (simp only [hji11]; rfl) | (simp only [hji20]; rfl) | (simp only [hji11, hji20]; rfl))
                  refine pure_ (i := 17) (N := some 39) (v := undef) (a' := ?_) #[true, true, true, true, true, true, true, true, true, true, true, true, true, true, true, true, true, true, false, false, false, false, false] rfl rfl (any_of HT_.out (by kernel_rfl)) (fun _ _ _ h => h) (Or.inr ⟨by rfl, rfl⟩) ?_ ?_
                  rotate_left
                  · simp only [Act.put, List.setIfInBounds_toArray, List.set_cons_zero, List.set_cons_succ, i64_w, i32_w]
                    (first | rfl | (simp only [hji11]; rfl) | (simp only [hji20]; rfl) | (simp only [hji11, hji20]; rfl))
                  refine pure_ (i := 18) (N := some 40) (v := undef) (a' := ?_) #[true, true, true, true, true, true, true, true, true, true, true, true, true, true, true, true, true, true, true, false, false, false, false] rfl rfl (any_of HT_.out (by kernel_rfl)) (fun _ _ _ h => h) (Or.inr ⟨by rfl, rfl⟩) ?_ ?_
                  rotate_left
                  · simp only [Act.put, List.setIfInBounds_toArray, List.set_cons_zero, List.set_cons_succ, i64_w, i32_w]
                    (first | rfl | (simp only [hji11]; rfl) | (simp only [hji20]; rfl) | (simp only [hji11, hji20]; rfl))
                  refine pure_ (i := 19) (N := some 41) (v := undef) (a' := ?_) #[true, true, true, true, true, true, true, true, true, true, true, true, true, true, true, true, true, true, true, true, false, false, false] rfl rfl (any_of HT_.out (by kernel_rfl)) (fun _ _ _ h => h) (Or.inr ⟨by rfl, rfl⟩) ?_ ?_
                  rotate_left
                  · simp only [Act.put, List.setIfInBounds_toArray, List.set_cons_zero, List.set_cons_succ, i64_w, i32_w]
                    (first | rfl | (simp only [hji11]; rfl) | (simp only [hji20]; rfl) | (simp only [hji11, hji20]; rfl))
                  refine pure_ (i := 20) (N := some 42) (v := undef) (a' := ?_) #[true, true, true, true, true, true, true, true, true, true, true, true, true, true, true, true, true, true, true, true, true, false, false] rfl rfl (any_of HT_.out (by kernel_rfl)) (fun _ _ _ h => h) (Or.inr ⟨by rfl, rfl⟩) ?_ ?_
                  rotate_left
                  · simp only [Act.put, List.setIfInBounds_toArray, List.set_cons_zero, List.set_cons_succ, i64_w, i32_w]
                    (first | rfl | (simp only [hji11]; rfl) | (simp only [hji20]; rfl) | (simp only [hji11, hji20]; rfl))
                  refine pure_ (i := 21) (N := some 43) (v := undef) (a' := ?_) #[true, true, true, true, true, true, true, true, true, true, true, true, true, true, true, true, true, true, true, true, true, true, false] rfl rfl (any_of HT_.out (by kernel_rfl)) (fun _ _ _ h => h) (Or.inr ⟨by rfl, rfl⟩) ?_ ?_
                  rotate_left
                  · simp only [Act.put, List.setIfInBounds_toArray, List.set_cons_zero, List.set_cons_succ, i64_w, i32_w]
                    (first | rfl | (simp only [hji11]; rfl) | (simp only [hji20]; rfl) | (simp only [hji11, hji20]; rfl))
                  refine pure_ (i := 22) (N := some 44) (v := ?_) (a' := ?_) #[true, true, true, true, true, true, true, true, true, true, true, true, true, true, true, true, true, true, true, true, true, true, true] rfl rfl (any_of HT_.out (by kernel_rfl)) (fun _ _ _ h => h) (Or.inl ⟨by rfl, ?_⟩) ?_ ?_
                  rotate_left
                  · intro w'
                    go_simp
                    with_reducible rfl
                  rotate_left
                  · simp only [Act.put, List.setIfInBounds_toArray, List.set_cons_zero, List.set_cons_succ, i64_w, i32_w]
                    (first | rfl | (simp only [hji11]; rfl) | (simp only [hji20]; rfl) | (simp only [hji11, hji20]; rfl))
                  refine done_ (done_of HT_.out (by kernel_rfl)) ?_
                  try go_wp2
                  go_meet
                  case rel => exact ⟨_, (false), (by first | rfl | (simp; done) | (simp [*]; done)), H', ⟨by have := HK1.out; first | omega | exact Nat.le_refl _⟩, ⟨by (with_reducible repeat (first | apply Kd.R_alloc | apply Kd.R_drewN | apply Kd.R_drew)); exact HO_5.out⟩, ⟨by repeat (first | (with_reducible first | exact HB.out | apply below_alloc | apply pw_below_drewN | apply below_drew1) | exact HB.out)⟩⟩
              · rw [if_neg c9] at H
                have c9b0 : (((rd_T44 l0 x6_1).f2) == 3) = false := beq_eq_false_iff_ne.mpr c9
                have c9b1 : (((rd_T44 l0 x6_1).f2) != 3) = true := bne_iff_ne.mpr c9
                have H' := Aside0.mk H
                clear H
                try go_wp2
                have n0_ := Aside0.mk (Kd.R_drew HO_5.out)
                have n1_ := Aside0.mk (below_drew1 HB.out)
                clear HO_5
                clear HB
                have HO_5 := n0_
                have HB := n1_
                clear n0_ n1_
                have p15006 : 0 ≤ (x6_1 : Int) := of_decide_eq_true (by first | (with_reducible assumption) | assumption)
                have q15006 : x6_1 < (l0.length : Int) := of_decide_eq_true (by first | (with_reducible assumption) | assumption)
                obtain ⟨ad15006, e15006, hx15006_0, hx15006_1, hx15006_2, hx15006_3, hx15006_4⟩ := at_T44 HR0.out x6_1 p15006 q15006
                have hw15006_4 := hx15006_4
                have hw15006_3 := hx15006_3
                have hw15006_2 := hx15006_2
                have hw15006_1 := hx15006_1
                have hw15006_0 := hx15006_0
                cases e15006
                replace hx15006_0 := (HB.out.cell (World.block_lt_of_cell? w _ hx15006_0)).trans hx15006_0
                replace hx15006_1 := (HB.out.cell (World.block_lt_of_cell? w _ hx15006_1)).trans hx15006_1
                replace hx15006_2 := (HB.out.cell (World.block_lt_of_cell? w _ hx15006_2)).trans hx15006_2
                replace hx15006_3 := (HB.out.cell (World.block_lt_of_cell? w _ hx15006_3)).trans hx15006_3
                replace hx15006_4 := (HB.out.cell (World.block_lt_of_cell? w _ hx15006_4)).trans hx15006_4
                replace p15006 := eq_true p15006
                replace q15006 := eq_true q15006
                refine start_ (n := 23) (S := fun w' => w'.cell? (ad15006.add ((x6_1).toNat * 5)) = some (.int .i64 ((rd_T44 l0 x6_1).f0)) ∧ w'.cell? ⟨(ad15006.add ((x6_1).toNat * 5)).block, (ad15006.add ((x6_1).toNat * 5)).off + 1, none⟩ = some (.int .i64 ((rd_T44 l0 x6_1).f1)) ∧ w'.cell? ⟨(ad15006.add ((x6_1).toNat * 5)).block, (ad15006.add ((x6_1).toNat * 5)).off + 2, none⟩ = some (.int .i64 ((rd_T44 l0 x6_1).f2)) ∧ w'.cell? ⟨(ad15006.add ((x6_1).toNat * 5)).block, (ad15006.add ((x6_1).toNat * 5)).off + 3, none⟩ = some (.int .i64 ((rd_T44 l0 x6_1).f3)) ∧ w'.cell? ⟨(ad15006.add ((x6_1).toNat * 5)).block, (ad15006.add ((x6_1).toNat * 5)).off + 4, none⟩ = some (.int .i64 ((rd_T44 l0 x6_1).f4))) (ds := []) #[false, false, false, false, false, false, false, false, false, false, false, false, false, false, false, false, false, false, false, false, false, false, false] (by kernel_rfl) rfl rfl ⟨((HB.out.cell (World.block_lt_of_cell? w _ hw15006_0)).trans hw15006_0), ((HB.out.cell (World.block_lt_of_cell? w _ hw15006_1)).trans hw15006_1), ((HB.out.cell (World.block_lt_of_cell? w _ hw15006_2)).trans hw15006_2), ((HB.out.cell (World.block_lt_of_cell? w _ hw15006_3)).trans hw15006_3), ((HB.out.cell (World.block_lt_of_cell? w _ hw15006_4)).trans hw15006_4)⟩ (fun hHeld => ?_); refine with_tabW papermillref34_Lost.tab9 papermillref34_Lost.bits9 (fun HT_ HW_ => ?_)
                generalize wr.drew = w16 at HO_5 HB hx15006_0 hx15006_1 hx15006_2 hx15006_3 hx15006_4 hHeld ⊢
                refine pure_ (i := 0) (N := some 22) (v := ?_) (a' := ?_) #[true, false, false, false, false, false, false, false, false, false, false, false, false, false, false, false, false, false, false, false, false, false, false] rfl rfl (any_of HT_.out (by kernel_rfl)) (fun _ _ _ h => h) (Or.inl ⟨by rfl, ?_⟩) ?_ ?_
                rotate_left
                · intro w'
                  go_simp
                  with_reducible rfl
                rotate_left
                · simp only [Act.put, List.setIfInBounds_toArray, List.set_cons_zero, List.set_cons_succ, i64_w, i32_w]
                  (first | rfl | (simp only [hji11]; rfl) | (simp only [hji20]; rfl) | (simp only [hji11, hji20]; rfl))
                refine pure_ (i := 1) (N := some 23) (v := ?_) (a' := ?_) #[true, true, false, false, false, false, false, false, false, false, false, false, false, false, false, false, false, false, false, false, false, false, false] rfl rfl (any_of HT_.out (by kernel_rfl)) (fun _ _ _ h => h) (Or.inl ⟨by rfl, ?_⟩) ?_ ?_
                rotate_left
                · intro w'
                  go_simp
                  with_reducible rfl
                rotate_left
                · simp only [Act.put, List.setIfInBounds_toArray, List.set_cons_zero, List.set_cons_succ, i64_w, i32_w]
                  (first | rfl | (simp only [hji11]; rfl) | (simp only [hji20]; rfl) | (simp only [hji11, hji20]; rfl))
                refine pure_ (i := 2) (N := some 24) (v := ?_) (a' := ?_) #[true, true, true, false, false, false, false, false, false, false, false, false, false, false, false, false, false, false, false, false, false, false, false] rfl rfl (any_of HT_.out (by kernel_rfl)) (fun _ _ _ h => h) (Or.inl ⟨by rfl, ?_⟩) ?_ ?_
                rotate_left
                · intro w'
                  go_simp
                  with_reducible rfl
                rotate_left
                · simp only [Act.put, List.setIfInBounds_toArray, List.set_cons_zero, List.set_cons_succ, i64_w, i32_w]
                  (first | rfl | (simp only [hji11]; rfl) | (simp only [hji20]; rfl) | (simp only [hji11, hji20]; rfl))
                refine pure_ (i := 3) (N := some 25) (v := ?_) (a' := ?_) #[true, true, true, true, false, false, false, false, false, false, false, false, false, false, false, false, false, false, false, false, false, false, false] rfl rfl (any_of HT_.out (by kernel_rfl)) (fun _ _ _ h => h) (Or.inl ⟨by rfl, ?_⟩) ?_ ?_
                rotate_left
                · intro w'
                  go_simp
                  with_reducible rfl
                rotate_left
                · simp only [Act.put, List.setIfInBounds_toArray, List.set_cons_zero, List.set_cons_succ, i64_w, i32_w]
                  (first | rfl | (simp only [hji11]; rfl) | (simp only [hji20]; rfl) | (simp only [hji11, hji20]; rfl))
                refine take_ (i := 4) (N := some 26) (v := ?_) (a' := ?_) #[true, true, true, true, true, false, false, false, false, false, false, false, false, false, false, false, false, false, false, false, false, false, false] rfl rfl (take_ofW HT_.out HW_.out (by kernel_rfl)) (fun _ _ _ h => h) (Or.inl ⟨by rfl, ?_⟩) hHeld ?_ ?_
                rotate_left
                · rintro w' ⟨s0, s1, s2, s3, s4⟩
                  go_simp
                  with_reducible rfl
                rotate_left
                · simp only [Act.put, List.setIfInBounds_toArray, List.set_cons_zero, List.set_cons_succ, i64_w, i32_w]
                  (first | rfl | (simp only [hji11]; rfl) | (simp only [hji20]; rfl) | (simp only [hji11, hji20]; rfl))
                refine pure_ (i := 5) (N := some 27) (v := ?_) (a' := ?_) #[true, true, true, true, true, true, false, false, false, false, false, false, false, false, false, false, false, false, false, false, false, false, false] rfl rfl (any_of HT_.out (by kernel_rfl)) (fun _ _ _ h => h) (Or.inl ⟨by rfl, ?_⟩) ?_ ?_
                rotate_left
                · intro w'
                  go_simp
                  with_reducible rfl
                rotate_left
                · simp only [Act.put, List.setIfInBounds_toArray, List.set_cons_zero, List.set_cons_succ, i64_w, i32_w]
                  (first | rfl | (simp only [hji11]; rfl) | (simp only [hji20]; rfl) | (simp only [hji11, hji20]; rfl))
                refine pure_ (i := 6) (N := some 28) (v := ?_) (a' := ?_) #[true, true, true, true, true, true, true, false, false, false, false, false, false, false, false, false, false, false, false, false, false, false, false] rfl rfl (any_of HT_.out (by kernel_rfl)) (fun _ _ _ h => h) (Or.inl ⟨by rfl, ?_⟩) ?_ ?_
                rotate_left
                · intro w'
                  go_simp
                  with_reducible rfl
                rotate_left
                · simp only [Act.put, List.setIfInBounds_toArray, List.set_cons_zero, List.set_cons_succ, i64_w, i32_w]
                  (first | rfl | (simp only [hji11]; rfl) | (simp only [hji20]; rfl) | (simp only [hji11, hji20]; rfl))
                refine pure_ (i := 7) (N := some 29) (v := undef) (a' := ?_) #[true, true, true, true, true, true, true, true, false, false, false, false, false, false, false, false, false, false, false, false, false, false, false] rfl rfl (any_of HT_.out (by kernel_rfl)) (fun _ _ _ h => h) (Or.inr ⟨by rfl, rfl⟩) ?_ ?_
                rotate_left
                · simp only [Act.put, List.setIfInBounds_toArray, List.set_cons_zero, List.set_cons_succ, i64_w, i32_w]
                  (first | rfl | (simp only [hji11]; rfl) | (simp only [hji20]; rfl) | (simp only [hji11, hji20]; rfl))
                refine pure_ (i := 8) (N := some 30) (v := undef) (a' := ?_) #[true, true, true, true, true, true, true, true, true, false, false, false, false, false, false, false, false, false, false, false, false, false, false] rfl rfl (any_of HT_.out (by kernel_rfl)) (fun _ _ _ h => h) (Or.inr ⟨by rfl, rfl⟩) ?_ ?_
                rotate_left
                · simp only [Act.put, List.setIfInBounds_toArray, List.set_cons_zero, List.set_cons_succ, i64_w, i32_w]
                  (first | rfl | (simp only [hji11]; rfl) | (simp only [hji20]; rfl) | (simp only [hji11, hji20]; rfl))
                refine pure_ (i := 9) (N := some 31) (v := ?_) (a' := ?_) #[true, true, true, true, true, true, true, true, true, true, false, false, false, false, false, false, false, false, false, false, false, false, false] rfl rfl (any_of HT_.out (by kernel_rfl)) (fun _ _ _ h => h) (Or.inl ⟨by rfl, ?_⟩) ?_ ?_
                rotate_left
                · intro w'
                  go_simp
                  with_reducible rfl
                rotate_left
                · simp only [Act.put, List.setIfInBounds_toArray, List.set_cons_zero, List.set_cons_succ, i64_w, i32_w]
                  (first | rfl | (simp only [hji11]; rfl) | (simp only [hji20]; rfl) | (simp only [hji11, hji20]; rfl))
                refine pure_ (i := 10) (N := some 32) (v := ?_) (a' := ?_) #[true, true, true, true, true, true, true, true, true, true, true, false, false, false, false, false, false, false, false, false, false, false, false] rfl rfl (any_of HT_.out (by kernel_rfl)) (fun _ _ _ h => h) (Or.inl ⟨by rfl, ?_⟩) ?_ ?_
                rotate_left
                · intro w'
                  go_simp
                  with_reducible rfl
                rotate_left
                · simp only [Act.put, List.setIfInBounds_toArray, List.set_cons_zero, List.set_cons_succ, i64_w, i32_w]
                  (first | rfl | (simp only [hji11]; rfl) | (simp only [hji20]; rfl) | (simp only [hji11, hji20]; rfl))
                refine pure_ (i := 11) (N := some 33) (v := undef) (a' := ?_) #[true, true, true, true, true, true, true, true, true, true, true, true, false, false, false, false, false, false, false, false, false, false, false] rfl rfl (any_of HT_.out (by kernel_rfl)) (fun _ _ _ h => h) (Or.inr ⟨by rfl, rfl⟩) ?_ ?_
                rotate_left
                · simp only [Act.put, List.setIfInBounds_toArray, List.set_cons_zero, List.set_cons_succ, i64_w, i32_w]
                  (first | rfl | (simp only [hji11]; rfl) | (simp only [hji20]; rfl) | (simp only [hji11, hji20]; rfl))
                refine pure_ (i := 12) (N := some 34) (v := undef) (a' := ?_) #[true, true, true, true, true, true, true, true, true, true, true, true, true, false, false, false, false, false, false, false, false, false, false] rfl rfl (any_of HT_.out (by kernel_rfl)) (fun _ _ _ h => h) (Or.inr ⟨by rfl, rfl⟩) ?_ ?_
                rotate_left
                · simp only [Act.put, List.setIfInBounds_toArray, List.set_cons_zero, List.set_cons_succ, i64_w, i32_w]
                  (first | rfl | (simp only [hji11]; rfl) | (simp only [hji20]; rfl) | (simp only [hji11, hji20]; rfl))
                refine pure_ (i := 13) (N := some 35) (v := undef) (a' := ?_) #[true, true, true, true, true, true, true, true, true, true, true, true, true, true, false, false, false, false, false, false, false, false, false] rfl rfl (any_of HT_.out (by kernel_rfl)) (fun _ _ _ h => h) (Or.inr ⟨by rfl, rfl⟩) ?_ ?_
                rotate_left
                · simp only [Act.put, List.setIfInBounds_toArray, List.set_cons_zero, List.set_cons_succ, i64_w, i32_w]
                  (first | rfl | (simp only [hji11]; rfl) | (simp only [hji20]; rfl) | (simp only [hji11, hji20]; rfl))
                refine pure_ (i := 14) (N := some 36) (v := undef) (a' := ?_) #[true, true, true, true, true, true, true, true, true, true, true, true, true, true, true, false, false, false, false, false, false, false, false] rfl rfl (any_of HT_.out (by kernel_rfl)) (fun _ _ _ h => h) (Or.inr ⟨by rfl, rfl⟩) ?_ ?_
                rotate_left
                · simp only [Act.put, List.setIfInBounds_toArray, List.set_cons_zero, List.set_cons_succ, i64_w, i32_w]
                  (first | rfl | (simp only [hji11]; rfl) | (simp only [hji20]; rfl) | (simp only [hji11, hji20]; rfl))
                refine pure_ (i := 15) (N := some 37) (v := undef) (a' := ?_) #[true, true, true, true, true, true, true, true, true, true, true, true, true, true, true, true, false, false, false, false, false, false, false] rfl rfl (any_of HT_.out (by kernel_rfl)) (fun _ _ _ h => h) (Or.inr ⟨by rfl, rfl⟩) ?_ ?_
                rotate_left
                · simp only [Act.put, List.setIfInBounds_toArray, List.set_cons_zero, List.set_cons_succ, i64_w, i32_w]
                  (first | rfl | (simp only [hji11]; rfl) | (simp only [hji20]; rfl) | (simp only [hji11, hji20]; rfl))
                refine pure_ (i := 16) (N := some 38) (v := undef) (a' := ?_) #[true, true, true, true, true, true, true, true, true, true, true, true, true, true, true, true, true, false, false, false, false, false, false] rfl rfl (any_of HT_.out (by kernel_rfl)) (fun _ _ _ h => h) (Or.inr ⟨by rfl, rfl⟩) ?_ ?_
                rotate_left
                · simp only [Act.put, List.setIfInBounds_toArray, List.set_cons_zero, List.set_cons_succ, i64_w, i32_w]
                  (first | rfl | (simp only [hji11]; rfl) | (simp only [hji20]; rfl) | (simp only [hji11, hji20]; rfl))
                refine pure_ (i := 17) (N := some 39) (v := undef) (a' := ?_) #[true, true, true, true, true, true, true, true, true, true, true, true, true, true, true, true, true, true, false, false, false, false, false] rfl rfl (any_of HT_.out (by kernel_rfl)) (fun _ _ _ h => h) (Or.inr ⟨by rfl, rfl⟩) ?_ ?_
                rotate_left
                · simp only [Act.put, List.setIfInBounds_toArray, List.set_cons_zero, List.set_cons_succ, i64_w, i32_w]
                  (first | rfl | (simp only [hji11]; rfl) | (simp only [hji20]; rfl) | (simp only [hji11, hji20]; rfl))
                refine pure_ (i := 18) (N := some 40) (v := undef) (a' := ?_) #[true, true, true, true, true, true, true, true, true, true, true, true, true, true, true, true, true, true, true, false, false, false, false] rfl rfl (any_of HT_.out (by kernel_rfl)) (fun _ _ _ h => h) (Or.inr ⟨by rfl, rfl⟩) ?_ ?_
                rotate_left
                · simp only [Act.put, List.setIfInBounds_toArray, List.set_cons_zero, List.set_cons_succ, i64_w, i32_w]
                  (first | rfl | (simp only [hji11]; rfl) | (simp only [hji20]; rfl) | (simp only [hji11, hji20]; rfl))
                refine pure_ (i := 19) (N := some 41) (v := undef) (a' := ?_) #[true, true, true, true, true, true, true, true, true, true, true, true, true, true, true, true, true, true, true, true, false, false, false] rfl rfl (any_of HT_.out (by kernel_rfl)) (fun _ _ _ h => h) (Or.inr ⟨by rfl, rfl⟩) ?_ ?_
                rotate_left
                · simp only [Act.put, List.setIfInBounds_toArray, List.set_cons_zero, List.set_cons_succ, i64_w, i32_w]
                  (first | rfl | (simp only [hji11]; rfl) | (simp only [hji20]; rfl) | (simp only [hji11, hji20]; rfl))
                refine pure_ (i := 20) (N := some 42) (v := undef) (a' := ?_) #[true, true, true, true, true, true, true, true, true, true, true, true, true, true, true, true, true, true, true, true, true, false, false] rfl rfl (any_of HT_.out (by kernel_rfl)) (fun _ _ _ h => h) (Or.inr ⟨by rfl, rfl⟩) ?_ ?_
                rotate_left
                · simp only [Act.put, List.setIfInBounds_toArray, List.set_cons_zero, List.set_cons_succ, i64_w, i32_w]
                  (first | rfl | (simp only [hji11]; rfl) | (simp only [hji20]; rfl) | (simp only [hji11, hji20]; rfl))
                refine pure_ (i := 21) (N := some 43) (v := undef) (a' := ?_) #[true, true, true, true, true, true, true, true, true, true, true, true, true, true, true, true, true, true, true, true, true, true, false] rfl rfl (any_of HT_.out (by kernel_rfl)) (fun _ _ _ h => h) (Or.inr ⟨by rfl, rfl⟩) ?_ ?_
                rotate_left
                · simp only [Act.put, List.setIfInBounds_toArray, List.set_cons_zero, List.set_cons_succ, i64_w, i32_w]
                  (first | rfl | (simp only [hji11]; rfl) | (simp only [hji20]; rfl) | (simp only [hji11, hji20]; rfl))
                refine pure_ (i := 22) (N := some 44) (v := ?_) (a' := ?_) #[true, true, true, true, true, true, true, true, true, true, true, true, true, true, true, true, true, true, true, true, true, true, true] rfl rfl (any_of HT_.out (by kernel_rfl)) (fun _ _ _ h => h) (Or.inl ⟨by rfl, ?_⟩) ?_ ?_
                rotate_left
                · intro w'
                  go_simp
                  with_reducible rfl
                rotate_left
                · simp only [Act.put, List.setIfInBounds_toArray, List.set_cons_zero, List.set_cons_succ, i64_w, i32_w]
                  (first | rfl | (simp only [hji11]; rfl) | (simp only [hji20]; rfl) | (simp only [hji11, hji20]; rfl))
                refine done_ (done_of HT_.out (by kernel_rfl)) ?_
                try go_wp2
                go_meet
                case rel => exact ⟨_, (false), (by first | rfl | (simp; done) | (simp [*]; done)), H', ⟨by have := HK1.out; first | omega | exact Nat.le_refl _⟩, ⟨by (with_reducible repeat (first | apply Kd.R_alloc | apply Kd.R_drewN | apply Kd.R_drew)); exact HO_5.out⟩, ⟨by repeat (first | (with_reducible first | exact HB.out | apply below_alloc | apply pw_below_drewN | apply below_drew1) | exact HB.out)⟩⟩
            · rw [if_neg c8] at H
              exact absurd H (by simp)
          case rest =>
            clear HC6
            try clear c1
            try clear p1
            try clear q1
            try clear hx1
            try clear p2
            try clear p6
            try clear c8
            try clear c9
            try clear c9b0
            try clear c9b1
            try clear c10
            try clear c10b0
            try clear c12
            try clear c12b0
            try clear c13
            try clear c13b0
            try clear p15
            try clear q15
            try clear hx15
            try clear hx15006_0
            try clear hx15006_1
            try clear hx15006_2
            try clear hx15006_3
            try clear hx15006_4
            try clear hx15007_0
            try clear hx15007_1
            try clear hx15008_0
            try clear hx15008_1
            try clear hx15008_2
            try clear hx15008_3
            try clear hx15008_4
            try clear p15006
            try clear p15007
            try clear p15008
            try clear q15006
            try clear q15007
            try clear q15008
            obtain ⟨kq, x44_5, rfl, HA, HJ5, HO_5, HB⟩ := hcut
            cases kq with
            | zero => exact absurd HA.out (by simp [papermillref34_Lost.j1])
            | succ kj5 =>
              have H := HA.out
              clear HA
              simp only [papermillref34_Lost.j1] at H
              by_cases c17 : x44_5 = true
              · subst c17
                have H1 : (if 0 ≤ x6_1 then (if x6_1 < (l0.length : Int) then (if 0 ≤ (wrap64 ((x5_1.length : Int) - 1)) then (if (wrap64 ((x5_1.length : Int) - 1)) < (x5_1.length : Int) then (papermillref34_Lost.l0 kj5 l0 (x5_1.set ((wrap64 ((x5_1.length : Int) - 1)) : Int).toNat (⟨(rd_T36 x5_1 (wrap64 ((x5_1.length : Int) - 1))).f0, (rd_T44 l0 x6_1).f1⟩ : S36)) (wrap64 (x6_1 + 1))) else (none)) else (none)) else (none)) else (none)) = some (r1, r2) := by rw [if_pos rfl] at H; exact H
                clear H
                have H := H1
                clear H1
                by_cases c18 : 0 ≤ x6_1
                · rw [if_pos c18] at H
                  have c18b0 : decide (0 ≤ x6_1) = true := decide_eq_true c18
                  clear c18
                  by_cases c19 : x6_1 < (l0.length : Int)
                  · rw [if_pos c19] at H
                    have c19b0 : decide (x6_1 < (l0.length : Int)) = true := decide_eq_true c19
                    clear c19
                    obtain ⟨ji20, hji20⟩ : ∃ j_ : Int, (wrap64 ((x5_1.length : Int) - 1)) = j_ := ⟨_, rfl⟩
                    replace H : (if 0 ≤ (ji20) then (if (ji20) < (x5_1.length : Int) then (papermillref34_Lost.l0 kj5 l0 (x5_1.set ((ji20) : Int).toNat (⟨(rd_T36 x5_1 (ji20)).f0, (rd_T44 l0 x6_1).f1⟩ : S36)) (wrap64 (x6_1 + 1))) else (none)) else (none)) = some (r1, r2) := by first | (rw [hji20] at H; exact H) | (simp only [hji20] at H ⊢; exact H)
                    have hji20w : (IntKind.i64.wrap ((x5_1.length : Int) - 1)) = ji20 := (i64_w _).trans hji20
                    by_cases c21 : 0 ≤ (ji20)
                    · rw [if_pos c21] at H
                      have c21b0 : decide (0 ≤ (ji20)) = true := decide_eq_true c21
                      clear c21
                      by_cases c22 : (ji20) < (x5_1.length : Int)
                      · rw [if_pos c22] at H
                        have c22b0 : decide ((ji20) < (x5_1.length : Int)) = true := decide_eq_true c22
                        clear c22
                        obtain ⟨y15010, hy15010⟩ : ∃ y_ : List (S36), y_ = (x5_1.set ((ji20) : Int).toNat (⟨(rd_T36 x5_1 (ji20)).f0, (rd_T44 l0 x6_1).f1⟩ : S36)) := ⟨_, rfl⟩
                        replace H : (papermillref34_Lost.l0 kj5 l0 y15010 (wrap64 (x6_1 + 1))) = some (r1, r2) := by first | (rw [hy15010]; with_reducible exact H) | (have H2_ := (Option.bind_some _ _).symm.trans H; rw [hy15010]; with_reducible exact H2_) | (have H2_ := (Option.bind_some _ _).symm.trans H; with_reducible exact H2_) | with_reducible exact H | (rw [hy15010]; exact H) | exact H
                        have Ny15010 := Aside0.mk hy15010
                        clear hy15010
                        have H' := Aside0.mk H
                        clear H
                        have p15009 : 0 ≤ (x6_1 : Int) := of_decide_eq_true (by first | (with_reducible assumption) | assumption)
                        have q15009 : x6_1 < (l0.length : Int) := of_decide_eq_true (by first | (with_reducible assumption) | assumption)
                        obtain ⟨ad15009, e15009, hx15009_0, hx15009_1, hx15009_2, hx15009_3, hx15009_4⟩ := at_T44 HR0.out x6_1 p15009 q15009
                        cases e15009
                        replace hx15009_0 := (HB.out.cell (World.block_lt_of_cell? w _ hx15009_0)).trans hx15009_0
                        replace hx15009_1 := (HB.out.cell (World.block_lt_of_cell? w _ hx15009_1)).trans hx15009_1
                        replace hx15009_2 := (HB.out.cell (World.block_lt_of_cell? w _ hx15009_2)).trans hx15009_2
                        replace hx15009_3 := (HB.out.cell (World.block_lt_of_cell? w _ hx15009_3)).trans hx15009_3
                        replace hx15009_4 := (HB.out.cell (World.block_lt_of_cell? w _ hx15009_4)).trans hx15009_4
                        replace p15009 := eq_true p15009
                        replace q15009 := eq_true q15009
                        have p23 : 0 ≤ ((ji20) : Int) := of_decide_eq_true (by first | (with_reducible assumption) | assumption)
                        have q23 : ((ji20) : Int) < ((x5_1.length : Int) : Int) := of_decide_eq_true (by first | (with_reducible assumption) | assumption)
                        obtain ⟨go23, co23, eo23, gb23, gl23, cl23, HG23⟩ := Kd.R_form HO_5.out (by omega)
                        (first | cases eo23 | (injection eo23 with ea_ en_ ec_; (first | subst ea_ | (injection ea_ with ea_; subst ea_)); subst ec_; clear en_))
                        have GB23 := Aside0.mk gb23
                        have GG23 := Aside0.mk HG23
                        clear gb23 gl23 HG23
                        obtain ⟨ce23, hcl23, hM23, hcc23, hfr23⟩ := Kd.R_elem HO_5.out z36 ((ji20) : Int) p23 q23
                        obtain rfl := k36_openM hM23
                        have hx23_0 : wc.cell? ⟨go23, ((ji20) : Int).toNat * 2, none⟩ = some (.int .i64 ((rd_T36 x5_1 (ji20)).f0)) := hcc23 0 _ rfl
                        have hx23_1 : wc.cell? ⟨go23, ((ji20) : Int).toNat * 2 + 1, none⟩ = some (.int .i64 ((rd_T36 x5_1 (ji20)).f1)) := hcc23 1 _ rfl
                        have hf23_0 : wc.frozen? ⟨go23, ((ji20) : Int).toNat * 2, none⟩ = false := hfr23 0
                        have hf23_1 : wc.frozen? ⟨go23, ((ji20) : Int).toNat * 2 + 1, none⟩ = false := hfr23 1
                        clear hcl23 hcc23 hfr23 hM23
                        replace p23 := eq_true p23
                        replace q23 := eq_true q23
                        have HX24 := Aside0.mk (show Kd.R k36 36 wc w.heap.size (fun _ => True) (.slice (some ⟨go23, 0, none⟩) x5_1.length co7) x5_1 from (by (with_reducible repeat (first | apply Kd.R_alloc | apply Kd.R_drewN | apply Kd.R_drew)); exact HO_5.out))
                        obtain ⟨ce24, hcl24, hM24, hcc24, hfr24⟩ := Kd.R_elem HX24.out z36 ((ji20) : Int) (of_decide_eq_true (by first | (with_reducible assumption) | assumption)) (by have h_ : ((ji20) : Int) < ((x5_1.length : Int) : Int) := of_decide_eq_true (by first | (with_reducible assumption) | assumption); first | exact h_ | (have e_ := (Kd.R_reads' HO_5.out).1; omega) | simpa using h_)
                        obtain rfl := k36_openM hM24
                        have HP24 := Kd.R_seg HX24.out ((ji20) : Int) (of_decide_eq_true (by first | (with_reducible assumption) | assumption)) (by have h_ : ((ji20) : Int) < ((x5_1.length : Int) : Int) := of_decide_eq_true (by first | (with_reducible assumption) | assumption); first | exact h_ | (have e_ := (Kd.R_reads' HO_5.out).1; omega) | simpa using h_) (seg := [.int .i64 ((rd_T44 l0 x6_1).f1)]) (j := 1) hcl24 hcc24 (show 2 ≤ 2 from by decide) (x' := (⟨(rd_T36 x5_1 (ji20)).f0, (rd_T44 l0 x6_1).f1⟩ : S36)) (k36_mkM _ _ _ (⟨(rd_T36 x5_1 (ji20)).f0, (rd_T44 l0 x6_1).f1⟩ : S36) ) (fun _ hk => hk)
                        have hx24_1 := hcc24 1 _ rfl
                        (try simp only [show (k36).sz = 2 from rfl, Nat.mul_one, Nat.add_zero] at hx24_1)
                        have hf24_1 := hfr24 1
                        (try simp only [show (k36).sz = 2 from rfl, Nat.mul_one, Nat.add_zero] at hf24_1)
                        clear hcl24 hcc24 hfr24 hM24
                        go_wp2_with (first | ((with_reducible refine gate_store (t := 3) (p := 53) rfl ?_); refine store_event (t := 3) (p := 53) (v := ?vo_w25) (w1 := (wc.setCell ⟨go23, ((ji20) : Int).toNat * 2 + 1, none⟩ (.int .i64 ((rd_T44 l0 x6_1).f1)))) ?hg ?ho ?hn ?hr ?_; (case ho => rfl); (case hg => rfl); (case hn => rfl); (case hr => first | (go_simp; done) | (go_simp; rfl)); intro w25 hw; have hg : wc.grownBy w25 (some go23) := (by rw [hw]; exact HP24.2); have hp_ : Kd.R k36 36 w25 w.heap.size (fun _ => True) (.slice (some ⟨go23, 0, none⟩) x5_1.length co7) y15010 := (by rw [hw, Ny15010.out]; exact HP24.1); clear HP24; have n0_ := Aside0.mk (hp_); have n1_ := Aside0.mk ((by rw [hw]; exact below_set (HB.out) GB23.out : Below w.heap.size w w25)); clear HO_5; clear HB; have HO_5 := n0_; have HB := n1_; clear n0_ n1_; clear hg hw hp_))
                        go_roundg kj5
                        case measure => have := HK1.out; have := HJ5.out; omega
                        case rel => exact ⟨(y15010), (wrap64 (x6_1 + 1)), (by first | rfl | (simp; done) | (simp [*]; done)), H', ⟨by have := HK1.out; have := HJ5.out; omega⟩, ⟨by (with_reducible repeat (first | apply Kd.R_alloc | apply Kd.R_drewN | apply Kd.R_drew)); exact HO_5.out⟩, ⟨by repeat (first | (with_reducible first | exact HB.out | apply below_alloc | apply pw_below_drewN | apply below_drew1) | exact HB.out)⟩⟩
                      · rw [if_neg c22] at H
                        exact absurd H (by simp)
                    · rw [if_neg c21] at H
                      exact absurd H (by simp)
                  · rw [if_neg c19] at H
                    exact absurd H (by simp)
                · rw [if_neg c18] at H
                  exact absurd H (by simp)
              · replace c17 := Bool.eq_false_iff.mpr c17
                subst c17
                have H1 : (if 0 ≤ x6_1 then (if x6_1 < (l0.length : Int) then (if ((rd_T44 l0 x6_1).f2) = 3 then (if x5_1.length < 8796093022208 then (papermillref34_Lost.l0 kj5 l0 (x5_1 ++ [(⟨(rd_T44 l0 x6_1).f0, (rd_T44 l0 x6_1).f1⟩ : S36)]) (wrap64 (x6_1 + 1))) else (none)) else (papermillref34_Lost.l0 kj5 l0 x5_1 (wrap64 (x6_1 + 1)))) else (none)) else (none)) = some (r1, r2) := by rw [if_neg (show ¬ (false = true) by decide)] at H; exact H
                clear H
                have H := H1
                clear H1
                by_cases c26 : 0 ≤ x6_1
                · rw [if_pos c26] at H
                  have c26b0 : decide (0 ≤ x6_1) = true := decide_eq_true c26
                  clear c26
                  by_cases c27 : x6_1 < (l0.length : Int)
                  · rw [if_pos c27] at H
                    have c27b0 : decide (x6_1 < (l0.length : Int)) = true := decide_eq_true c27
                    clear c27
                    by_cases c28 : ((rd_T44 l0 x6_1).f2) = 3
                    · rw [if_pos c28] at H
                      have c28b0 : (((rd_T44 l0 x6_1).f2) == 3) = true := beq_iff_eq.mpr c28
                      have c28b1 : (((rd_T44 l0 x6_1).f2) != 3) = false := bne_eq_false_iff_eq.mpr c28
                      clear c28
                      by_cases c29 : x5_1.length < 8796093022208
                      · rw [if_pos c29] at H
                        have LMc29 := Aside0.mk c29
                        clear c29
                        obtain ⟨y15014, hy15014⟩ : ∃ y_ : List (S36), y_ = (x5_1 ++ [(⟨(rd_T44 l0 x6_1).f0, (rd_T44 l0 x6_1).f1⟩ : S36)]) := ⟨_, rfl⟩
                        replace H : (papermillref34_Lost.l0 kj5 l0 y15014 (wrap64 (x6_1 + 1))) = some (r1, r2) := by first | (rw [hy15014]; with_reducible exact H) | (have H2_ := (Option.bind_some _ _).symm.trans H; rw [hy15014]; with_reducible exact H2_) | (have H2_ := (Option.bind_some _ _).symm.trans H; with_reducible exact H2_) | with_reducible exact H | (rw [hy15014]; exact H) | exact H
                        have Ny15014 := Aside0.mk hy15014
                        clear hy15014
                        have H' := Aside0.mk H
                        clear H
                        have p15011 : 0 ≤ (x6_1 : Int) := of_decide_eq_true (by first | (with_reducible assumption) | assumption)
                        have q15011 : x6_1 < (l0.length : Int) := of_decide_eq_true (by first | (with_reducible assumption) | assumption)
                        obtain ⟨ad15011, e15011, hx15011_0, hx15011_1, hx15011_2, hx15011_3, hx15011_4⟩ := at_T44 HR0.out x6_1 p15011 q15011
                        cases e15011
                        replace hx15011_0 := (HB.out.cell (World.block_lt_of_cell? w _ hx15011_0)).trans hx15011_0
                        replace hx15011_1 := (HB.out.cell (World.block_lt_of_cell? w _ hx15011_1)).trans hx15011_1
                        replace hx15011_2 := (HB.out.cell (World.block_lt_of_cell? w _ hx15011_2)).trans hx15011_2
                        replace hx15011_3 := (HB.out.cell (World.block_lt_of_cell? w _ hx15011_3)).trans hx15011_3
                        replace hx15011_4 := (HB.out.cell (World.block_lt_of_cell? w _ hx15011_4)).trans hx15011_4
                        replace p15011 := eq_true p15011
                        replace q15011 := eq_true q15011
                        try go_wp2
                        have n0_ := Aside0.mk (Kd.R_drew HO_5.out)
                        have n1_ := Aside0.mk (below_drew1 HB.out)
                        clear HO_5
                        clear HB
                        have HO_5 := n0_
                        have HB := n1_
                        clear n0_ n1_
                        have p15012 : 0 ≤ (x6_1 : Int) := of_decide_eq_true (by first | (with_reducible assumption) | assumption)
                        have q15012 : x6_1 < (l0.length : Int) := of_decide_eq_true (by first | (with_reducible assumption) | assumption)
                        obtain ⟨ad15012, e15012, hx15012_0, hx15012_1, hx15012_2, hx15012_3, hx15012_4⟩ := at_T44 HR0.out x6_1 p15012 q15012
                        have hw15012_4 := hx15012_4
                        have hw15012_3 := hx15012_3
                        have hw15012_2 := hx15012_2
                        have hw15012_1 := hx15012_1
                        have hw15012_0 := hx15012_0
                        obtain rfl : ad15011 = ad15012 := (by injection e15012)
                        replace hx15012_0 := (HB.out.cell (World.block_lt_of_cell? w _ hx15012_0)).trans hx15012_0
                        replace hx15012_1 := (HB.out.cell (World.block_lt_of_cell? w _ hx15012_1)).trans hx15012_1
                        replace hx15012_2 := (HB.out.cell (World.block_lt_of_cell? w _ hx15012_2)).trans hx15012_2
                        replace hx15012_3 := (HB.out.cell (World.block_lt_of_cell? w _ hx15012_3)).trans hx15012_3
                        replace hx15012_4 := (HB.out.cell (World.block_lt_of_cell? w _ hx15012_4)).trans hx15012_4
                        replace p15012 := eq_true p15012
                        replace q15012 := eq_true q15012
                        have p15013 : 0 ≤ (x6_1 : Int) := of_decide_eq_true (by first | (with_reducible assumption) | assumption)
                        have q15013 : x6_1 < (l0.length : Int) := of_decide_eq_true (by first | (with_reducible assumption) | assumption)
                        obtain ⟨ad15013, e15013, hx15013_0, hx15013_1, hx15013_2, hx15013_3, hx15013_4⟩ := at_T44 HR0.out x6_1 p15013 q15013
                        have hw15013_4 := hx15013_4
                        have hw15013_3 := hx15013_3
                        have hw15013_2 := hx15013_2
                        have hw15013_1 := hx15013_1
                        have hw15013_0 := hx15013_0
                        obtain rfl : ad15011 = ad15013 := (by injection e15013)
                        replace hx15013_0 := (HB.out.cell (World.block_lt_of_cell? w _ hx15013_0)).trans hx15013_0
                        replace hx15013_1 := (HB.out.cell (World.block_lt_of_cell? w _ hx15013_1)).trans hx15013_1
                        replace hx15013_2 := (HB.out.cell (World.block_lt_of_cell? w _ hx15013_2)).trans hx15013_2
                        replace hx15013_3 := (HB.out.cell (World.block_lt_of_cell? w _ hx15013_3)).trans hx15013_3
                        replace hx15013_4 := (HB.out.cell (World.block_lt_of_cell? w _ hx15013_4)).trans hx15013_4
                        replace p15013 := eq_true p15013
                        replace q15013 := eq_true q15013
                        refine start_ (n := 15) (S := fun w' => w'.cell? (ad15011.add ((x6_1).toNat * 5)) = some (.int .i64 ((rd_T44 l0 x6_1).f0)) ∧ w'.cell? ⟨(ad15011.add ((x6_1).toNat * 5)).block, (ad15011.add ((x6_1).toNat * 5)).off + 1, none⟩ = some (.int .i64 ((rd_T44 l0 x6_1).f1)) ∧ w'.cell? ⟨(ad15011.add ((x6_1).toNat * 5)).block, (ad15011.add ((x6_1).toNat * 5)).off + 2, none⟩ = some (.int .i64 ((rd_T44 l0 x6_1).f2)) ∧ w'.cell? ⟨(ad15011.add ((x6_1).toNat * 5)).block, (ad15011.add ((x6_1).toNat * 5)).off + 3, none⟩ = some (.int .i64 ((rd_T44 l0 x6_1).f3)) ∧ w'.cell? ⟨(ad15011.add ((x6_1).toNat * 5)).block, (ad15011.add ((x6_1).toNat * 5)).off + 4, none⟩ = some (.int .i64 ((rd_T44 l0 x6_1).f4)) ∧ w'.cell? (ad15011.add ((x6_1).toNat * 5)) = some (.int .i64 ((rd_T44 l0 x6_1).f0)) ∧ w'.cell? ⟨(ad15011.add ((x6_1).toNat * 5)).block, (ad15011.add ((x6_1).toNat * 5)).off + 1, none⟩ = some (.int .i64 ((rd_T44 l0 x6_1).f1)) ∧ w'.cell? ⟨(ad15011.add ((x6_1).toNat * 5)).block, (ad15011.add ((x6_1).toNat * 5)).off + 2, none⟩ = some (.int .i64 ((rd_T44 l0 x6_1).f2)) ∧ w'.cell? ⟨(ad15011.add ((x6_1).toNat * 5)).block, (ad15011.add ((x6_1).toNat * 5)).off + 3, none⟩ = some (.int .i64 ((rd_T44 l0 x6_1).f3)) ∧ w'.cell? ⟨(ad15011.add ((x6_1).toNat * 5)).block, (ad15011.add ((x6_1).toNat * 5)).off + 4, none⟩ = some (.int .i64 ((rd_T44 l0 x6_1).f4))) (ds := []) #[false, false, false, false, false, false, false, false, false, false, false, false, false, false, false] (by kernel_rfl) rfl rfl ⟨((HB.out.cell (World.block_lt_of_cell? w _ hw15012_0)).trans hw15012_0), ((HB.out.cell (World.block_lt_of_cell? w _ hw15012_1)).trans hw15012_1), ((HB.out.cell (World.block_lt_of_cell? w _ hw15012_2)).trans hw15012_2), ((HB.out.cell (World.block_lt_of_cell? w _ hw15012_3)).trans hw15012_3), ((HB.out.cell (World.block_lt_of_cell? w _ hw15012_4)).trans hw15012_4), ((HB.out.cell (World.block_lt_of_cell? w _ hw15013_0)).trans hw15013_0), ((HB.out.cell (World.block_lt_of_cell? w _ hw15013_1)).trans hw15013_1), ((HB.out.cell (World.block_lt_of_cell? w _ hw15013_2)).trans hw15013_2), ((HB.out.cell (World.block_lt_of_cell? w _ hw15013_3)).trans hw15013_3), ((HB.out.cell (World.block_lt_of_cell? w _ hw15013_4)).trans hw15013_4)⟩ (fun hHeld => ?_); refine with_tabW papermillref34_Lost.tab12 papermillref34_Lost.bits12 (fun HT_ HW_ => ?_)
                        generalize wc.drew = w30 at HO_5 HB hx15012_0 hx15012_1 hx15012_2 hx15012_3 hx15012_4 hx15013_0 hx15013_1 hx15013_2 hx15013_3 hx15013_4 hHeld ⊢
                        refine pure_ (i := 0) (N := some 60) (v := ?_) (a' := ?_) #[true, false, false, false, false, false, false, false, false, false, false, false, false, false, false] rfl rfl (any_of HT_.out (by kernel_rfl)) (fun _ _ _ h => h) (Or.inl ⟨by rfl, ?_⟩) ?_ ?_
                        rotate_left
                        · intro w'
                          go_simp
                          with_reducible rfl
                        rotate_left
                        · simp only [Act.put, List.setIfInBounds_toArray, List.set_cons_zero, List.set_cons_succ, i64_w, i32_w]
                          (first | rfl | (simp only [hji11]; rfl) | (simp only [hji20]; rfl) | (simp only [hji11, hji20]; rfl))
                        refine pure_ (i := 1) (N := some 61) (v := ?_) (a' := ?_) #[true, true, false, false, false, false, false, false, false, false, false, false, false, false, false] rfl rfl (any_of HT_.out (by kernel_rfl)) (fun _ _ _ h => h) (Or.inl ⟨by rfl, ?_⟩) ?_ ?_
                        rotate_left
                        · intro w'
                          go_simp
                          with_reducible rfl
                        rotate_left
                        · simp only [Act.put, List.setIfInBounds_toArray, List.set_cons_zero, List.set_cons_succ, i64_w, i32_w]
                          (first | rfl | (simp only [hji11]; rfl) | (simp only [hji20]; rfl) | (simp only [hji11, hji20]; rfl))
                        refine pure_ (i := 2) (N := some 62) (v := ?_) (a' := ?_) #[true, true, true, false, false, false, false, false, false, false, false, false, false, false, false] rfl rfl (any_of HT_.out (by kernel_rfl)) (fun _ _ _ h => h) (Or.inl ⟨by rfl, ?_⟩) ?_ ?_
                        rotate_left
                        · intro w'
                          go_simp
                          with_reducible rfl
                        rotate_left
                        · simp only [Act.put, List.setIfInBounds_toArray, List.set_cons_zero, List.set_cons_succ, i64_w, i32_w]
                          (first | rfl | (simp only [hji11]; rfl) | (simp only [hji20]; rfl) | (simp only [hji11, hji20]; rfl))
                        refine pure_ (i := 3) (N := some 63) (v := ?_) (a' := ?_) #[true, true, true, true, false, false, false, false, false, false, false, false, false, false, false] rfl rfl (any_of HT_.out (by kernel_rfl)) (fun _ _ _ h => h) (Or.inl ⟨by rfl, ?_⟩) ?_ ?_
                        rotate_left
                        · intro w'
                          go_simp
                          with_reducible rfl
                        rotate_left
                        · simp only [Act.put, List.setIfInBounds_toArray, List.set_cons_zero, List.set_cons_succ, i64_w, i32_w]
                          (first | rfl | (simp only [hji11]; rfl) | (simp only [hji20]; rfl) | (simp only [hji11, hji20]; rfl))
                        refine pure_ (i := 4) (N := some 64) (v := ?_) (a' := ?_) #[true, true, true, true, true, false, false, false, false, false, false, false, false, false, false] rfl rfl (any_of HT_.out (by kernel_rfl)) (fun _ _ _ h => h) (Or.inl ⟨by rfl, ?_⟩) ?_ ?_
                        rotate_left
                        · intro w'
                          go_simp
                          with_reducible rfl
                        rotate_left
                        · simp only [Act.put, List.setIfInBounds_toArray, List.set_cons_zero, List.set_cons_succ, i64_w, i32_w]
                          (first | rfl | (simp only [hji11]; rfl) | (simp only [hji20]; rfl) | (simp only [hji11, hji20]; rfl))
                        refine pure_ (i := 6) (N := some 66) (v := ?_) (a' := ?_) #[true, true, true, true, true, false, true, false, false, false, false, false, false, false, false] rfl rfl (any_of HT_.out (by kernel_rfl)) (fun _ _ _ h => h) (Or.inl ⟨by rfl, ?_⟩) ?_ ?_
                        rotate_left
                        · intro w'
                          go_simp
                          with_reducible rfl
                        rotate_left
                        · simp only [Act.put, List.setIfInBounds_toArray, List.set_cons_zero, List.set_cons_succ, i64_w, i32_w]
                          (first | rfl | (simp only [hji11]; rfl) | (simp only [hji20]; rfl) | (simp only [hji11, hji20]; rfl))
                        refine pure_ (i := 7) (N := some 67) (v := ?_) (a' := ?_) #[true, true, true, true, true, false, true, true, false, false, false, false, false, false, false] rfl rfl (any_of HT_.out (by kernel_rfl)) (fun _ _ _ h => h) (Or.inl ⟨by rfl, ?_⟩) ?_ ?_
                        rotate_left
                        · intro w'
                          go_simp
                          with_reducible rfl
                        rotate_left
                        · simp only [Act.put, List.setIfInBounds_toArray, List.set_cons_zero, List.set_cons_succ, i64_w, i32_w]
                          (first | rfl | (simp only [hji11]; rfl) | (simp only [hji20]; rfl) | (simp only [hji11, hji20]; rfl))
                        refine pure_ (i := 8) (N := some 68) (v := ?_) (a' := ?_) #[true, true, true, true, true, false, true, true, true, false, false, false, false, false, false] rfl rfl (any_of HT_.out (by kernel_rfl)) (fun _ _ _ h => h) (Or.inl ⟨by rfl, ?_⟩) ?_ ?_
                        rotate_left
                        · intro w'
                          go_simp
                          with_reducible rfl
                        rotate_left
                        · simp only [Act.put, List.setIfInBounds_toArray, List.set_cons_zero, List.set_cons_succ, i64_w, i32_w]
                          (first | rfl | (simp only [hji11]; rfl) | (simp only [hji20]; rfl) | (simp only [hji11, hji20]; rfl))
                        refine pure_ (i := 9) (N := some 69) (v := ?_) (a' := ?_) #[true, true, true, true, true, false, true, true, true, true, false, false, false, false, false] rfl rfl (any_of HT_.out (by kernel_rfl)) (fun _ _ _ h => h) (Or.inl ⟨by rfl, ?_⟩) ?_ ?_
                        rotate_left
                        · intro w'
                          go_simp
                          with_reducible rfl
                        rotate_left
                        · simp only [Act.put, List.setIfInBounds_toArray, List.set_cons_zero, List.set_cons_succ, i64_w, i32_w]
                          (first | rfl | (simp only [hji11]; rfl) | (simp only [hji20]; rfl) | (simp only [hji11, hji20]; rfl))
                        refine take_ (i := 5) (N := some 65) (v := ?_) (a' := ?_) #[true, true, true, true, true, true, true, true, true, true, false, false, false, false, false] rfl rfl (take_ofW HT_.out HW_.out (by kernel_rfl)) (fun _ _ _ h => h) (Or.inl ⟨by rfl, ?_⟩) hHeld ?_ ?_
                        rotate_left
                        · rintro w' ⟨s0, s1, s2, s3, s4, s5, s6, s7, s8, s9⟩
                          go_simp
                          with_reducible rfl
                        rotate_left
                        · simp only [Act.put, List.setIfInBounds_toArray, List.set_cons_zero, List.set_cons_succ, i64_w, i32_w]
                          (first | rfl | (simp only [hji11]; rfl) | (simp only [hji20]; rfl) | (simp only [hji11, hji20]; rfl))
                        refine take_ (i := 10) (N := some 70) (v := ?_) (a' := ?_) #[true, true, true, true, true, true, true, true, true, true, true, false, false, false, false] rfl rfl (take_ofW HT_.out HW_.out (by kernel_rfl)) (fun _ _ _ h => h) (Or.inl ⟨by rfl, ?_⟩) hHeld ?_ ?_
                        rotate_left
                        · rintro w' ⟨s0, s1, s2, s3, s4, s5, s6, s7, s8, s9⟩
                          go_simp
                          with_reducible rfl
                        rotate_left
                        · simp only [Act.put, List.setIfInBounds_toArray, List.set_cons_zero, List.set_cons_succ, i64_w, i32_w]
                          (first | rfl | (simp only [hji11]; rfl) | (simp only [hji20]; rfl) | (simp only [hji11, hji20]; rfl))
                        refine pure_ (i := 11) (N := some 71) (v := ?_) (a' := ?_) #[true, true, true, true, true, true, true, true, true, true, true, true, false, false, false] rfl rfl (any_of HT_.out (by kernel_rfl)) (fun _ _ _ h => h) (Or.inl ⟨by rfl, ?_⟩) ?_ ?_
                        rotate_left
                        · intro w'
                          go_simp
                          with_reducible rfl
                        rotate_left
                        · simp only [Act.put, List.setIfInBounds_toArray, List.set_cons_zero, List.set_cons_succ, i64_w, i32_w]
                          (first | rfl | (simp only [hji11]; rfl) | (simp only [hji20]; rfl) | (simp only [hji11, hji20]; rfl))
                        refine one_ (i := 12) (N := some 72) #[true, true, true, true, true, true, true, true, true, true, true, true, true, false, false] rfl rfl (one_of HT_.out (by kernel_rfl)) (by decide) (fun K hK => ?_)
                        refine value_ (w1 := ?_) (v := ?_) (by rfl) rfl ?_ ?_
                        rotate_left 2
                        · go_simp
                          constructor
                          · rfl
                          · rfl
                        refine hK.out _ _ ⟨(World.cell?_alloc_lt _ _ _ (World.block_lt_of_cell? _ _ (((HB.out.cell (World.block_lt_of_cell? w _ hw15012_0)).trans hw15012_0)))).trans (((HB.out.cell (World.block_lt_of_cell? w _ hw15012_0)).trans hw15012_0)), (World.cell?_alloc_lt _ _ _ (World.block_lt_of_cell? _ _ (((HB.out.cell (World.block_lt_of_cell? w _ hw15012_1)).trans hw15012_1)))).trans (((HB.out.cell (World.block_lt_of_cell? w _ hw15012_1)).trans hw15012_1)), (World.cell?_alloc_lt _ _ _ (World.block_lt_of_cell? _ _ (((HB.out.cell (World.block_lt_of_cell? w _ hw15012_2)).trans hw15012_2)))).trans (((HB.out.cell (World.block_lt_of_cell? w _ hw15012_2)).trans hw15012_2)), (World.cell?_alloc_lt _ _ _ (World.block_lt_of_cell? _ _ (((HB.out.cell (World.block_lt_of_cell? w _ hw15012_3)).trans hw15012_3)))).trans (((HB.out.cell (World.block_lt_of_cell? w _ hw15012_3)).trans hw15012_3)), (World.cell?_alloc_lt _ _ _ (World.block_lt_of_cell? _ _ (((HB.out.cell (World.block_lt_of_cell? w _ hw15012_4)).trans hw15012_4)))).trans (((HB.out.cell (World.block_lt_of_cell? w _ hw15012_4)).trans hw15012_4)), (World.cell?_alloc_lt _ _ _ (World.block_lt_of_cell? _ _ (((HB.out.cell (World.block_lt_of_cell? w _ hw15013_0)).trans hw15013_0)))).trans (((HB.out.cell (World.block_lt_of_cell? w _ hw15013_0)).trans hw15013_0)), (World.cell?_alloc_lt _ _ _ (World.block_lt_of_cell? _ _ (((HB.out.cell (World.block_lt_of_cell? w _ hw15013_1)).trans hw15013_1)))).trans (((HB.out.cell (World.block_lt_of_cell? w _ hw15013_1)).trans hw15013_1)), (World.cell?_alloc_lt _ _ _ (World.block_lt_of_cell? _ _ (((HB.out.cell (World.block_lt_of_cell? w _ hw15013_2)).trans hw15013_2)))).trans (((HB.out.cell (World.block_lt_of_cell? w _ hw15013_2)).trans hw15013_2)), (World.cell?_alloc_lt _ _ _ (World.block_lt_of_cell? _ _ (((HB.out.cell (World.block_lt_of_cell? w _ hw15013_3)).trans hw15013_3)))).trans (((HB.out.cell (World.block_lt_of_cell? w _ hw15013_3)).trans hw15013_3)), (World.cell?_alloc_lt _ _ _ (World.block_lt_of_cell? _ _ (((HB.out.cell (World.block_lt_of_cell? w _ hw15013_4)).trans hw15013_4)))).trans (((HB.out.cell (World.block_lt_of_cell? w _ hw15013_4)).trans hw15013_4))⟩ (fun hHeld => ?_)
                        clear hK K
                        refine norm_ (a' := ?_) ?_ ?_
                        rotate_left
                        · show Act.put _ (some 72) _ = _
                          simp only [Act.put, List.setIfInBounds_toArray, List.set_cons_zero, List.set_cons_succ, i64_w, i32_w]
                          (first | rfl | (simp only [hji11]; rfl) | (simp only [hji20]; rfl) | (simp only [hji11, hji20]; rfl))
                        refine one_ (i := 13) (N := some 73) #[true, true, true, true, true, true, true, true, true, true, true, true, true, true, false] rfl rfl (one_of HT_.out (by kernel_rfl)) (by decide) (fun K hK => ?_)
                        refine Kd.R_append_step k36 (w0 := w) w.heap.size (by rfl) (.tmp 60) (.tmp 72) 25 36 (.agg #[(.int .i64 0), (.int .i64 0)]) 16 rfl Try.underlying25 info36 rfl (by decide) (by omega) (.slice Ao7 x5_1.length co7) x5_1 (⟨(rd_T44 l0 x6_1).f0, (rd_T44 l0 x6_1).f1⟩ : S36) [.int .i64 ((rd_T44 l0 x6_1).f0), .int .i64 ((rd_T44 l0 x6_1).f1)] (fun _ => True) (fun _ => False) rfl rfl ?aP (fun _ hk => hk.elim) ?aF ?aO ?aB ?aS ?aL ?_
                        (case aP => exact k36_mkM _ _ _ (⟨(rd_T44 l0 x6_1).f0, (rd_T44 l0 x6_1).f1⟩ : S36))
                        (case aB => exact (by repeat (first | (with_reducible first | exact HB.out | apply below_alloc | apply pw_below_drewN | apply below_drew1) | exact HB.out)))
                        (case aF => exact (fun _ _ => trivial))
                        (case aO => exact (by (with_reducible repeat (first | apply Kd.R_alloc | apply Kd.R_drewN | apply Kd.R_drew)); exact HO_5.out))
                        (case aS => exact (below_size (by repeat (first | (with_reducible first | exact HB.out | apply below_alloc | apply pw_below_drewN | apply below_drew1) | exact HB.out))))
                        (case aL => have := LMc29.out; omega)
                        intro v15015 w31 ho hb hg hat
                        rw [← Ny15014.out] at ho
                        have n0_ := Aside0.mk (hb)
                        have n1_ := Aside0.mk (ho)
                        clear HB
                        clear HO_5
                        have HB := n0_
                        have HO15016 := n1_
                        clear n0_ n1_
                        clear ho hb hg hat
                        refine hK.out _ _ ⟨((HB.out.cell (World.block_lt_of_cell? w _ hw15012_0)).trans hw15012_0), ((HB.out.cell (World.block_lt_of_cell? w _ hw15012_1)).trans hw15012_1), ((HB.out.cell (World.block_lt_of_cell? w _ hw15012_2)).trans hw15012_2), ((HB.out.cell (World.block_lt_of_cell? w _ hw15012_3)).trans hw15012_3), ((HB.out.cell (World.block_lt_of_cell? w _ hw15012_4)).trans hw15012_4), ((HB.out.cell (World.block_lt_of_cell? w _ hw15013_0)).trans hw15013_0), ((HB.out.cell (World.block_lt_of_cell? w _ hw15013_1)).trans hw15013_1), ((HB.out.cell (World.block_lt_of_cell? w _ hw15013_2)).trans hw15013_2), ((HB.out.cell (World.block_lt_of_cell? w _ hw15013_3)).trans hw15013_3), ((HB.out.cell (World.block_lt_of_cell? w _ hw15013_4)).trans hw15013_4)⟩ (fun hHeld => ?_)
                        clear hK K
                        refine norm_ (a' := ?_) ?_ ?_
                        rotate_left
                        · show Act.put _ (some 73) _ = _
                          simp only [Act.put, List.setIfInBounds_toArray, List.set_cons_zero, List.set_cons_succ, i64_w, i32_w]
                          (first | rfl | (simp only [hji11]; rfl) | (simp only [hji20]; rfl) | (simp only [hji11, hji20]; rfl))
                        refine pure_ (i := 14) (N := some 5) (v := ?_) (a' := ?_) #[true, true, true, true, true, true, true, true, true, true, true, true, true, true, true] rfl rfl (any_of HT_.out (by kernel_rfl)) (fun _ _ _ h => h) (Or.inl ⟨by rfl, ?_⟩) ?_ ?_
                        rotate_left
                        · intro w'
                          go_simp
                          with_reducible rfl
                        rotate_left
                        · simp only [Act.put, List.setIfInBounds_toArray, List.set_cons_zero, List.set_cons_succ, i64_w, i32_w]
                          (first | rfl | (simp only [hji11]; rfl) | (simp only [hji20]; rfl) | (simp only [hji11, hji20]; rfl))
                        refine done_ (done_of HT_.out (by kernel_rfl)) ?_
                        try go_wp2
                        go_roundg kj5
                        case measure => have := HK1.out; have := HJ5.out; omega
                        case rel => exact ⟨(y15014), (wrap64 (x6_1 + 1)), (by first | rfl | (simp; done) | (simp [*]; done)), H', ⟨by have := HK1.out; have := HJ5.out; omega⟩, ⟨by (with_reducible repeat (first | apply Kd.R_alloc | apply Kd.R_drewN | apply Kd.R_drew)); exact HO15016.out⟩, ⟨by repeat (first | (with_reducible first | exact HB.out | apply below_alloc | apply pw_below_drewN | apply below_drew1) | exact HB.out)⟩⟩
                      · rw [if_neg c29] at H
                        exact absurd H (by simp)
                    · rw [if_neg c28] at H
                      have c28b0 : (((rd_T44 l0 x6_1).f2) == 3) = false := beq_eq_false_iff_ne.mpr c28
                      have c28b1 : (((rd_T44 l0 x6_1).f2) != 3) = true := bne_iff_ne.mpr c28
                      have H' := Aside0.mk H
                      clear H
                      have p15011 : 0 ≤ (x6_1 : Int) := of_decide_eq_true (by first | (with_reducible assumption) | assumption)
                      have q15011 : x6_1 < (l0.length : Int) := of_decide_eq_true (by first | (with_reducible assumption) | assumption)
                      obtain ⟨ad15011, e15011, hx15011_0, hx15011_1, hx15011_2, hx15011_3, hx15011_4⟩ := at_T44 HR0.out x6_1 p15011 q15011
                      cases e15011
                      replace hx15011_0 := (HB.out.cell (World.block_lt_of_cell? w _ hx15011_0)).trans hx15011_0
                      replace hx15011_1 := (HB.out.cell (World.block_lt_of_cell? w _ hx15011_1)).trans hx15011_1
                      replace hx15011_2 := (HB.out.cell (World.block_lt_of_cell? w _ hx15011_2)).trans hx15011_2
                      replace hx15011_3 := (HB.out.cell (World.block_lt_of_cell? w _ hx15011_3)).trans hx15011_3
                      replace hx15011_4 := (HB.out.cell (World.block_lt_of_cell? w _ hx15011_4)).trans hx15011_4
                      replace p15011 := eq_true p15011
                      replace q15011 := eq_true q15011
                      go_wp2
                      go_roundg kj5
                      case measure => have := HK1.out; have := HJ5.out; omega
                      case rel => exact ⟨(x5_1), (wrap64 (x6_1 + 1)), (by first | rfl | (simp; done) | (simp [*]; done)), H', ⟨by have := HK1.out; have := HJ5.out; omega⟩, ⟨by (with_reducible repeat (first | apply Kd.R_alloc | apply Kd.R_drewN | apply Kd.R_drew)); exact HO_5.out⟩, ⟨by repeat (first | (with_reducible first | exact HB.out | apply below_alloc | apply pw_below_drewN | apply below_drew1) | exact HB.out)⟩⟩
                  · rw [if_neg c27] at H
                    exact absurd H (by simp)
                · rw [if_neg c26] at H
                  exact absurd H (by simp)
        · rw [if_neg c5] at H
          have c5b0 : decide (x6_1 < (l0.length : Int)) = false := decide_eq_false c5
          clear c5
          replace H := Option.bind_eq_some_iff.mp H
          obtain ⟨⟨t15002, t15003⟩, A320, H⟩ := H
          replace H : (some (t15002, t15003)) = some (r1, r2) := H
          have A32 := Aside0.mk A320
          clear A320
          simp only [Option.some.injEq, Prod.mk.injEq] at H
          obtain ⟨rfl, rfl⟩ := H
          obtain ⟨Ao33, co33, eo33⟩ := Kd.R_slice HO_5.out
          subst eo33
          go_wp2_with (first | ((with_reducible refine gate_callee (f := 26) rfl ?_); refine goesL_ (some 75) rfl rfl Try.func26 (by kernel_rfl) rfl #[.slice Ao33 x5_1.length co33] rfl (by (try simp only [List.map_toArray, List.map_cons, List.map_nil]); first | done | rfl | (simp only [List.length_drop, List.length_take]; rfl)) ?_; (with_reducible refine (papermillref04_Norm.calls k1 _ _ x5_1 t15002 t15003 _ ?side1 ?side2 A32.out).mono ?_); (case side1 => repeat (first | exact (Kd.R_reads' HO_5.out).2.2 | (with_reducible refine Kd.C_alloc ?_ _) | (with_reducible refine Kd.C_drewN ?_ _) | (with_reducible refine Kd.C_drew ?_))); (case side2 => exact (Kd.R_reads' HO_5.out).2.1); rintro e w34 ⟨v15004, rfl, ho0, hb⟩; refine ⟨_, rfl, ?_⟩; have n0_ := Aside0.mk (Kd.R_elder' (by (with_reducible repeat (first | apply Kd.R_alloc | apply Kd.R_drewN | apply Kd.R_drew)); exact HO_5.out) (Kd.R_base ho0) hb); have n1_ := Aside0.mk (Kd.R_lower (Kd.R_new' ho0 (Kd.R_lt (by (with_reducible repeat (first | apply Kd.R_alloc | apply Kd.R_drewN | apply Kd.R_drew)); exact HO_5.out))) (below_size (by repeat (first | (with_reducible first | exact HB.out | apply below_alloc | apply pw_below_drewN | apply below_drew1) | exact HB.out)))); have n2_ := Aside0.mk (below_step (by repeat (first | (with_reducible first | exact HB.out | apply below_alloc | apply pw_below_drewN | apply below_drew1) | exact HB.out)) hb); clear HO_5; clear HB; have HO_5 := n0_; have HO15005 := n1_; have HB := n2_; clear n0_ n1_ n2_; (try clear hb); (try clear hb2); (try clear hk); (try clear hi); (try clear ho0)))
          go_ret2
          exact ⟨_, by first | rfl | (simp [errW_none, errW_some] <;> rfl) | (simp [*, errW_none, errW_some] <;> rfl), by (with_reducible repeat (first | apply Kd.R_alloc | apply Kd.R_drewN | apply Kd.R_drew)); exact Kd.R_mono HO15005.out (fun _ hk => trivial), by repeat (first | (with_reducible first | exact HB.out | apply below_alloc | apply pw_below_drewN | apply below_drew1) | exact HB.out)⟩
  · rw [if_neg c3] at H
    have c3b0 : (t15001 == 0) = false := beq_eq_false_iff_ne.mpr c3
    have c3b1 : (t15001 != 0) = true := bne_iff_ne.mpr c3
    simp only [Option.some.injEq, Prod.mk.injEq] at H
    obtain ⟨rfl, rfl⟩ := H
    go_enter Try.func14, Try.ntmps14
    go_wp2_with (first | ((with_reducible refine gate_callee (f := 16) rfl ?_); refine goesL_ (some 9) rfl rfl Try.func16 (by kernel_rfl) rfl #[.slice A0 l0.length c0] rfl (by (try simp only [List.map_toArray, List.map_cons, List.map_nil]); first | done | rfl | (simp only [List.length_drop, List.length_take]; rfl)) ?_; (with_reducible refine (papermillref34_Check.calls k _ _ l0 t15001 _ ?side1 ?side2 A2.out).mono ?_); (case side1 => repeat (first | exact HR0.out | (with_reducible refine Kd.C_alloc ?_ _) | (with_reducible refine Kd.C_drewN ?_ _) | (with_reducible refine Kd.C_drew ?_))); (case side2 => exact HC0.out); rintro e w35 ⟨rfl, hb⟩; refine ⟨_, rfl, ?_⟩; have n0_ := Aside0.mk (below_step (by repeat (first | (with_reducible first | exact HB.out | apply below_alloc | apply pw_below_drewN | apply below_drew1) | exact HB.out)) hb); clear HB; have HB := n0_; clear n0_; (try clear hb); (try clear hb2); (try clear hk); (try clear hi)))
    go_ret2
    exact ⟨_, by first | rfl | (simp [errW_none, errW_some] <;> rfl) | (simp [*, errW_none, errW_some] <;> rfl), by first | exact Kd.R_nil _ _ _ _ _ | exact Kd.N_nil _ _ _ _ _ | exact Kd.V_nil _ _ _ _ _ | exact Kd.Q_nil _ _ _ _ _ | exact Kd.S_nil _ _ _ _ _, by repeat (first | (with_reducible first | exact HB.out | apply below_alloc | apply pw_below_drewN | apply below_drew1) | exact HB.out)⟩

end Go.Proofs.Ytfdfpdiemeomiaa.G
