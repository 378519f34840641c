-- Printed by drive.py, this session's program over the kit's print.py. Not trusted: Lean checks it.
import Derived.Test.YtfdfpdiemeomiaaGx0
namespace Go.Proofs.Ytfdfpdiemeomiaa.G
open Go.RowKit Go.Proofs.YtfdfpdiemeomiaaW.PrintWords Go.Proofs.YtfdfpdiemeomiaaW.PrintLast Go.Proofs.YtfdfpdiemeomiaaW.PrintMore
attribute [local go_sem] max2_int min2_int max_two min_two max_three min_three max_four min_four   -- for this text's walks alone
set_option linter.unusedVariables false
set_option linter.unusedSimpArgs false

/-! ### papermillref34_Stretches: function 32 -/
def papermillref34_Stretches.l0 : Nat → List (S44) → List (S36) → Int → Option ((List (S36)))
  | 0, _, _, _ => none
  | k + 1, x0, x3, x4 => if x4 < (x0.length : Int) then (if 0 ≤ x4 then (if ((rd_T44 x0 x4).f2) = 3 then (papermillref34_Stretches.l0 k x0 x3 (wrap64 (x4 + 1))) else (if x4 > 0 then (if 0 ≤ (wrap64 (x4 - 1)) then (if (wrap64 (x4 - 1)) < (x0.length : Int) then (if ((rd_T44 x0 (wrap64 (x4 - 1))).f2) = 3 then (if x3.length < 8796093022208 then (papermillref34_Stretches.l0 k x0 (x3 ++ [(⟨(rd_T44 x0 x4).f0, (rd_T44 x0 x4).f1⟩ : S36)]) (wrap64 (x4 + 1))) else (none)) else (if ((rd_T44 x0 (wrap64 (x4 - 1))).f4) = ((rd_T44 x0 x4).f4) then (if 0 ≤ (wrap64 ((x3.length : Int) - 1)) then (if (wrap64 ((x3.length : Int) - 1)) < (x3.length : Int) then (papermillref34_Stretches.l0 k x0 (x3.set ((wrap64 ((x3.length : Int) - 1)) : Int).toNat (⟨(rd_T36 x3 (wrap64 ((x3.length : Int) - 1))).f0, (rd_T44 x0 x4).f1⟩ : S36)) (wrap64 (x4 + 1))) else (none)) else (none)) else (if x3.length < 8796093022208 then (papermillref34_Stretches.l0 k x0 (x3 ++ [(⟨(rd_T44 x0 x4).f0, (rd_T44 x0 x4).f1⟩ : S36)]) (wrap64 (x4 + 1))) else (none)))) else (none)) else (none)) else (if x3.length < 8796093022208 then (papermillref34_Stretches.l0 k x0 (x3 ++ [(⟨(rd_T44 x0 x4).f0, (rd_T44 x0 x4).f1⟩ : S36)]) (wrap64 (x4 + 1))) else (none)))) else (none)) else (some x3)
def papermillref34_Stretches.f (k : Nat) (l0 : List (S44)) : Option ((List (S36))) := papermillref34_Stretches.l0 k l0 ([] : List (S36)) 0
theorem papermillref34_Stretches.mono_l : ∀ k, (∀ y0 y1 y2, LeO (papermillref34_Stretches.l0 k y0 y1 y2) (papermillref34_Stretches.l0 (k + 1) y0 y1 y2))
  | 0 => fun _ _ _ r h => by simp [papermillref34_Stretches.l0] at h
  | k + 1 => by
    have ih0 := papermillref34_Stretches.mono_l k
    · intro y0 y1 y2
      unfold papermillref34_Stretches.l0
      repeat' first
      | (with_reducible exact ih0 _ _ _)
      | (with_reducible exact LeO.refl _)
      | (with_reducible exact LeO.none _)
      | (with_reducible refine LeO.ite ?_ ?_)
      | (with_reducible refine LeO.bind ?_ (fun _ => ?_))
      | exact ih0 _ _ _
      | exact LeO.none _
      | refine LeO.ite ?_ ?_
      | refine LeO.bind ?_ (fun _ => ?_)
theorem papermillref34_Stretches.mono : ∀ a0 k, LeO (papermillref34_Stretches.f k a0) (papermillref34_Stretches.f (k + 1) a0) := by
  intro a0 k
  have ih0 := papermillref34_Stretches.mono_l k
  unfold papermillref34_Stretches.f
  repeat' first
      | (with_reducible exact ih0 _ _ _)
      | (with_reducible exact LeO.refl _)
      | (with_reducible exact LeO.none _)
      | (with_reducible refine LeO.ite ?_ ?_)
      | (with_reducible refine LeO.bind ?_ (fun _ => ?_))
      | exact ih0 _ _ _
      | exact LeO.none _
      | refine LeO.ite ?_ ?_
      | refine LeO.bind ?_ (fun _ => ?_)
def papermillref34_Stretches.T6 : Bool × List (List Nat × List Nat) := (true, [([], []), ([0], [0]), ([1], [1]), ([2], [2]), ([2], [2]), ([4, 2], [2, 4]), ([3, 5, 2], [2, 3, 5]), ([6, 2], [2, 6]), ([7, 2], [2, 7]), ([8, 2], [2, 8]), ([2, 9], [2, 9]), ([10, 2], [10]), ([11], [11]), ([11], [11]), ([13, 11], [11, 13]), ([12, 14, 11], [11, 12, 14]), ([15, 11], [11, 15]), ([16, 11], [11, 16]), ([11], [11]), ([11], [11]), ([18, 19, 11], [11, 18, 19]), ([20, 11], [11, 20]), ([21, 11], [11, 21]), ([17, 22, 11], [11, 17, 22]), ([11, 23], [11, 23])])
def papermillref34_Stretches.B6 : List Nat := [0, 1, 3, 7, 7, 23, 63, 127, 255, 511, 1023, 2047, 4095, 4095, 12287, 32767, 65535, 131071, 4095, 4095, 790527, 1839103, 3936255, 8388607, 16777215]
theorem papermillref34_Stretches.tab6 : rtab .any (opsOf Try.f32 6) = papermillref34_Stretches.T6 := by kernel_rfl
theorem papermillref34_Stretches.bits6 : waitsOk papermillref34_Stretches.T6.2 papermillref34_Stretches.B6 = true := by kernel_rfl
def papermillref34_Stretches.T8 : Bool × List (List Nat × List Nat) := (true, [([], []), ([], []), ([], []), ([1, 2], [1, 2]), ([3], [3]), ([4], [4]), ([], []), ([], []), ([6, 7], [6, 7]), ([8], [8]), ([9], [9]), ([5, 10], [5, 10]), ([11], [11]), ([0, 12], [0, 12]), ([13, 13, 0, 1, 2, 3, 4, 5, 6, 7, 8, 9, 10, 11, 12, 13], [0, 13])])
def papermillref34_Stretches.B8 : List Nat := [0, 0, 0, 6, 14, 30, 0, 0, 192, 448, 960, 2046, 4094, 8191, 16383]
theorem papermillref34_Stretches.tab8 : rtab .any (opsOf Try.f32 8) = papermillref34_Stretches.T8 := by kernel_rfl
theorem papermillref34_Stretches.bits8 : waitsOk papermillref34_Stretches.T8.2 papermillref34_Stretches.B8 = true := by kernel_rfl
set_option maxHeartbeats 8000000 in
set_option maxRecDepth 100000 in
theorem papermillref34_Stretches.calls (k : Nat) (A0 : Option Addr) (c0 : Nat) (l0 : List (S44)) (r : List (S36)) (w : World) (hr0 : Kd.C k44 w A0 l0.length l0) (hc0 : l0.length ≤ c0) (h : papermillref34_Stretches.f k l0 = some r) :
    Calls Try.prog 32 #[.slice A0 l0.length c0] w fun e w' => ∃ v0_ : Value, e = .returned (v0_) ∧ Kd.R k36 36 w' w.heap.size (fun _ => True) v0_ r ∧ Below w.heap.size w w' := by
  have hu36 := Try.underlying36
  have HR0 := Aside0.mk hr0
  have HC0 := Aside0.mk hc0
  clear hr0 hc0
  have HB := Aside0.mk (Below.refl w.heap.size w)
  have H : (papermillref34_Stretches.l0 k l0 ([] : List (S36)) 0) = some r := h
  clear h
  have H' := Aside0.mk H
  clear H
  go_enter Try.func32, Try.ntmps32
  go_wp2
  go_loopg [3, 4] k (fun kq v3 v4 w' => ∃ (x3_1 : List (S36)) (x4_1 : Int), v4 = .int .i64 x4_1 ∧ Aside0 (papermillref34_Stretches.l0 kq l0 x3_1 x4_1 = some r) ∧ Aside0 (kq ≤ k) ∧ Aside0 (Kd.R k36 36 w' w.heap.size (fun _ => True) v3 x3_1) ∧ Aside0 (Below w.heap.size w w'))
  case atStart => exact ⟨(([] : List (S36))), (0), (by first | rfl | (simp; done) | (simp [*]; done)), H', ⟨Nat.le_refl _⟩, ⟨by first | exact Kd.R_nil _ _ _ _ _ | exact Kd.N_nil _ _ _ _ _ | exact Kd.V_nil _ _ _ _ _ | exact Kd.Q_nil _ _ _ _ _ | exact Kd.S_nil _ _ _ _ _⟩, ⟨by repeat (first | (with_reducible first | exact HB.out | apply below_alloc | apply pw_below_drewN | apply below_drew1) | exact HB.out)⟩⟩
  case round =>
    clear H'
    obtain ⟨x3_1, x4_1, rfl, HA, HK1, HO_3, HB⟩ := hrel
    cases gk with
    | zero => exact absurd HA.out (by simp [papermillref34_Stretches.l0])
    | succ k1 =>
      have H := HA.out
      clear HA
      simp only [papermillref34_Stretches.l0] at H
      by_cases c2 : x4_1 < (l0.length : Int)
      · rw [if_pos c2] at H
        have c2b0 : decide (x4_1 < (l0.length : Int)) = true := decide_eq_true c2
        clear c2
        by_cases c3 : 0 ≤ x4_1
        · rw [if_pos c3] at H
          have c3b0 : decide (0 ≤ x4_1) = true := decide_eq_true c3
          clear c3
          by_cases c4 : ((rd_T44 l0 x4_1).f2) = 3
          · rw [if_pos c4] at H
            have c4b0 : (((rd_T44 l0 x4_1).f2) == 3) = true := beq_iff_eq.mpr c4
            have c4b1 : (((rd_T44 l0 x4_1).f2) != 3) = false := bne_eq_false_iff_eq.mpr c4
            clear c4
            have H' := Aside0.mk H
            clear H
            have p33001 : 0 ≤ (x4_1 : Int) := of_decide_eq_true (by first | (with_reducible assumption) | assumption)
            have q33001 : x4_1 < (l0.length : Int) := of_decide_eq_true (by first | (with_reducible assumption) | assumption)
            obtain ⟨ad33001, e33001, hx33001_0, hx33001_1, hx33001_2, hx33001_3, hx33001_4⟩ := at_T44 HR0.out x4_1 p33001 q33001
            cases e33001
            replace hx33001_0 := (HB.out.cell (World.block_lt_of_cell? w _ hx33001_0)).trans hx33001_0
            replace hx33001_1 := (HB.out.cell (World.block_lt_of_cell? w _ hx33001_1)).trans hx33001_1
            replace hx33001_2 := (HB.out.cell (World.block_lt_of_cell? w _ hx33001_2)).trans hx33001_2
            replace hx33001_3 := (HB.out.cell (World.block_lt_of_cell? w _ hx33001_3)).trans hx33001_3
            replace hx33001_4 := (HB.out.cell (World.block_lt_of_cell? w _ hx33001_4)).trans hx33001_4
            replace p33001 := eq_true p33001
            replace q33001 := eq_true q33001
            go_wp2
            go_roundg k1
            case measure => have := HK1.out; omega
            case rel => exact ⟨(x3_1), (wrap64 (x4_1 + 1)), (by first | rfl | (simp; done) | (simp [*]; done)), H', ⟨by have := HK1.out; omega⟩, ⟨by (with_reducible repeat (first | apply Kd.R_alloc | apply Kd.R_drewN | apply Kd.R_drew)); exact HO_3.out⟩, ⟨by repeat (first | (with_reducible first | exact HB.out | apply below_alloc | apply pw_below_drewN | apply below_drew1) | exact HB.out)⟩⟩
          · rw [if_neg c4] at H
            have c4b0 : (((rd_T44 l0 x4_1).f2) == 3) = false := beq_eq_false_iff_ne.mpr c4
            have c4b1 : (((rd_T44 l0 x4_1).f2) != 3) = true := bne_iff_ne.mpr c4
            by_cases c5 : x4_1 > 0
            · rw [if_pos c5] at H
              have c5b0 : decide (0 < x4_1) = true := decide_eq_true c5
              clear c5
              obtain ⟨ji6, hji6⟩ : ∃ j_ : Int, (wrap64 (x4_1 - 1)) = j_ := ⟨_, rfl⟩
              replace H : (if 0 ≤ (ji6) then (if (ji6) < (l0.length : Int) then (if ((rd_T44 l0 (ji6)).f2) = 3 then (if x3_1.length < 8796093022208 then (papermillref34_Stretches.l0 k1 l0 (x3_1 ++ [(⟨(rd_T44 l0 x4_1).f0, (rd_T44 l0 x4_1).f1⟩ : S36)]) (wrap64 (x4_1 + 1))) else (none)) else (if ((rd_T44 l0 (ji6)).f4) = ((rd_T44 l0 x4_1).f4) then (if 0 ≤ (wrap64 ((x3_1.length : Int) - 1)) then (if (wrap64 ((x3_1.length : Int) - 1)) < (x3_1.length : Int) then (papermillref34_Stretches.l0 k1 l0 (x3_1.set ((wrap64 ((x3_1.length : Int) - 1)) : Int).toNat (⟨(rd_T36 x3_1 (wrap64 ((x3_1.length : Int) - 1))).f0, (rd_T44 l0 x4_1).f1⟩ : S36)) (wrap64 (x4_1 + 1))) else (none)) else (none)) else (if x3_1.length < 8796093022208 then (papermillref34_Stretches.l0 k1 l0 (x3_1 ++ [(⟨(rd_T44 l0 x4_1).f0, (rd_T44 l0 x4_1).f1⟩ : S36)]) (wrap64 (x4_1 + 1))) else (none)))) else (none)) else (none)) = some r := by first | (rw [hji6] at H; exact H) | (simp only [hji6] at H ⊢; exact H)
              have hji6w : (IntKind.i64.wrap (x4_1 - 1)) = ji6 := (i64_w _).trans hji6
              by_cases c7 : 0 ≤ (ji6)
              · rw [if_pos c7] at H
                have c7b0 : decide (0 ≤ (ji6)) = true := decide_eq_true c7
                clear c7
                by_cases c8 : (ji6) < (l0.length : Int)
                · rw [if_pos c8] at H
                  have c8b0 : decide ((ji6) < (l0.length : Int)) = true := decide_eq_true c8
                  clear c8
                  by_cases c9 : ((rd_T44 l0 (ji6)).f2) = 3
                  · rw [if_pos c9] at H
                    have c9b0 : (((rd_T44 l0 (ji6)).f2) == 3) = true := beq_iff_eq.mpr c9
                    have c9b1 : (((rd_T44 l0 (ji6)).f2) != 3) = false := bne_eq_false_iff_eq.mpr c9
                    clear c9
                    by_cases c10 : x3_1.length < 8796093022208
                    · rw [if_pos c10] at H
                      have LMc10 := Aside0.mk c10
                      clear c10
                      obtain ⟨y33005, hy33005⟩ : ∃ y_ : List (S36), y_ = (x3_1 ++ [(⟨(rd_T44 l0 x4_1).f0, (rd_T44 l0 x4_1).f1⟩ : S36)]) := ⟨_, rfl⟩
                      replace H : (papermillref34_Stretches.l0 k1 l0 y33005 (wrap64 (x4_1 + 1))) = some r := by first | (rw [hy33005]; with_reducible exact H) | (have H2_ := (Option.bind_some _ _).symm.trans H; rw [hy33005]; with_reducible exact H2_) | (have H2_ := (Option.bind_some _ _).symm.trans H; with_reducible exact H2_) | with_reducible exact H | (rw [hy33005]; exact H) | exact H
                      have Ny33005 := Aside0.mk hy33005
                      clear hy33005
                      have H' := Aside0.mk H
                      clear H
                      have p33001 : 0 ≤ (x4_1 : Int) := of_decide_eq_true (by first | (with_reducible assumption) | assumption)
                      have q33001 : x4_1 < (l0.length : Int) := of_decide_eq_true (by first | (with_reducible assumption) | assumption)
                      obtain ⟨ad33001, e33001, hx33001_0, hx33001_1, hx33001_2, hx33001_3, hx33001_4⟩ := at_T44 HR0.out x4_1 p33001 q33001
                      cases e33001
                      replace hx33001_0 := (HB.out.cell (World.block_lt_of_cell? w _ hx33001_0)).trans hx33001_0
                      replace hx33001_1 := (HB.out.cell (World.block_lt_of_cell? w _ hx33001_1)).trans hx33001_1
                      replace hx33001_2 := (HB.out.cell (World.block_lt_of_cell? w _ hx33001_2)).trans hx33001_2
                      replace hx33001_3 := (HB.out.cell (World.block_lt_of_cell? w _ hx33001_3)).trans hx33001_3
                      replace hx33001_4 := (HB.out.cell (World.block_lt_of_cell? w _ hx33001_4)).trans hx33001_4
                      replace p33001 := eq_true p33001
                      replace q33001 := eq_true q33001
                      try go_wp2
                      have n0_ := Aside0.mk (Kd.R_drew HO_3.out)
                      have n1_ := Aside0.mk (below_drew1 HB.out)
                      clear HO_3
                      clear HB
                      have HO_3 := n0_
                      have HB := n1_
                      clear n0_ n1_
                      have p33002 : 0 ≤ ((ji6) : Int) := of_decide_eq_true (by first | (with_reducible assumption) | assumption)
                      have q33002 : (ji6) < (l0.length : Int) := of_decide_eq_true (by first | (with_reducible assumption) | assumption)
                      obtain ⟨ad33002, e33002, hx33002_0, hx33002_1, hx33002_2, hx33002_3, hx33002_4⟩ := at_T44 HR0.out (ji6) p33002 q33002
                      have hw33002_4 := hx33002_4
                      have hw33002_3 := hx33002_3
                      have hw33002_2 := hx33002_2
                      have hw33002_1 := hx33002_1
                      have hw33002_0 := hx33002_0
                      obtain rfl : ad33001 = ad33002 := (by injection e33002)
                      replace hx33002_0 := (HB.out.cell (World.block_lt_of_cell? w _ hx33002_0)).trans hx33002_0
                      replace hx33002_1 := (HB.out.cell (World.block_lt_of_cell? w _ hx33002_1)).trans hx33002_1
                      replace hx33002_2 := (HB.out.cell (World.block_lt_of_cell? w _ hx33002_2)).trans hx33002_2
                      replace hx33002_3 := (HB.out.cell (World.block_lt_of_cell? w _ hx33002_3)).trans hx33002_3
                      replace hx33002_4 := (HB.out.cell (World.block_lt_of_cell? w _ hx33002_4)).trans hx33002_4
                      replace p33002 := eq_true p33002
                      replace q33002 := eq_true q33002
                      refine start_ (n := 25) (S := fun w' => w'.cell? (ad33001.add (((ji6)).toNat * 5)) = some (.int .i64 ((rd_T44 l0 (ji6)).f0)) ∧ w'.cell? ⟨(ad33001.add (((ji6)).toNat * 5)).block, (ad33001.add (((ji6)).toNat * 5)).off + 1, none⟩ = some (.int .i64 ((rd_T44 l0 (ji6)).f1)) ∧ w'.cell? ⟨(ad33001.add (((ji6)).toNat * 5)).block, (ad33001.add (((ji6)).toNat * 5)).off + 2, none⟩ = some (.int .i64 ((rd_T44 l0 (ji6)).f2)) ∧ w'.cell? ⟨(ad33001.add (((ji6)).toNat * 5)).block, (ad33001.add (((ji6)).toNat * 5)).off + 3, none⟩ = some (.int .i64 ((rd_T44 l0 (ji6)).f3)) ∧ w'.cell? ⟨(ad33001.add (((ji6)).toNat * 5)).block, (ad33001.add (((ji6)).toNat * 5)).off + 4, none⟩ = some (.int .i64 ((rd_T44 l0 (ji6)).f4))) (ds := []) #[false, false, false, false, false, false, false, false, false, false, false, false, false, false, false, false, false, false, false, false, false, false, false, false, false] (by kernel_rfl) rfl rfl ⟨((HB.out.cell (World.block_lt_of_cell? w _ hw33002_0)).trans hw33002_0), ((HB.out.cell (World.block_lt_of_cell? w _ hw33002_1)).trans hw33002_1), ((HB.out.cell (World.block_lt_of_cell? w _ hw33002_2)).trans hw33002_2), ((HB.out.cell (World.block_lt_of_cell? w _ hw33002_3)).trans hw33002_3), ((HB.out.cell (World.block_lt_of_cell? w _ hw33002_4)).trans hw33002_4)⟩ (fun hHeld => ?_); refine with_tabW papermillref34_Stretches.tab6 papermillref34_Stretches.bits6 (fun HT_ HW_ => ?_)
                      generalize wr.drew = w11 at HO_3 HB hx33002_0 hx33002_1 hx33002_2 hx33002_3 hx33002_4 hHeld ⊢
                      refine pure_ (i := 0) (N := some 17) (v := ?_) (a' := ?_) #[true, false, false, false, false, false, false, false, false, false, false, false, false, false, false, false, false, false, false, false, false, false, false, false, false] rfl rfl (any_of HT_.out (by kernel_rfl)) (fun _ _ _ h => h) (Or.inl ⟨by rfl, ?_⟩) ?_ ?_
                      rotate_left
                      · intro w'
                        go_simp
                        with_reducible rfl
                      rotate_left
                      · simp only [Act.put, List.setIfInBounds_toArray, List.set_cons_zero, List.set_cons_succ, i64_w, i32_w]
                        rfl
                      refine pure_ (i := 1) (N := some 18) (v := ?_) (a' := ?_) #[true, true, false, false, false, false, false, false, false, false, false, false, false, false, false, false, false, false, false, false, false, false, false, false, false] rfl rfl (any_of HT_.out (by kernel_rfl)) (fun _ _ _ h => h) (Or.inl ⟨by rfl, ?_⟩) ?_ ?_
                      rotate_left
                      · intro w'
                        go_simp
                        with_reducible rfl
                      rotate_left
                      · simp only [Act.put, List.setIfInBounds_toArray, List.set_cons_zero, List.set_cons_succ, i64_w, i32_w]
                        rfl
                      refine pure_ (i := 2) (N := some 19) (v := ?_) (a' := ?_) #[true, true, true, false, false, false, false, false, false, false, false, false, false, false, false, false, false, false, false, false, false, false, false, false, false] rfl rfl (any_of HT_.out (by kernel_rfl)) (fun _ _ _ h => h) (Or.inl ⟨by rfl, ?_⟩) ?_ ?_
                      rotate_left
                      · intro w'
                        go_simp
                        with_reducible rfl
                      rotate_left
                      · simp only [Act.put, List.setIfInBounds_toArray, List.set_cons_zero, List.set_cons_succ, i64_w, i32_w]
                        rfl
                      refine pure_ (i := 3) (N := some 20) (v := ?_) (a' := ?_) #[true, true, true, true, false, false, false, false, false, false, false, false, false, false, false, false, false, false, false, false, false, false, false, false, false] rfl rfl (any_of HT_.out (by kernel_rfl)) (fun _ _ _ h => h) (Or.inl ⟨by rfl, ?_⟩) ?_ ?_
                      rotate_left
                      · intro w'
                        go_simp
                        with_reducible rfl
                      rotate_left
                      · simp only [Act.put, List.setIfInBounds_toArray, List.set_cons_zero, List.set_cons_succ, i64_w, i32_w]
                        rfl
                      refine pure_ (i := 4) (N := some 21) (v := ?_) (a' := ?_) #[true, true, true, true, true, false, false, false, false, false, false, false, false, false, false, false, false, false, false, false, false, false, false, false, false] rfl rfl (any_of HT_.out (by kernel_rfl)) (fun _ _ _ h => h) (Or.inl ⟨by rfl, ?_⟩) ?_ ?_
                      rotate_left
                      · intro w'
                        go_simp
                        with_reducible rfl
                      rotate_left
                      · simp only [Act.put, List.setIfInBounds_toArray, List.set_cons_zero, List.set_cons_succ, i64_w, i32_w]
                        rfl
                      refine pure_ (i := 5) (N := some 22) (v := ?_) (a' := ?_) #[true, true, true, true, true, true, false, false, false, false, false, false, false, false, false, false, false, false, false, false, false, false, false, false, false] rfl rfl (any_of HT_.out (by kernel_rfl)) (fun _ _ _ h => h) (Or.inl ⟨by rfl, ?_⟩) ?_ ?_
                      rotate_left
                      · intro w'
                        go_simp
                        with_reducible rfl
                      rotate_left
                      · simp only [Act.put, List.setIfInBounds_toArray, List.set_cons_zero, List.set_cons_succ, i64_w, i32_w]
                        rfl
                      refine pure_ (i := 6) (N := some 23) (v := ?_) (a' := ?_) #[true, true, true, true, true, true, true, false, false, false, false, false, false, false, false, false, false, false, false, false, false, false, false, false, false] rfl rfl (any_of HT_.out (by kernel_rfl)) (fun _ _ _ h => h) (Or.inl ⟨by rfl, ?_⟩) ?_ ?_
                      rotate_left
                      · intro w'
                        go_simp
                        with_reducible rfl
                      rotate_left
                      · simp only [Act.put, List.setIfInBounds_toArray, List.set_cons_zero, List.set_cons_succ, i64_w, i32_w]
                        rfl
                      refine pure_ (i := 7) (N := some 24) (v := ?_) (a' := ?_) #[true, true, true, true, true, true, true, true, false, false, false, false, false, false, false, false, false, false, false, false, false, false, false, false, false] rfl rfl (any_of HT_.out (by kernel_rfl)) (fun _ _ _ h => h) (Or.inl ⟨by rfl, ?_⟩) ?_ ?_
                      rotate_left
                      · intro w'
                        go_simp
                        with_reducible rfl
                      rotate_left
                      · simp only [Act.put, List.setIfInBounds_toArray, List.set_cons_zero, List.set_cons_succ, i64_w, i32_w]
                        rfl
                      refine take_ (i := 8) (N := some 25) (v := ?_) (a' := ?_) #[true, true, true, true, true, true, true, true, true, false, false, false, false, false, false, false, false, false, false, false, false, false, false, false, false] rfl rfl (take_ofW HT_.out HW_.out (by kernel_rfl)) (fun _ _ _ h => h) (Or.inl ⟨by rfl, ?_⟩) hHeld ?_ ?_
                      rotate_left
                      · rintro w' ⟨s0, s1, s2, s3, s4⟩
                        go_simp
                        with_reducible rfl
                      rotate_left
                      · simp only [Act.put, List.setIfInBounds_toArray, List.set_cons_zero, List.set_cons_succ, i64_w, i32_w]
                        rfl
                      refine pure_ (i := 9) (N := some 26) (v := ?_) (a' := ?_) #[true, true, true, true, true, true, true, true, true, true, false, false, false, false, false, false, false, false, false, false, false, false, false, false, false] rfl rfl (any_of HT_.out (by kernel_rfl)) (fun _ _ _ h => h) (Or.inl ⟨by rfl, ?_⟩) ?_ ?_
                      rotate_left
                      · intro w'
                        go_simp
                        with_reducible rfl
                      rotate_left
                      · simp only [Act.put, List.setIfInBounds_toArray, List.set_cons_zero, List.set_cons_succ, i64_w, i32_w]
                        rfl
                      refine pure_ (i := 10) (N := some 27) (v := ?_) (a' := ?_) #[true, true, true, true, true, true, true, true, true, true, true, false, false, false, false, false, false, false, false, false, false, false, false, false, false] rfl rfl (any_of HT_.out (by kernel_rfl)) (fun _ _ _ h => h) (Or.inl ⟨by rfl, ?_⟩) ?_ ?_
                      rotate_left
                      · intro w'
                        go_simp
                        with_reducible rfl
                      rotate_left
                      · simp only [Act.put, List.setIfInBounds_toArray, List.set_cons_zero, List.set_cons_succ, i64_w, i32_w]
                        rfl
                      refine pure_ (i := 11) (N := some 28) (v := ?_) (a' := ?_) #[true, true, true, true, true, true, true, true, true, true, true, true, false, false, false, false, false, false, false, false, false, false, false, false, false] rfl rfl (any_of HT_.out (by kernel_rfl)) (fun _ _ _ h => h) (Or.inl ⟨by rfl, ?_⟩) ?_ ?_
                      rotate_left
                      · intro w'
                        go_simp
                        with_reducible rfl
                      rotate_left
                      · simp only [Act.put, List.setIfInBounds_toArray, List.set_cons_zero, List.set_cons_succ, i64_w, i32_w]
                        rfl
                      refine pure_ (i := 12) (N := some 29) (v := undef) (a' := ?_) #[true, true, true, true, true, true, true, true, true, true, true, true, true, false, false, false, false, false, false, false, false, false, false, false, false] rfl rfl (any_of HT_.out (by kernel_rfl)) (fun _ _ _ h => h) (Or.inr ⟨by rfl, rfl⟩) ?_ ?_
                      rotate_left
                      · simp only [Act.put, List.setIfInBounds_toArray, List.set_cons_zero, List.set_cons_succ, i64_w, i32_w]
                        rfl
                      refine pure_ (i := 13) (N := some 30) (v := undef) (a' := ?_) #[true, true, true, true, true, true, true, true, true, true, true, true, true, true, false, false, false, false, false, false, false, false, false, false, false] rfl rfl (any_of HT_.out (by kernel_rfl)) (fun _ _ _ h => h) (Or.inr ⟨by rfl, rfl⟩) ?_ ?_
                      rotate_left
                      · simp only [Act.put, List.setIfInBounds_toArray, List.set_cons_zero, List.set_cons_succ, i64_w, i32_w]
                        rfl
                      refine pure_ (i := 14) (N := some 31) (v := undef) (a' := ?_) #[true, true, true, true, true, true, true, true, true, true, true, true, true, true, true, false, false, false, false, false, false, false, false, false, false] rfl rfl (any_of HT_.out (by kernel_rfl)) (fun _ _ _ h => h) (Or.inr ⟨by rfl, rfl⟩) ?_ ?_
                      rotate_left
                      · simp only [Act.put, List.setIfInBounds_toArray, List.set_cons_zero, List.set_cons_succ, i64_w, i32_w]
                        rfl
                      refine pure_ (i := 15) (N := some 32) (v := undef) (a' := ?_) #[true, true, true, true, true, true, true, true, true, true, true, true, true, true, true, true, false, false, false, false, false, false, false, false, false] rfl rfl (any_of HT_.out (by kernel_rfl)) (fun _ _ _ h => h) (Or.inr ⟨by rfl, rfl⟩) ?_ ?_
                      rotate_left
                      · simp only [Act.put, List.setIfInBounds_toArray, List.set_cons_zero, List.set_cons_succ, i64_w, i32_w]
                        rfl
                      refine pure_ (i := 16) (N := some 33) (v := undef) (a' := ?_) #[true, true, true, true, true, true, true, true, true, true, true, true, true, true, true, true, true, false, false, false, false, false, false, false, false] rfl rfl (any_of HT_.out (by kernel_rfl)) (fun _ _ _ h => h) (Or.inr ⟨by rfl, rfl⟩) ?_ ?_
                      rotate_left
                      · simp only [Act.put, List.setIfInBounds_toArray, List.set_cons_zero, List.set_cons_succ, i64_w, i32_w]
                        rfl
                      refine pure_ (i := 17) (N := some 34) (v := undef) (a' := ?_) #[true, true, true, true, true, true, true, true, true, true, true, true, true, true, true, true, true, true, false, false, false, false, false, false, false] rfl rfl (any_of HT_.out (by kernel_rfl)) (fun _ _ _ h => h) (Or.inr ⟨by rfl, rfl⟩) ?_ ?_
                      rotate_left
                      · simp only [Act.put, List.setIfInBounds_toArray, List.set_cons_zero, List.set_cons_succ, i64_w, i32_w]
                        rfl
                      refine pure_ (i := 18) (N := some 35) (v := undef) (a' := ?_) #[true, true, true, true, true, true, true, true, true, true, true, true, true, true, true, true, true, true, true, false, false, false, false, false, false] rfl rfl (any_of HT_.out (by kernel_rfl)) (fun _ _ _ h => h) (Or.inr ⟨by rfl, rfl⟩) ?_ ?_
                      rotate_left
                      · simp only [Act.put, List.setIfInBounds_toArray, List.set_cons_zero, List.set_cons_succ, i64_w, i32_w]
                        rfl
                      refine pure_ (i := 19) (N := some 36) (v := undef) (a' := ?_) #[true, true, true, true, true, true, true, true, true, true, true, true, true, true, true, true, true, true, true, true, false, false, false, false, false] rfl rfl (any_of HT_.out (by kernel_rfl)) (fun _ _ _ h => h) (Or.inr ⟨by rfl, rfl⟩) ?_ ?_
                      rotate_left
                      · simp only [Act.put, List.setIfInBounds_toArray, List.set_cons_zero, List.set_cons_succ, i64_w, i32_w]
                        rfl
                      refine pure_ (i := 20) (N := some 37) (v := undef) (a' := ?_) #[true, true, true, true, true, true, true, true, true, true, true, true, true, true, true, true, true, true, true, true, true, false, false, false, false] rfl rfl (any_of HT_.out (by kernel_rfl)) (fun _ _ _ h => h) (Or.inr ⟨by rfl, rfl⟩) ?_ ?_
                      rotate_left
                      · simp only [Act.put, List.setIfInBounds_toArray, List.set_cons_zero, List.set_cons_succ, i64_w, i32_w]
                        rfl
                      refine pure_ (i := 21) (N := some 38) (v := undef) (a' := ?_) #[true, true, true, true, true, true, true, true, true, true, true, true, true, true, true, true, true, true, true, true, true, true, false, false, false] rfl rfl (any_of HT_.out (by kernel_rfl)) (fun _ _ _ h => h) (Or.inr ⟨by rfl, rfl⟩) ?_ ?_
                      rotate_left
                      · simp only [Act.put, List.setIfInBounds_toArray, List.set_cons_zero, List.set_cons_succ, i64_w, i32_w]
                        rfl
                      refine pure_ (i := 22) (N := some 39) (v := undef) (a' := ?_) #[true, true, true, true, true, true, true, true, true, true, true, true, true, true, true, true, true, true, true, true, true, true, true, false, false] rfl rfl (any_of HT_.out (by kernel_rfl)) (fun _ _ _ h => h) (Or.inr ⟨by rfl, rfl⟩) ?_ ?_
                      rotate_left
                      · simp only [Act.put, List.setIfInBounds_toArray, List.set_cons_zero, List.set_cons_succ, i64_w, i32_w]
                        rfl
                      refine pure_ (i := 23) (N := some 40) (v := undef) (a' := ?_) #[true, true, true, true, true, true, true, true, true, true, true, true, true, true, true, true, true, true, true, true, true, true, true, true, false] rfl rfl (any_of HT_.out (by kernel_rfl)) (fun _ _ _ h => h) (Or.inr ⟨by rfl, rfl⟩) ?_ ?_
                      rotate_left
                      · simp only [Act.put, List.setIfInBounds_toArray, List.set_cons_zero, List.set_cons_succ, i64_w, i32_w]
                        rfl
                      refine pure_ (i := 24) (N := some 41) (v := ?_) (a' := ?_) #[true, true, true, true, true, true, true, true, true, true, true, true, true, true, true, true, true, true, true, true, true, true, true, true, true] rfl rfl (any_of HT_.out (by kernel_rfl)) (fun _ _ _ h => h) (Or.inl ⟨by rfl, ?_⟩) ?_ ?_
                      rotate_left
                      · intro w'
                        go_simp
                        with_reducible rfl
                      rotate_left
                      · simp only [Act.put, List.setIfInBounds_toArray, List.set_cons_zero, List.set_cons_succ, i64_w, i32_w]
                        rfl
                      refine done_ (done_of HT_.out (by kernel_rfl)) ?_
                      try go_wp2
                      have n0_ := Aside0.mk (Kd.R_drew HO_3.out)
                      have n1_ := Aside0.mk (below_drew1 HB.out)
                      clear HO_3
                      clear HB
                      have HO_3 := n0_
                      have HB := n1_
                      clear n0_ n1_
                      have p33003 : 0 ≤ (x4_1 : Int) := of_decide_eq_true (by first | (with_reducible assumption) | assumption)
                      have q33003 : x4_1 < (l0.length : Int) := of_decide_eq_true (by first | (with_reducible assumption) | assumption)
                      obtain ⟨ad33003, e33003, hx33003_0, hx33003_1, hx33003_2, hx33003_3, hx33003_4⟩ := at_T44 HR0.out x4_1 p33003 q33003
                      have hw33003_4 := hx33003_4
                      have hw33003_3 := hx33003_3
                      have hw33003_2 := hx33003_2
                      have hw33003_1 := hx33003_1
                      have hw33003_0 := hx33003_0
                      obtain rfl : ad33001 = ad33003 := (by injection e33003)
                      replace hx33003_0 := (HB.out.cell (World.block_lt_of_cell? w _ hx33003_0)).trans hx33003_0
                      replace hx33003_1 := (HB.out.cell (World.block_lt_of_cell? w _ hx33003_1)).trans hx33003_1
                      replace hx33003_2 := (HB.out.cell (World.block_lt_of_cell? w _ hx33003_2)).trans hx33003_2
                      replace hx33003_3 := (HB.out.cell (World.block_lt_of_cell? w _ hx33003_3)).trans hx33003_3
                      replace hx33003_4 := (HB.out.cell (World.block_lt_of_cell? w _ hx33003_4)).trans hx33003_4
                      replace p33003 := eq_true p33003
                      replace q33003 := eq_true q33003
                      have p33004 : 0 ≤ (x4_1 : Int) := of_decide_eq_true (by first | (with_reducible assumption) | assumption)
                      have q33004 : x4_1 < (l0.length : Int) := of_decide_eq_true (by first | (with_reducible assumption) | assumption)
                      obtain ⟨ad33004, e33004, hx33004_0, hx33004_1, hx33004_2, hx33004_3, hx33004_4⟩ := at_T44 HR0.out x4_1 p33004 q33004
                      have hw33004_4 := hx33004_4
                      have hw33004_3 := hx33004_3
                      have hw33004_2 := hx33004_2
                      have hw33004_1 := hx33004_1
                      have hw33004_0 := hx33004_0
                      obtain rfl : ad33001 = ad33004 := (by injection e33004)
                      replace hx33004_0 := (HB.out.cell (World.block_lt_of_cell? w _ hx33004_0)).trans hx33004_0
                      replace hx33004_1 := (HB.out.cell (World.block_lt_of_cell? w _ hx33004_1)).trans hx33004_1
                      replace hx33004_2 := (HB.out.cell (World.block_lt_of_cell? w _ hx33004_2)).trans hx33004_2
                      replace hx33004_3 := (HB.out.cell (World.block_lt_of_cell? w _ hx33004_3)).trans hx33004_3
                      replace hx33004_4 := (HB.out.cell (World.block_lt_of_cell? w _ hx33004_4)).trans hx33004_4
                      replace p33004 := eq_true p33004
                      replace q33004 := eq_true q33004
                      refine start_ (n := 15) (S := fun w' => w'.cell? (ad33001.add ((x4_1).toNat * 5)) = some (.int .i64 ((rd_T44 l0 x4_1).f0)) ∧ w'.cell? ⟨(ad33001.add ((x4_1).toNat * 5)).block, (ad33001.add ((x4_1).toNat * 5)).off + 1, none⟩ = some (.int .i64 ((rd_T44 l0 x4_1).f1)) ∧ w'.cell? ⟨(ad33001.add ((x4_1).toNat * 5)).block, (ad33001.add ((x4_1).toNat * 5)).off + 2, none⟩ = some (.int .i64 ((rd_T44 l0 x4_1).f2)) ∧ w'.cell? ⟨(ad33001.add ((x4_1).toNat * 5)).block, (ad33001.add ((x4_1).toNat * 5)).off + 3, none⟩ = some (.int .i64 ((rd_T44 l0 x4_1).f3)) ∧ w'.cell? ⟨(ad33001.add ((x4_1).toNat * 5)).block, (ad33001.add ((x4_1).toNat * 5)).off + 4, none⟩ = some (.int .i64 ((rd_T44 l0 x4_1).f4)) ∧ w'.cell? (ad33001.add ((x4_1).toNat * 5)) = some (.int .i64 ((rd_T44 l0 x4_1).f0)) ∧ w'.cell? ⟨(ad33001.add ((x4_1).toNat * 5)).block, (ad33001.add ((x4_1).toNat * 5)).off + 1, none⟩ = some (.int .i64 ((rd_T44 l0 x4_1).f1)) ∧ w'.cell? ⟨(ad33001.add ((x4_1).toNat * 5)).block, (ad33001.add ((x4_1).toNat * 5)).off + 2, none⟩ = some (.int .i64 ((rd_T44 l0 x4_1).f2)) ∧ w'.cell? ⟨(ad33001.add ((x4_1).toNat * 5)).block, (ad33001.add ((x4_1).toNat * 5)).off + 3, none⟩ = some (.int .i64 ((rd_T44 l0 x4_1).f3)) ∧ w'.cell? ⟨(ad33001.add ((x4_1).toNat * 5)).block, (ad33001.add ((x4_1).toNat * 5)).off + 4, none⟩ = some (.int .i64 ((rd_T44 l0 x4_1).f4))) (ds := []) #[false, false, false, false, false, false, false, false, false, false, false, false, false, false, false] (by kernel_rfl) rfl rfl ⟨((HB.out.cell (World.block_lt_of_cell? w _ hw33003_0)).trans hw33003_0), ((HB.out.cell (World.block_lt_of_cell? w _ hw33003_1)).trans hw33003_1), ((HB.out.cell (World.block_lt_of_cell? w _ hw33003_2)).trans hw33003_2), ((HB.out.cell (World.block_lt_of_cell? w _ hw33003_3)).trans hw33003_3), ((HB.out.cell (World.block_lt_of_cell? w _ hw33003_4)).trans hw33003_4), ((HB.out.cell (World.block_lt_of_cell? w _ hw33004_0)).trans hw33004_0), ((HB.out.cell (World.block_lt_of_cell? w _ hw33004_1)).trans hw33004_1), ((HB.out.cell (World.block_lt_of_cell? w _ hw33004_2)).trans hw33004_2), ((HB.out.cell (World.block_lt_of_cell? w _ hw33004_3)).trans hw33004_3), ((HB.out.cell (World.block_lt_of_cell? w _ hw33004_4)).trans hw33004_4)⟩ (fun hHeld => ?_); refine with_tabW papermillref34_Stretches.tab8 papermillref34_Stretches.bits8 (fun HT_ HW_ => ?_)
                      generalize w11.drew = w12 at HO_3 HB hx33003_0 hx33003_1 hx33003_2 hx33003_3 hx33003_4 hx33004_0 hx33004_1 hx33004_2 hx33004_3 hx33004_4 hHeld ⊢
                      refine pure_ (i := 0) (N := some 53) (v := ?_) (a' := ?_) #[true, false, false, false, false, false, false, false, false, false, false, false, false, false, false] rfl rfl (any_of HT_.out (by kernel_rfl)) (fun _ _ _ h => h) (Or.inl ⟨by rfl, ?_⟩) ?_ ?_
                      rotate_left
                      · intro w'
                        go_simp
                        with_reducible rfl
                      rotate_left
                      · simp only [Act.put, List.setIfInBounds_toArray, List.set_cons_zero, List.set_cons_succ, i64_w, i32_w]
                        rfl
                      refine pure_ (i := 1) (N := some 54) (v := ?_) (a' := ?_) #[true, true, false, false, false, false, false, false, false, false, false, false, false, false, false] rfl rfl (any_of HT_.out (by kernel_rfl)) (fun _ _ _ h => h) (Or.inl ⟨by rfl, ?_⟩) ?_ ?_
                      rotate_left
                      · intro w'
                        go_simp
                        with_reducible rfl
                      rotate_left
                      · simp only [Act.put, List.setIfInBounds_toArray, List.set_cons_zero, List.set_cons_succ, i64_w, i32_w]
                        rfl
                      refine pure_ (i := 2) (N := some 55) (v := ?_) (a' := ?_) #[true, true, true, false, false, false, false, false, false, false, false, false, false, false, false] rfl rfl (any_of HT_.out (by kernel_rfl)) (fun _ _ _ h => h) (Or.inl ⟨by rfl, ?_⟩) ?_ ?_
                      rotate_left
                      · intro w'
                        go_simp
                        with_reducible rfl
                      rotate_left
                      · simp only [Act.put, List.setIfInBounds_toArray, List.set_cons_zero, List.set_cons_succ, i64_w, i32_w]
                        rfl
                      refine pure_ (i := 3) (N := some 56) (v := ?_) (a' := ?_) #[true, true, true, true, false, false, false, false, false, false, false, false, false, false, false] rfl rfl (any_of HT_.out (by kernel_rfl)) (fun _ _ _ h => h) (Or.inl ⟨by rfl, ?_⟩) ?_ ?_
                      rotate_left
                      · intro w'
                        go_simp
                        with_reducible rfl
                      rotate_left
                      · simp only [Act.put, List.setIfInBounds_toArray, List.set_cons_zero, List.set_cons_succ, i64_w, i32_w]
                        rfl
                      refine pure_ (i := 4) (N := some 57) (v := ?_) (a' := ?_) #[true, true, true, true, true, false, false, false, false, false, false, false, false, false, false] rfl rfl (any_of HT_.out (by kernel_rfl)) (fun _ _ _ h => h) (Or.inl ⟨by rfl, ?_⟩) ?_ ?_
                      rotate_left
                      · intro w'
                        go_simp
                        with_reducible rfl
                      rotate_left
                      · simp only [Act.put, List.setIfInBounds_toArray, List.set_cons_zero, List.set_cons_succ, i64_w, i32_w]
                        rfl
                      refine pure_ (i := 6) (N := some 59) (v := ?_) (a' := ?_) #[true, true, true, true, true, false, true, false, false, false, false, false, false, false, false] rfl rfl (any_of HT_.out (by kernel_rfl)) (fun _ _ _ h => h) (Or.inl ⟨by rfl, ?_⟩) ?_ ?_
                      rotate_left
                      · intro w'
                        go_simp
                        with_reducible rfl
                      rotate_left
                      · simp only [Act.put, List.setIfInBounds_toArray, List.set_cons_zero, List.set_cons_succ, i64_w, i32_w]
                        rfl
                      refine pure_ (i := 7) (N := some 60) (v := ?_) (a' := ?_) #[true, true, true, true, true, false, true, true, false, false, false, false, false, false, false] rfl rfl (any_of HT_.out (by kernel_rfl)) (fun _ _ _ h => h) (Or.inl ⟨by rfl, ?_⟩) ?_ ?_
                      rotate_left
                      · intro w'
                        go_simp
                        with_reducible rfl
                      rotate_left
                      · simp only [Act.put, List.setIfInBounds_toArray, List.set_cons_zero, List.set_cons_succ, i64_w, i32_w]
                        rfl
                      refine pure_ (i := 8) (N := some 61) (v := ?_) (a' := ?_) #[true, true, true, true, true, false, true, true, true, false, false, false, false, false, false] rfl rfl (any_of HT_.out (by kernel_rfl)) (fun _ _ _ h => h) (Or.inl ⟨by rfl, ?_⟩) ?_ ?_
                      rotate_left
                      · intro w'
                        go_simp
                        with_reducible rfl
                      rotate_left
                      · simp only [Act.put, List.setIfInBounds_toArray, List.set_cons_zero, List.set_cons_succ, i64_w, i32_w]
                        rfl
                      refine pure_ (i := 9) (N := some 62) (v := ?_) (a' := ?_) #[true, true, true, true, true, false, true, true, true, true, false, false, false, false, false] rfl rfl (any_of HT_.out (by kernel_rfl)) (fun _ _ _ h => h) (Or.inl ⟨by rfl, ?_⟩) ?_ ?_
                      rotate_left
                      · intro w'
                        go_simp
                        with_reducible rfl
                      rotate_left
                      · simp only [Act.put, List.setIfInBounds_toArray, List.set_cons_zero, List.set_cons_succ, i64_w, i32_w]
                        rfl
                      refine take_ (i := 5) (N := some 58) (v := ?_) (a' := ?_) #[true, true, true, true, true, true, true, true, true, true, false, false, false, false, false] rfl rfl (take_ofW HT_.out HW_.out (by kernel_rfl)) (fun _ _ _ h => h) (Or.inl ⟨by rfl, ?_⟩) hHeld ?_ ?_
                      rotate_left
                      · rintro w' ⟨s0, s1, s2, s3, s4, s5, s6, s7, s8, s9⟩
                        go_simp
                        with_reducible rfl
                      rotate_left
                      · simp only [Act.put, List.setIfInBounds_toArray, List.set_cons_zero, List.set_cons_succ, i64_w, i32_w]
                        rfl
                      refine take_ (i := 10) (N := some 63) (v := ?_) (a' := ?_) #[true, true, true, true, true, true, true, true, true, true, true, false, false, false, false] rfl rfl (take_ofW HT_.out HW_.out (by kernel_rfl)) (fun _ _ _ h => h) (Or.inl ⟨by rfl, ?_⟩) hHeld ?_ ?_
                      rotate_left
                      · rintro w' ⟨s0, s1, s2, s3, s4, s5, s6, s7, s8, s9⟩
                        go_simp
                        with_reducible rfl
                      rotate_left
                      · simp only [Act.put, List.setIfInBounds_toArray, List.set_cons_zero, List.set_cons_succ, i64_w, i32_w]
                        rfl
                      refine pure_ (i := 11) (N := some 64) (v := ?_) (a' := ?_) #[true, true, true, true, true, true, true, true, true, true, true, true, false, false, false] rfl rfl (any_of HT_.out (by kernel_rfl)) (fun _ _ _ h => h) (Or.inl ⟨by rfl, ?_⟩) ?_ ?_
                      rotate_left
                      · intro w'
                        go_simp
                        with_reducible rfl
                      rotate_left
                      · simp only [Act.put, List.setIfInBounds_toArray, List.set_cons_zero, List.set_cons_succ, i64_w, i32_w]
                        rfl
                      refine one_ (i := 12) (N := some 65) #[true, true, true, true, true, true, true, true, true, true, true, true, true, false, false] rfl rfl (one_of HT_.out (by kernel_rfl)) (by decide) (fun K hK => ?_)
                      refine value_ (w1 := ?_) (v := ?_) (by rfl) rfl ?_ ?_
                      rotate_left 2
                      · go_simp
                        constructor
                        · rfl
                        · rfl
                      refine hK.out _ _ ⟨(World.cell?_alloc_lt _ _ _ (World.block_lt_of_cell? _ _ (((HB.out.cell (World.block_lt_of_cell? w _ hw33003_0)).trans hw33003_0)))).trans (((HB.out.cell (World.block_lt_of_cell? w _ hw33003_0)).trans hw33003_0)), (World.cell?_alloc_lt _ _ _ (World.block_lt_of_cell? _ _ (((HB.out.cell (World.block_lt_of_cell? w _ hw33003_1)).trans hw33003_1)))).trans (((HB.out.cell (World.block_lt_of_cell? w _ hw33003_1)).trans hw33003_1)), (World.cell?_alloc_lt _ _ _ (World.block_lt_of_cell? _ _ (((HB.out.cell (World.block_lt_of_cell? w _ hw33003_2)).trans hw33003_2)))).trans (((HB.out.cell (World.block_lt_of_cell? w _ hw33003_2)).trans hw33003_2)), (World.cell?_alloc_lt _ _ _ (World.block_lt_of_cell? _ _ (((HB.out.cell (World.block_lt_of_cell? w _ hw33003_3)).trans hw33003_3)))).trans (((HB.out.cell (World.block_lt_of_cell? w _ hw33003_3)).trans hw33003_3)), (World.cell?_alloc_lt _ _ _ (World.block_lt_of_cell? _ _ (((HB.out.cell (World.block_lt_of_cell? w _ hw33003_4)).trans hw33003_4)))).trans (((HB.out.cell (World.block_lt_of_cell? w _ hw33003_4)).trans hw33003_4)), (World.cell?_alloc_lt _ _ _ (World.block_lt_of_cell? _ _ (((HB.out.cell (World.block_lt_of_cell? w _ hw33004_0)).trans hw33004_0)))).trans (((HB.out.cell (World.block_lt_of_cell? w _ hw33004_0)).trans hw33004_0)), (World.cell?_alloc_lt _ _ _ (World.block_lt_of_cell? _ _ (((HB.out.cell (World.block_lt_of_cell? w _ hw33004_1)).trans hw33004_1)))).trans (((HB.out.cell (World.block_lt_of_cell? w _ hw33004_1)).trans hw33004_1)), (World.cell?_alloc_lt _ _ _ (World.block_lt_of_cell? _ _ (((HB.out.cell (World.block_lt_of_cell? w _ hw33004_2)).trans hw33004_2)))).trans (((HB.out.cell (World.block_lt_of_cell? w _ hw33004_2)).trans hw33004_2)), (World.cell?_alloc_lt _ _ _ (World.block_lt_of_cell? _ _ (((HB.out.cell (World.block_lt_of_cell? w _ hw33004_3)).trans hw33004_3)))).trans (((HB.out.cell (World.block_lt_of_cell? w _ hw33004_3)).trans hw33004_3)), (World.cell?_alloc_lt _ _ _ (World.block_lt_of_cell? _ _ (((HB.out.cell (World.block_lt_of_cell? w _ hw33004_4)).trans hw33004_4)))).trans (((HB.out.cell (World.block_lt_of_cell? w _ hw33004_4)).trans hw33004_4))⟩ (fun hHeld => ?_)
                      clear hK K
                      refine norm_ (a' := ?_) ?_ ?_
                      rotate_left
                      · show Act.put _ (some 65) _ = _
                        simp only [Act.put, List.setIfInBounds_toArray, List.set_cons_zero, List.set_cons_succ, i64_w, i32_w]
                        rfl
                      refine one_ (i := 13) (N := some 66) #[true, true, true, true, true, true, true, true, true, true, true, true, true, true, false] rfl rfl (one_of HT_.out (by kernel_rfl)) (by decide) (fun K hK => ?_)
                      refine Kd.R_append_step k36 (w0 := w) w.heap.size (by rfl) (.tmp 53) (.tmp 65) 25 36 (.agg #[(.int .i64 0), (.int .i64 0)]) 16 rfl Try.underlying25 info36 rfl (by decide) (by omega) u3 x3_1 (⟨(rd_T44 l0 x4_1).f0, (rd_T44 l0 x4_1).f1⟩ : S36) [.int .i64 ((rd_T44 l0 x4_1).f0), .int .i64 ((rd_T44 l0 x4_1).f1)] (fun _ => True) (fun _ => False) rfl rfl ?aP (fun _ hk => hk.elim) ?aF ?aO ?aB ?aS ?aL ?_
                      (case aP => exact k36_mkM _ _ _ (⟨(rd_T44 l0 x4_1).f0, (rd_T44 l0 x4_1).f1⟩ : S36))
                      (case aB => exact (by repeat (first | (with_reducible first | exact HB.out | apply below_alloc | apply pw_below_drewN | apply below_drew1) | exact HB.out)))
                      (case aF => exact (fun _ _ => trivial))
                      (case aO => exact (by (with_reducible repeat (first | apply Kd.R_alloc | apply Kd.R_drewN | apply Kd.R_drew)); exact HO_3.out))
                      (case aS => exact (below_size (by repeat (first | (with_reducible first | exact HB.out | apply below_alloc | apply pw_below_drewN | apply below_drew1) | exact HB.out))))
                      (case aL => have := LMc10.out; omega)
                      intro v33006 w13 ho hb hg hat
                      rw [← Ny33005.out] at ho
                      have n0_ := Aside0.mk (hb)
                      have n1_ := Aside0.mk (ho)
                      clear HB
                      clear HO_3
                      have HB := n0_
                      have HO33007 := n1_
                      clear n0_ n1_
                      clear ho hb hg hat
                      refine hK.out _ _ ⟨((HB.out.cell (World.block_lt_of_cell? w _ hw33003_0)).trans hw33003_0), ((HB.out.cell (World.block_lt_of_cell? w _ hw33003_1)).trans hw33003_1), ((HB.out.cell (World.block_lt_of_cell? w _ hw33003_2)).trans hw33003_2), ((HB.out.cell (World.block_lt_of_cell? w _ hw33003_3)).trans hw33003_3), ((HB.out.cell (World.block_lt_of_cell? w _ hw33003_4)).trans hw33003_4), ((HB.out.cell (World.block_lt_of_cell? w _ hw33004_0)).trans hw33004_0), ((HB.out.cell (World.block_lt_of_cell? w _ hw33004_1)).trans hw33004_1), ((HB.out.cell (World.block_lt_of_cell? w _ hw33004_2)).trans hw33004_2), ((HB.out.cell (World.block_lt_of_cell? w _ hw33004_3)).trans hw33004_3), ((HB.out.cell (World.block_lt_of_cell? w _ hw33004_4)).trans hw33004_4)⟩ (fun hHeld => ?_)
                      clear hK K
                      refine norm_ (a' := ?_) ?_ ?_
                      rotate_left
                      · show Act.put _ (some 66) _ = _
                        simp only [Act.put, List.setIfInBounds_toArray, List.set_cons_zero, List.set_cons_succ, i64_w, i32_w]
                        rfl
                      refine pure_ (i := 14) (N := some 3) (v := ?_) (a' := ?_) #[true, true, true, true, true, true, true, true, true, true, true, true, true, true, true] rfl rfl (any_of HT_.out (by kernel_rfl)) (fun _ _ _ h => h) (Or.inl ⟨by rfl, ?_⟩) ?_ ?_
                      rotate_left
                      · intro w'
                        go_simp
                        with_reducible rfl
                      rotate_left
                      · simp only [Act.put, List.setIfInBounds_toArray, List.set_cons_zero, List.set_cons_succ, i64_w, i32_w]
                        rfl
                      refine done_ (done_of HT_.out (by kernel_rfl)) ?_
                      try go_wp2
                      go_roundg k1
                      case measure => have := HK1.out; omega
                      case rel => exact ⟨(y33005), (wrap64 (x4_1 + 1)), (by first | rfl | (simp; done) | (simp [*]; done)), H', ⟨by have := HK1.out; omega⟩, ⟨by (with_reducible repeat (first | apply Kd.R_alloc | apply Kd.R_drewN | apply Kd.R_drew)); exact HO33007.out⟩, ⟨by repeat (first | (with_reducible first | exact HB.out | apply below_alloc | apply pw_below_drewN | apply below_drew1) | exact HB.out)⟩⟩
                    · rw [if_neg c10] at H
                      exact absurd H (by simp)
                  · rw [if_neg c9] at H
                    have c9b0 : (((rd_T44 l0 (ji6)).f2) == 3) = false := beq_eq_false_iff_ne.mpr c9
                    have c9b1 : (((rd_T44 l0 (ji6)).f2) != 3) = true := bne_iff_ne.mpr c9
                    by_cases c14 : ((rd_T44 l0 (ji6)).f4) = ((rd_T44 l0 x4_1).f4)
                    · rw [if_pos c14] at H
                      have c14b0 : (((rd_T44 l0 (ji6)).f4) == ((rd_T44 l0 x4_1).f4)) = true := beq_iff_eq.mpr c14
                      have c14b1 : (((rd_T44 l0 (ji6)).f4) != ((rd_T44 l0 x4_1).f4)) = false := bne_eq_false_iff_eq.mpr c14
                      clear c14
                      obtain ⟨ji15, hji15⟩ : ∃ j_ : Int, (wrap64 ((x3_1.length : Int) - 1)) = j_ := ⟨_, rfl⟩
                      replace H : (if 0 ≤ (ji15) then (if (ji15) < (x3_1.length : Int) then (papermillref34_Stretches.l0 k1 l0 (x3_1.set ((ji15) : Int).toNat (⟨(rd_T36 x3_1 (ji15)).f0, (rd_T44 l0 x4_1).f1⟩ : S36)) (wrap64 (x4_1 + 1))) else (none)) else (none)) = some r := by first | (rw [hji15] at H; exact H) | (simp only [hji15] at H ⊢; exact H)
                      have hji15w : (IntKind.i64.wrap ((x3_1.length : Int) - 1)) = ji15 := (i64_w _).trans hji15
                      by_cases c16 : 0 ≤ (ji15)
                      · rw [if_pos c16] at H
                        have c16b0 : decide (0 ≤ (ji15)) = true := decide_eq_true c16
                        clear c16
                        by_cases c17 : (ji15) < (x3_1.length : Int)
                        · rw [if_pos c17] at H
                          have c17b0 : decide ((ji15) < (x3_1.length : Int)) = true := decide_eq_true c17
                          clear c17
                          obtain ⟨y33011, hy33011⟩ : ∃ y_ : List (S36), y_ = (x3_1.set ((ji15) : Int).toNat (⟨(rd_T36 x3_1 (ji15)).f0, (rd_T44 l0 x4_1).f1⟩ : S36)) := ⟨_, rfl⟩
                          replace H : (papermillref34_Stretches.l0 k1 l0 y33011 (wrap64 (x4_1 + 1))) = some r := by first | (rw [hy33011]; with_reducible exact H) | (have H2_ := (Option.bind_some _ _).symm.trans H; rw [hy33011]; with_reducible exact H2_) | (have H2_ := (Option.bind_some _ _).symm.trans H; with_reducible exact H2_) | with_reducible exact H | (rw [hy33011]; exact H) | exact H
                          have Ny33011 := Aside0.mk hy33011
                          clear hy33011
                          have H' := Aside0.mk H
                          clear H
                          have p33001 : 0 ≤ (x4_1 : Int) := of_decide_eq_true (by first | (with_reducible assumption) | assumption)
                          have q33001 : x4_1 < (l0.length : Int) := of_decide_eq_true (by first | (with_reducible assumption) | assumption)
                          obtain ⟨ad33001, e33001, hx33001_0, hx33001_1, hx33001_2, hx33001_3, hx33001_4⟩ := at_T44 HR0.out x4_1 p33001 q33001
                          cases e33001
                          replace hx33001_0 := (HB.out.cell (World.block_lt_of_cell? w _ hx33001_0)).trans hx33001_0
                          replace hx33001_1 := (HB.out.cell (World.block_lt_of_cell? w _ hx33001_1)).trans hx33001_1
                          replace hx33001_2 := (HB.out.cell (World.block_lt_of_cell? w _ hx33001_2)).trans hx33001_2
                          replace hx33001_3 := (HB.out.cell (World.block_lt_of_cell? w _ hx33001_3)).trans hx33001_3
                          replace hx33001_4 := (HB.out.cell (World.block_lt_of_cell? w _ hx33001_4)).trans hx33001_4
                          replace p33001 := eq_true p33001
                          replace q33001 := eq_true q33001
                          try go_wp2
                          have n0_ := Aside0.mk (Kd.R_drew HO_3.out)
                          have n1_ := Aside0.mk (below_drew1 HB.out)
                          clear HO_3
                          clear HB
                          have HO_3 := n0_
                          have HB := n1_
                          clear n0_ n1_
                          have p33002 : 0 ≤ ((ji6) : Int) := of_decide_eq_true (by first | (with_reducible assumption) | assumption)
                          have q33002 : (ji6) < (l0.length : Int) := of_decide_eq_true (by first | (with_reducible assumption) | assumption)
                          obtain ⟨ad33002, e33002, hx33002_0, hx33002_1, hx33002_2, hx33002_3, hx33002_4⟩ := at_T44 HR0.out (ji6) p33002 q33002
                          have hw33002_4 := hx33002_4
                          have hw33002_3 := hx33002_3
                          have hw33002_2 := hx33002_2
                          have hw33002_1 := hx33002_1
                          have hw33002_0 := hx33002_0
                          obtain rfl : ad33001 = ad33002 := (by injection e33002)
                          replace hx33002_0 := (HB.out.cell (World.block_lt_of_cell? w _ hx33002_0)).trans hx33002_0
                          replace hx33002_1 := (HB.out.cell (World.block_lt_of_cell? w _ hx33002_1)).trans hx33002_1
                          replace hx33002_2 := (HB.out.cell (World.block_lt_of_cell? w _ hx33002_2)).trans hx33002_2
                          replace hx33002_3 := (HB.out.cell (World.block_lt_of_cell? w _ hx33002_3)).trans hx33002_3
                          replace hx33002_4 := (HB.out.cell (World.block_lt_of_cell? w _ hx33002_4)).trans hx33002_4
                          replace p33002 := eq_true p33002
                          replace q33002 := eq_true q33002
                          have p33008 : 0 ≤ ((ji6) : Int) := of_decide_eq_true (by first | (with_reducible assumption) | assumption)
                          have q33008 : (ji6) < (l0.length : Int) := of_decide_eq_true (by first | (with_reducible assumption) | assumption)
                          obtain ⟨ad33008, e33008, hx33008_0, hx33008_1, hx33008_2, hx33008_3, hx33008_4⟩ := at_T44 HR0.out (ji6) p33008 q33008
                          have hw33008_4 := hx33008_4
                          have hw33008_3 := hx33008_3
                          have hw33008_2 := hx33008_2
                          have hw33008_1 := hx33008_1
                          have hw33008_0 := hx33008_0
                          obtain rfl : ad33001 = ad33008 := (by injection e33008)
                          replace hx33008_0 := (HB.out.cell (World.block_lt_of_cell? w _ hx33008_0)).trans hx33008_0
                          replace hx33008_1 := (HB.out.cell (World.block_lt_of_cell? w _ hx33008_1)).trans hx33008_1
                          replace hx33008_2 := (HB.out.cell (World.block_lt_of_cell? w _ hx33008_2)).trans hx33008_2
                          replace hx33008_3 := (HB.out.cell (World.block_lt_of_cell? w _ hx33008_3)).trans hx33008_3
                          replace hx33008_4 := (HB.out.cell (World.block_lt_of_cell? w _ hx33008_4)).trans hx33008_4
                          replace p33008 := eq_true p33008
                          replace q33008 := eq_true q33008
                          have p33009 : 0 ≤ (x4_1 : Int) := of_decide_eq_true (by first | (with_reducible assumption) | assumption)
                          have q33009 : x4_1 < (l0.length : Int) := of_decide_eq_true (by first | (with_reducible assumption) | assumption)
                          obtain ⟨ad33009, e33009, hx33009_0, hx33009_1, hx33009_2, hx33009_3, hx33009_4⟩ := at_T44 HR0.out x4_1 p33009 q33009
                          have hw33009_4 := hx33009_4
                          have hw33009_3 := hx33009_3
                          have hw33009_2 := hx33009_2
                          have hw33009_1 := hx33009_1
                          have hw33009_0 := hx33009_0
                          obtain rfl : ad33001 = ad33009 := (by injection e33009)
                          replace hx33009_0 := (HB.out.cell (World.block_lt_of_cell? w _ hx33009_0)).trans hx33009_0
                          replace hx33009_1 := (HB.out.cell (World.block_lt_of_cell? w _ hx33009_1)).trans hx33009_1
                          replace hx33009_2 := (HB.out.cell (World.block_lt_of_cell? w _ hx33009_2)).trans hx33009_2
                          replace hx33009_3 := (HB.out.cell (World.block_lt_of_cell? w _ hx33009_3)).trans hx33009_3
                          replace hx33009_4 := (HB.out.cell (World.block_lt_of_cell? w _ hx33009_4)).trans hx33009_4
                          replace p33009 := eq_true p33009
                          replace q33009 := eq_true q33009
                          refine start_ (n := 25) (S := fun w' => w'.cell? (ad33001.add (((ji6)).toNat * 5)) = some (.int .i64 ((rd_T44 l0 (ji6)).f0)) ∧ w'.cell? ⟨(ad33001.add (((ji6)).toNat * 5)).block, (ad33001.add (((ji6)).toNat * 5)).off + 1, none⟩ = some (.int .i64 ((rd_T44 l0 (ji6)).f1)) ∧ w'.cell? ⟨(ad33001.add (((ji6)).toNat * 5)).block, (ad33001.add (((ji6)).toNat * 5)).off + 2, none⟩ = some (.int .i64 ((rd_T44 l0 (ji6)).f2)) ∧ w'.cell? ⟨(ad33001.add (((ji6)).toNat * 5)).block, (ad33001.add (((ji6)).toNat * 5)).off + 3, none⟩ = some (.int .i64 ((rd_T44 l0 (ji6)).f3)) ∧ w'.cell? ⟨(ad33001.add (((ji6)).toNat * 5)).block, (ad33001.add (((ji6)).toNat * 5)).off + 4, none⟩ = some (.int .i64 ((rd_T44 l0 (ji6)).f4)) ∧ w'.cell? (ad33001.add (((ji6)).toNat * 5)) = some (.int .i64 ((rd_T44 l0 (ji6)).f0)) ∧ w'.cell? ⟨(ad33001.add (((ji6)).toNat * 5)).block, (ad33001.add (((ji6)).toNat * 5)).off + 1, none⟩ = some (.int .i64 ((rd_T44 l0 (ji6)).f1)) ∧ w'.cell? ⟨(ad33001.add (((ji6)).toNat * 5)).block, (ad33001.add (((ji6)).toNat * 5)).off + 2, none⟩ = some (.int .i64 ((rd_T44 l0 (ji6)).f2)) ∧ w'.cell? ⟨(ad33001.add (((ji6)).toNat * 5)).block, (ad33001.add (((ji6)).toNat * 5)).off + 3, none⟩ = some (.int .i64 ((rd_T44 l0 (ji6)).f3)) ∧ w'.cell? ⟨(ad33001.add (((ji6)).toNat * 5)).block, (ad33001.add (((ji6)).toNat * 5)).off + 4, none⟩ = some (.int .i64 ((rd_T44 l0 (ji6)).f4)) ∧ w'.cell? (ad33001.add ((x4_1).toNat * 5)) = some (.int .i64 ((rd_T44 l0 x4_1).f0)) ∧ w'.cell? ⟨(ad33001.add ((x4_1).toNat * 5)).block, (ad33001.add ((x4_1).toNat * 5)).off + 1, none⟩ = some (.int .i64 ((rd_T44 l0 x4_1).f1)) ∧ w'.cell? ⟨(ad33001.add ((x4_1).toNat * 5)).block, (ad33001.add ((x4_1).toNat * 5)).off + 2, none⟩ = some (.int .i64 ((rd_T44 l0 x4_1).f2)) ∧ w'.cell? ⟨(ad33001.add ((x4_1).toNat * 5)).block, (ad33001.add ((x4_1).toNat * 5)).off + 3, none⟩ = some (.int .i64 ((rd_T44 l0 x4_1).f3)) ∧ w'.cell? ⟨(ad33001.add ((x4_1).toNat * 5)).block, (ad33001.add ((x4_1).toNat * 5)).off + 4, none⟩ = some (.int .i64 ((rd_T44 l0 x4_1).f4))) (ds := []) #[false, false, false, false, false, false, false, false, false, false, false, false, false, false, false, false, false, false, false, false, false, false, false, false, false] (by kernel_rfl) rfl rfl ⟨((HB.out.cell (World.block_lt_of_cell? w _ hw33002_0)).trans hw33002_0), ((HB.out.cell (World.block_lt_of_cell? w _ hw33002_1)).trans hw33002_1), ((HB.out.cell (World.block_lt_of_cell? w _ hw33002_2)).trans hw33002_2), ((HB.out.cell (World.block_lt_of_cell? w _ hw33002_3)).trans hw33002_3), ((HB.out.cell (World.block_lt_of_cell? w _ hw33002_4)).trans hw33002_4), ((HB.out.cell (World.block_lt_of_cell? w _ hw33008_0)).trans hw33008_0), ((HB.out.cell (World.block_lt_of_cell? w _ hw33008_1)).trans hw33008_1), ((HB.out.cell (World.block_lt_of_cell? w _ hw33008_2)).trans hw33008_2), ((HB.out.cell (World.block_lt_of_cell? w _ hw33008_3)).trans hw33008_3), ((HB.out.cell (World.block_lt_of_cell? w _ hw33008_4)).trans hw33008_4), ((HB.out.cell (World.block_lt_of_cell? w _ hw33009_0)).trans hw33009_0), ((HB.out.cell (World.block_lt_of_cell? w _ hw33009_1)).trans hw33009_1), ((HB.out.cell (World.block_lt_of_cell? w _ hw33009_2)).trans hw33009_2), ((HB.out.cell (World.block_lt_of_cell? w _ hw33009_3)).trans hw33009_3), ((HB.out.cell (World.block_lt_of_cell? w _ hw33009_4)).trans hw33009_4)⟩ (fun hHeld => ?_); refine with_tabW papermillref34_Stretches.tab6 papermillref34_Stretches.bits6 (fun HT_ HW_ => ?_)
                          generalize wr.drew = w19 at HO_3 HB hx33002_0 hx33002_1 hx33002_2 hx33002_3 hx33002_4 hx33008_0 hx33008_1 hx33008_2 hx33008_3 hx33008_4 hx33009_0 hx33009_1 hx33009_2 hx33009_3 hx33009_4 hHeld ⊢
                          refine pure_ (i := 0) (N := some 17) (v := ?_) (a' := ?_) #[true, false, false, false, false, false, false, false, false, false, false, false, false, false, false, false, false, false, false, false, false, false, false, false, false] rfl rfl (any_of HT_.out (by kernel_rfl)) (fun _ _ _ h => h) (Or.inl ⟨by rfl, ?_⟩) ?_ ?_
                          rotate_left
                          · intro w'
                            go_simp
                            with_reducible rfl
                          rotate_left
                          · simp only [Act.put, List.setIfInBounds_toArray, List.set_cons_zero, List.set_cons_succ, i64_w, i32_w]
                            rfl
                          refine pure_ (i := 1) (N := some 18) (v := ?_) (a' := ?_) #[true, true, false, false, false, false, false, false, false, false, false, false, false, false, false, false, false, false, false, false, false, false, false, false, false] rfl rfl (any_of HT_.out (by kernel_rfl)) (fun _ _ _ h => h) (Or.inl ⟨by rfl, ?_⟩) ?_ ?_
                          rotate_left
                          · intro w'
                            go_simp
                            with_reducible rfl
                          rotate_left
                          · simp only [Act.put, List.setIfInBounds_toArray, List.set_cons_zero, List.set_cons_succ, i64_w, i32_w]
                            rfl
                          refine pure_ (i := 2) (N := some 19) (v := ?_) (a' := ?_) #[true, true, true, false, false, false, false, false, false, false, false, false, false, false, false, false, false, false, false, false, false, false, false, false, false] rfl rfl (any_of HT_.out (by kernel_rfl)) (fun _ _ _ h => h) (Or.inl ⟨by rfl, ?_⟩) ?_ ?_
                          rotate_left
                          · intro w'
                            go_simp
                            with_reducible rfl
                          rotate_left
                          · simp only [Act.put, List.setIfInBounds_toArray, List.set_cons_zero, List.set_cons_succ, i64_w, i32_w]
                            rfl
                          refine pure_ (i := 3) (N := some 20) (v := ?_) (a' := ?_) #[true, true, true, true, false, false, false, false, false, false, false, false, false, false, false, false, false, false, false, false, false, false, false, false, false] rfl rfl (any_of HT_.out (by kernel_rfl)) (fun _ _ _ h => h) (Or.inl ⟨by rfl, ?_⟩) ?_ ?_
                          rotate_left
                          · intro w'
                            go_simp
                            with_reducible rfl
                          rotate_left
                          · simp only [Act.put, List.setIfInBounds_toArray, List.set_cons_zero, List.set_cons_succ, i64_w, i32_w]
                            rfl
                          refine pure_ (i := 4) (N := some 21) (v := ?_) (a' := ?_) #[true, true, true, true, true, false, false, false, false, false, false, false, false, false, false, false, false, false, false, false, false, false, false, false, false] rfl rfl (any_of HT_.out (by kernel_rfl)) (fun _ _ _ h => h) (Or.inl ⟨by rfl, ?_⟩) ?_ ?_
                          rotate_left
                          · intro w'
                            go_simp
                            with_reducible rfl
                          rotate_left
                          · simp only [Act.put, List.setIfInBounds_toArray, List.set_cons_zero, List.set_cons_succ, i64_w, i32_w]
                            rfl
                          refine pure_ (i := 5) (N := some 22) (v := ?_) (a' := ?_) #[true, true, true, true, true, true, false, false, false, false, false, false, false, false, false, false, false, false, false, false, false, false, false, false, false] rfl rfl (any_of HT_.out (by kernel_rfl)) (fun _ _ _ h => h) (Or.inl ⟨by rfl, ?_⟩) ?_ ?_
                          rotate_left
                          · intro w'
                            go_simp
                            with_reducible rfl
                          rotate_left
                          · simp only [Act.put, List.setIfInBounds_toArray, List.set_cons_zero, List.set_cons_succ, i64_w, i32_w]
                            rfl
                          refine pure_ (i := 6) (N := some 23) (v := ?_) (a' := ?_) #[true, true, true, true, true, true, true, false, false, false, false, false, false, false, false, false, false, false, false, false, false, false, false, false, false] rfl rfl (any_of HT_.out (by kernel_rfl)) (fun _ _ _ h => h) (Or.inl ⟨by rfl, ?_⟩) ?_ ?_
                          rotate_left
                          · intro w'
                            go_simp
                            with_reducible rfl
                          rotate_left
                          · simp only [Act.put, List.setIfInBounds_toArray, List.set_cons_zero, List.set_cons_succ, i64_w, i32_w]
                            rfl
                          refine pure_ (i := 7) (N := some 24) (v := ?_) (a' := ?_) #[true, true, true, true, true, true, true, true, false, false, false, false, false, false, false, false, false, false, false, false, false, false, false, false, false] rfl rfl (any_of HT_.out (by kernel_rfl)) (fun _ _ _ h => h) (Or.inl ⟨by rfl, ?_⟩) ?_ ?_
                          rotate_left
                          · intro w'
                            go_simp
                            with_reducible rfl
                          rotate_left
                          · simp only [Act.put, List.setIfInBounds_toArray, List.set_cons_zero, List.set_cons_succ, i64_w, i32_w]
                            rfl
                          refine take_ (i := 8) (N := some 25) (v := ?_) (a' := ?_) #[true, true, true, true, true, true, true, true, true, false, false, false, false, false, false, false, false, false, false, false, false, false, false, false, false] rfl rfl (take_ofW HT_.out HW_.out (by kernel_rfl)) (fun _ _ _ h => h) (Or.inl ⟨by rfl, ?_⟩) hHeld ?_ ?_
                          rotate_left
                          · rintro w' ⟨s0, s1, s2, s3, s4, s5, s6, s7, s8, s9, s10, s11, s12, s13, s14⟩
                            go_simp
                            with_reducible rfl
                          rotate_left
                          · simp only [Act.put, List.setIfInBounds_toArray, List.set_cons_zero, List.set_cons_succ, i64_w, i32_w]
                            rfl
                          refine pure_ (i := 9) (N := some 26) (v := ?_) (a' := ?_) #[true, true, true, true, true, true, true, true, true, true, false, false, false, false, false, false, false, false, false, false, false, false, false, false, false] rfl rfl (any_of HT_.out (by kernel_rfl)) (fun _ _ _ h => h) (Or.inl ⟨by rfl, ?_⟩) ?_ ?_
                          rotate_left
                          · intro w'
                            go_simp
                            with_reducible rfl
                          rotate_left
                          · simp only [Act.put, List.setIfInBounds_toArray, List.set_cons_zero, List.set_cons_succ, i64_w, i32_w]
                            rfl
                          refine pure_ (i := 10) (N := some 27) (v := ?_) (a' := ?_) #[true, true, true, true, true, true, true, true, true, true, true, false, false, false, false, false, false, false, false, false, false, false, false, false, false] rfl rfl (any_of HT_.out (by kernel_rfl)) (fun _ _ _ h => h) (Or.inl ⟨by rfl, ?_⟩) ?_ ?_
                          rotate_left
                          · intro w'
                            go_simp
                            with_reducible rfl
                          rotate_left
                          · simp only [Act.put, List.setIfInBounds_toArray, List.set_cons_zero, List.set_cons_succ, i64_w, i32_w]
                            rfl
                          refine pure_ (i := 11) (N := some 28) (v := ?_) (a' := ?_) #[true, true, true, true, true, true, true, true, true, true, true, true, false, false, false, false, false, false, false, false, false, false, false, false, false] rfl rfl (any_of HT_.out (by kernel_rfl)) (fun _ _ _ h => h) (Or.inl ⟨by rfl, ?_⟩) ?_ ?_
                          rotate_left
                          · intro w'
                            go_simp
                            with_reducible rfl
                          rotate_left
                          · simp only [Act.put, List.setIfInBounds_toArray, List.set_cons_zero, List.set_cons_succ, i64_w, i32_w]
                            rfl
                          refine pure_ (i := 12) (N := some 29) (v := ?_) (a' := ?_) #[true, true, true, true, true, true, true, true, true, true, true, true, true, false, false, false, false, false, false, false, false, false, false, false, false] rfl rfl (any_of HT_.out (by kernel_rfl)) (fun _ _ _ h => h) (Or.inl ⟨by rfl, ?_⟩) ?_ ?_
                          rotate_left
                          · intro w'
                            go_simp
                            with_reducible rfl
                          rotate_left
                          · simp only [Act.put, List.setIfInBounds_toArray, List.set_cons_zero, List.set_cons_succ, i64_w, i32_w]
                            rfl
                          refine pure_ (i := 13) (N := some 30) (v := ?_) (a' := ?_) #[true, true, true, true, true, true, true, true, true, true, true, true, true, true, false, false, false, false, false, false, false, false, false, false, false] rfl rfl (any_of HT_.out (by kernel_rfl)) (fun _ _ _ h => h) (Or.inl ⟨by rfl, ?_⟩) ?_ ?_
                          rotate_left
                          · intro w'
                            go_simp
                            with_reducible rfl
                          rotate_left
                          · simp only [Act.put, List.setIfInBounds_toArray, List.set_cons_zero, List.set_cons_succ, i64_w, i32_w]
                            rfl
                          refine pure_ (i := 14) (N := some 31) (v := ?_) (a' := ?_) #[true, true, true, true, true, true, true, true, true, true, true, true, true, true, true, false, false, false, false, false, false, false, false, false, false] rfl rfl (any_of HT_.out (by kernel_rfl)) (fun _ _ _ h => h) (Or.inl ⟨by rfl, ?_⟩) ?_ ?_
                          rotate_left
                          · intro w'
                            go_simp
                            with_reducible rfl
                          rotate_left
                          · simp only [Act.put, List.setIfInBounds_toArray, List.set_cons_zero, List.set_cons_succ, i64_w, i32_w]
                            rfl
                          refine pure_ (i := 15) (N := some 32) (v := ?_) (a' := ?_) #[true, true, true, true, true, true, true, true, true, true, true, true, true, true, true, true, false, false, false, false, false, false, false, false, false] rfl rfl (any_of HT_.out (by kernel_rfl)) (fun _ _ _ h => h) (Or.inl ⟨by rfl, ?_⟩) ?_ ?_
                          rotate_left
                          · intro w'
                            go_simp
                            with_reducible rfl
                          rotate_left
                          · simp only [Act.put, List.setIfInBounds_toArray, List.set_cons_zero, List.set_cons_succ, i64_w, i32_w]
                            rfl
                          refine pure_ (i := 16) (N := some 33) (v := ?_) (a' := ?_) #[true, true, true, true, true, true, true, true, true, true, true, true, true, true, true, true, true, false, false, false, false, false, false, false, false] rfl rfl (any_of HT_.out (by kernel_rfl)) (fun _ _ _ h => h) (Or.inl ⟨by rfl, ?_⟩) ?_ ?_
                          rotate_left
                          · intro w'
                            go_simp
                            with_reducible rfl
                          rotate_left
                          · simp only [Act.put, List.setIfInBounds_toArray, List.set_cons_zero, List.set_cons_succ, i64_w, i32_w]
                            rfl
                          refine pure_ (i := 18) (N := some 35) (v := ?_) (a' := ?_) #[true, true, true, true, true, true, true, true, true, true, true, true, true, true, true, true, true, false, true, false, false, false, false, false, false] rfl rfl (any_of HT_.out (by kernel_rfl)) (fun _ _ _ h => h) (Or.inl ⟨by rfl, ?_⟩) ?_ ?_
                          rotate_left
                          · intro w'
                            go_simp
                            with_reducible rfl
                          rotate_left
                          · simp only [Act.put, List.setIfInBounds_toArray, List.set_cons_zero, List.set_cons_succ, i64_w, i32_w]
                            rfl
                          refine pure_ (i := 19) (N := some 36) (v := ?_) (a' := ?_) #[true, true, true, true, true, true, true, true, true, true, true, true, true, true, true, true, true, false, true, true, false, false, false, false, false] rfl rfl (any_of HT_.out (by kernel_rfl)) (fun _ _ _ h => h) (Or.inl ⟨by rfl, ?_⟩) ?_ ?_
                          rotate_left
                          · intro w'
                            go_simp
                            with_reducible rfl
                          rotate_left
                          · simp only [Act.put, List.setIfInBounds_toArray, List.set_cons_zero, List.set_cons_succ, i64_w, i32_w]
                            rfl
                          refine pure_ (i := 20) (N := some 37) (v := ?_) (a' := ?_) #[true, true, true, true, true, true, true, true, true, true, true, true, true, true, true, true, true, false, true, true, true, false, false, false, false] rfl rfl (any_of HT_.out (by kernel_rfl)) (fun _ _ _ h => h) (Or.inl ⟨by rfl, ?_⟩) ?_ ?_
                          rotate_left
                          · intro w'
                            go_simp
                            with_reducible rfl
                          rotate_left
                          · simp only [Act.put, List.setIfInBounds_toArray, List.set_cons_zero, List.set_cons_succ, i64_w, i32_w]
                            rfl
                          refine pure_ (i := 21) (N := some 38) (v := ?_) (a' := ?_) #[true, true, true, true, true, true, true, true, true, true, true, true, true, true, true, true, true, false, true, true, true, true, false, false, false] rfl rfl (any_of HT_.out (by kernel_rfl)) (fun _ _ _ h => h) (Or.inl ⟨by rfl, ?_⟩) ?_ ?_
                          rotate_left
                          · intro w'
                            go_simp
                            with_reducible rfl
                          rotate_left
                          · simp only [Act.put, List.setIfInBounds_toArray, List.set_cons_zero, List.set_cons_succ, i64_w, i32_w]
                            rfl
                          refine take_ (i := 17) (N := some 34) (v := ?_) (a' := ?_) #[true, true, true, true, true, true, true, true, true, true, true, true, true, true, true, true, true, true, true, true, true, true, false, false, false] rfl rfl (take_ofW HT_.out HW_.out (by kernel_rfl)) (fun _ _ _ h => h) (Or.inl ⟨by rfl, ?_⟩) hHeld ?_ ?_
                          rotate_left
                          · rintro w' ⟨s0, s1, s2, s3, s4, s5, s6, s7, s8, s9, s10, s11, s12, s13, s14⟩
                            go_simp
                            with_reducible rfl
                          rotate_left
                          · simp only [Act.put, List.setIfInBounds_toArray, List.set_cons_zero, List.set_cons_succ, i64_w, i32_w]
                            rfl
                          refine take_ (i := 22) (N := some 39) (v := ?_) (a' := ?_) #[true, true, true, true, true, true, true, true, true, true, true, true, true, true, true, true, true, true, true, true, true, true, true, false, false] rfl rfl (take_ofW HT_.out HW_.out (by kernel_rfl)) (fun _ _ _ h => h) (Or.inl ⟨by rfl, ?_⟩) hHeld ?_ ?_
                          rotate_left
                          · rintro w' ⟨s0, s1, s2, s3, s4, s5, s6, s7, s8, s9, s10, s11, s12, s13, s14⟩
                            go_simp
                            with_reducible rfl
                          rotate_left
                          · simp only [Act.put, List.setIfInBounds_toArray, List.set_cons_zero, List.set_cons_succ, i64_w, i32_w]
                            rfl
                          refine pure_ (i := 23) (N := some 40) (v := ?_) (a' := ?_) #[true, true, true, true, true, true, true, true, true, true, true, true, true, true, true, true, true, true, true, true, true, true, true, true, false] rfl rfl (any_of HT_.out (by kernel_rfl)) (fun _ _ _ h => h) (Or.inl ⟨by rfl, ?_⟩) ?_ ?_
                          rotate_left
                          · intro w'
                            go_simp
                            with_reducible rfl
                          rotate_left
                          · simp only [Act.put, List.setIfInBounds_toArray, List.set_cons_zero, List.set_cons_succ, i64_w, i32_w]
                            rfl
                          refine pure_ (i := 24) (N := some 41) (v := ?_) (a' := ?_) #[true, true, true, true, true, true, true, true, true, true, true, true, true, true, true, true, true, true, true, true, true, true, true, true, true] rfl rfl (any_of HT_.out (by kernel_rfl)) (fun _ _ _ h => h) (Or.inl ⟨by rfl, ?_⟩) ?_ ?_
                          rotate_left
                          · intro w'
                            go_simp
                            with_reducible rfl
                          rotate_left
                          · simp only [Act.put, List.setIfInBounds_toArray, List.set_cons_zero, List.set_cons_succ, i64_w, i32_w]
                            rfl
                          refine done_ (done_of HT_.out (by kernel_rfl)) ?_
                          obtain ⟨Ao20, co20, eo20⟩ := Kd.R_slice HO_3.out
                          subst eo20
                          have p33010 : 0 ≤ (x4_1 : Int) := of_decide_eq_true (by first | (with_reducible assumption) | assumption)
                          have q33010 : x4_1 < (l0.length : Int) := of_decide_eq_true (by first | (with_reducible assumption) | assumption)
                          obtain ⟨ad33010, e33010, hx33010_0, hx33010_1, hx33010_2, hx33010_3, hx33010_4⟩ := at_T44 HR0.out x4_1 p33010 q33010
                          obtain rfl : ad33001 = ad33010 := (by injection e33010)
                          replace hx33010_0 := (HB.out.cell (World.block_lt_of_cell? w _ hx33010_0)).trans hx33010_0
                          replace hx33010_1 := (HB.out.cell (World.block_lt_of_cell? w _ hx33010_1)).trans hx33010_1
                          replace hx33010_2 := (HB.out.cell (World.block_lt_of_cell? w _ hx33010_2)).trans hx33010_2
                          replace hx33010_3 := (HB.out.cell (World.block_lt_of_cell? w _ hx33010_3)).trans hx33010_3
                          replace hx33010_4 := (HB.out.cell (World.block_lt_of_cell? w _ hx33010_4)).trans hx33010_4
                          replace p33010 := eq_true p33010
                          replace q33010 := eq_true q33010
                          have p18 : 0 ≤ ((ji15) : Int) := of_decide_eq_true (by first | (with_reducible assumption) | assumption)
                          have q18 : ((ji15) : Int) < ((x3_1.length : Int) : Int) := of_decide_eq_true (by first | (with_reducible assumption) | assumption)
                          obtain ⟨go18, co18, eo18, gb18, gl18, cl18, HG18⟩ := Kd.R_form HO_3.out (by omega)
                          (first | cases eo18 | (injection eo18 with ea_ en_ ec_; (first | subst ea_ | (injection ea_ with ea_; subst ea_)); subst ec_; clear en_))
                          have GB18 := Aside0.mk gb18
                          have GG18 := Aside0.mk HG18
                          clear gb18 gl18 HG18
                          obtain ⟨ce18, hcl18, hM18, hcc18, hfr18⟩ := Kd.R_elem HO_3.out z36 ((ji15) : Int) p18 q18
                          obtain rfl := k36_openM hM18
                          have hx18_0 : w19.cell? ⟨go18, ((ji15) : Int).toNat * 2, none⟩ = some (.int .i64 ((rd_T36 x3_1 (ji15)).f0)) := hcc18 0 _ rfl
                          have hx18_1 : w19.cell? ⟨go18, ((ji15) : Int).toNat * 2 + 1, none⟩ = some (.int .i64 ((rd_T36 x3_1 (ji15)).f1)) := hcc18 1 _ rfl
                          have hf18_0 : w19.frozen? ⟨go18, ((ji15) : Int).toNat * 2, none⟩ = false := hfr18 0
                          have hf18_1 : w19.frozen? ⟨go18, ((ji15) : Int).toNat * 2 + 1, none⟩ = false := hfr18 1
                          clear hcl18 hcc18 hfr18 hM18
                          replace p18 := eq_true p18
                          replace q18 := eq_true q18
                          have HX21 := Aside0.mk (show Kd.R k36 36 w19 w.heap.size (fun _ => True) (.slice (some ⟨go18, 0, none⟩) x3_1.length co20) x3_1 from (by (with_reducible repeat (first | apply Kd.R_alloc | apply Kd.R_drewN | apply Kd.R_drew)); exact HO_3.out))
                          obtain ⟨ce21, hcl21, hM21, hcc21, hfr21⟩ := Kd.R_elem HX21.out z36 ((ji15) : Int) (of_decide_eq_true (by first | (with_reducible assumption) | assumption)) (by have h_ : ((ji15) : Int) < ((x3_1.length : Int) : Int) := of_decide_eq_true (by first | (with_reducible assumption) | assumption); first | exact h_ | (have e_ := (Kd.R_reads' HO_3.out).1; omega) | simpa using h_)
                          obtain rfl := k36_openM hM21
                          have HP21 := Kd.R_seg HX21.out ((ji15) : Int) (of_decide_eq_true (by first | (with_reducible assumption) | assumption)) (by have h_ : ((ji15) : Int) < ((x3_1.length : Int) : Int) := of_decide_eq_true (by first | (with_reducible assumption) | assumption); first | exact h_ | (have e_ := (Kd.R_reads' HO_3.out).1; omega) | simpa using h_) (seg := [.int .i64 ((rd_T44 l0 x4_1).f1)]) (j := 1) hcl21 hcc21 (show 2 ≤ 2 from by decide) (x' := (⟨(rd_T36 x3_1 (ji15)).f0, (rd_T44 l0 x4_1).f1⟩ : S36)) (k36_mkM _ _ _ (⟨(rd_T36 x3_1 (ji15)).f0, (rd_T44 l0 x4_1).f1⟩ : S36) ) (fun _ hk => hk)
                          have hx21_1 := hcc21 1 _ rfl
                          (try simp only [show (k36).sz = 2 from rfl, Nat.mul_one, Nat.add_zero] at hx21_1)
                          have hf21_1 := hfr21 1
                          (try simp only [show (k36).sz = 2 from rfl, Nat.mul_one, Nat.add_zero] at hf21_1)
                          clear hcl21 hcc21 hfr21 hM21
                          try go_wp2_with (first | ((with_reducible refine gate_store (t := 3) (p := 52) rfl ?_); refine store_event (t := 3) (p := 52) (v := ?vo_w22) (w1 := (w19.setCell ⟨go18, ((ji15) : Int).toNat * 2 + 1, none⟩ (.int .i64 ((rd_T44 l0 x4_1).f1)))) ?hg ?ho ?hn ?hr ?_; (case ho => rfl); (case hg => rfl); (case hn => rfl); (case hr => first | (go_simp; done) | (go_simp; rfl)); intro w22 hw; have hg : w19.grownBy w22 (some go18) := (by rw [hw]; exact HP21.2); have hp_ : Kd.R k36 36 w22 w.heap.size (fun _ => True) (.slice (some ⟨go18, 0, none⟩) x3_1.length co20) y33011 := (by rw [hw, Ny33011.out]; exact HP21.1); clear HP21; have n0_ := Aside0.mk (hp_); have n1_ := Aside0.mk ((by rw [hw]; exact below_set (HB.out) GB18.out : Below w.heap.size w w22)); clear HO_3; clear HB; have HO_3 := n0_; have HB := n1_; clear n0_ n1_; clear hg hw hp_))
                          go_roundg k1
                          case measure => have := HK1.out; omega
                          case rel => exact ⟨(y33011), (wrap64 (x4_1 + 1)), (by first | rfl | (simp; done) | (simp [*]; done)), H', ⟨by have := HK1.out; omega⟩, ⟨by (with_reducible repeat (first | apply Kd.R_alloc | apply Kd.R_drewN | apply Kd.R_drew)); exact HO_3.out⟩, ⟨by repeat (first | (with_reducible first | exact HB.out | apply below_alloc | apply pw_below_drewN | apply below_drew1) | exact HB.out)⟩⟩
                        · rw [if_neg c17] at H
                          exact absurd H (by simp)
                      · rw [if_neg c16] at H
                        exact absurd H (by simp)
                    · rw [if_neg c14] at H
                      have c14b0 : (((rd_T44 l0 (ji6)).f4) == ((rd_T44 l0 x4_1).f4)) = false := beq_eq_false_iff_ne.mpr c14
                      have c14b1 : (((rd_T44 l0 (ji6)).f4) != ((rd_T44 l0 x4_1).f4)) = true := bne_iff_ne.mpr c14
                      by_cases c23 : x3_1.length < 8796093022208
                      · rw [if_pos c23] at H
                        have LMc23 := Aside0.mk c23
                        clear c23
                        obtain ⟨y33014, hy33014⟩ : ∃ y_ : List (S36), y_ = (x3_1 ++ [(⟨(rd_T44 l0 x4_1).f0, (rd_T44 l0 x4_1).f1⟩ : S36)]) := ⟨_, rfl⟩
                        replace H : (papermillref34_Stretches.l0 k1 l0 y33014 (wrap64 (x4_1 + 1))) = some r := by first | (rw [hy33014]; with_reducible exact H) | (have H2_ := (Option.bind_some _ _).symm.trans H; rw [hy33014]; with_reducible exact H2_) | (have H2_ := (Option.bind_some _ _).symm.trans H; with_reducible exact H2_) | with_reducible exact H | (rw [hy33014]; exact H) | exact H
                        have Ny33014 := Aside0.mk hy33014
                        clear hy33014
                        have H' := Aside0.mk H
                        clear H
                        have p33001 : 0 ≤ (x4_1 : Int) := of_decide_eq_true (by first | (with_reducible assumption) | assumption)
                        have q33001 : x4_1 < (l0.length : Int) := of_decide_eq_true (by first | (with_reducible assumption) | assumption)
                        obtain ⟨ad33001, e33001, hx33001_0, hx33001_1, hx33001_2, hx33001_3, hx33001_4⟩ := at_T44 HR0.out x4_1 p33001 q33001
                        cases e33001
                        replace hx33001_0 := (HB.out.cell (World.block_lt_of_cell? w _ hx33001_0)).trans hx33001_0
                        replace hx33001_1 := (HB.out.cell (World.block_lt_of_cell? w _ hx33001_1)).trans hx33001_1
                        replace hx33001_2 := (HB.out.cell (World.block_lt_of_cell? w _ hx33001_2)).trans hx33001_2
                        replace hx33001_3 := (HB.out.cell (World.block_lt_of_cell? w _ hx33001_3)).trans hx33001_3
                        replace hx33001_4 := (HB.out.cell (World.block_lt_of_cell? w _ hx33001_4)).trans hx33001_4
                        replace p33001 := eq_true p33001
                        replace q33001 := eq_true q33001
                        try go_wp2
                        have n0_ := Aside0.mk (Kd.R_drew HO_3.out)
                        have n1_ := Aside0.mk (below_drew1 HB.out)
                        clear HO_3
                        clear HB
                        have HO_3 := n0_
                        have HB := n1_
                        clear n0_ n1_
                        have p33002 : 0 ≤ ((ji6) : Int) := of_decide_eq_true (by first | (with_reducible assumption) | assumption)
                        have q33002 : (ji6) < (l0.length : Int) := of_decide_eq_true (by first | (with_reducible assumption) | assumption)
                        obtain ⟨ad33002, e33002, hx33002_0, hx33002_1, hx33002_2, hx33002_3, hx33002_4⟩ := at_T44 HR0.out (ji6) p33002 q33002
                        have hw33002_4 := hx33002_4
                        have hw33002_3 := hx33002_3
                        have hw33002_2 := hx33002_2
                        have hw33002_1 := hx33002_1
                        have hw33002_0 := hx33002_0
                        obtain rfl : ad33001 = ad33002 := (by injection e33002)
                        replace hx33002_0 := (HB.out.cell (World.block_lt_of_cell? w _ hx33002_0)).trans hx33002_0
                        replace hx33002_1 := (HB.out.cell (World.block_lt_of_cell? w _ hx33002_1)).trans hx33002_1
                        replace hx33002_2 := (HB.out.cell (World.block_lt_of_cell? w _ hx33002_2)).trans hx33002_2
                        replace hx33002_3 := (HB.out.cell (World.block_lt_of_cell? w _ hx33002_3)).trans hx33002_3
                        replace hx33002_4 := (HB.out.cell (World.block_lt_of_cell? w _ hx33002_4)).trans hx33002_4
                        replace p33002 := eq_true p33002
                        replace q33002 := eq_true q33002
                        have p33008 : 0 ≤ ((ji6) : Int) := of_decide_eq_true (by first | (with_reducible assumption) | assumption)
                        have q33008 : (ji6) < (l0.length : Int) := of_decide_eq_true (by first | (with_reducible assumption) | assumption)
                        obtain ⟨ad33008, e33008, hx33008_0, hx33008_1, hx33008_2, hx33008_3, hx33008_4⟩ := at_T44 HR0.out (ji6) p33008 q33008
                        have hw33008_4 := hx33008_4
                        have hw33008_3 := hx33008_3
                        have hw33008_2 := hx33008_2
                        have hw33008_1 := hx33008_1
                        have hw33008_0 := hx33008_0
                        obtain rfl : ad33001 = ad33008 := (by injection e33008)
                        replace hx33008_0 := (HB.out.cell (World.block_lt_of_cell? w _ hx33008_0)).trans hx33008_0
                        replace hx33008_1 := (HB.out.cell (World.block_lt_of_cell? w _ hx33008_1)).trans hx33008_1
                        replace hx33008_2 := (HB.out.cell (World.block_lt_of_cell? w _ hx33008_2)).trans hx33008_2
                        replace hx33008_3 := (HB.out.cell (World.block_lt_of_cell? w _ hx33008_3)).trans hx33008_3
                        replace hx33008_4 := (HB.out.cell (World.block_lt_of_cell? w _ hx33008_4)).trans hx33008_4
                        replace p33008 := eq_true p33008
                        replace q33008 := eq_true q33008
                        have p33009 : 0 ≤ (x4_1 : Int) := of_decide_eq_true (by first | (with_reducible assumption) | assumption)
                        have q33009 : x4_1 < (l0.length : Int) := of_decide_eq_true (by first | (with_reducible assumption) | assumption)
                        obtain ⟨ad33009, e33009, hx33009_0, hx33009_1, hx33009_2, hx33009_3, hx33009_4⟩ := at_T44 HR0.out x4_1 p33009 q33009
                        have hw33009_4 := hx33009_4
                        have hw33009_3 := hx33009_3
                        have hw33009_2 := hx33009_2
                        have hw33009_1 := hx33009_1
                        have hw33009_0 := hx33009_0
                        obtain rfl : ad33001 = ad33009 := (by injection e33009)
                        replace hx33009_0 := (HB.out.cell (World.block_lt_of_cell? w _ hx33009_0)).trans hx33009_0
                        replace hx33009_1 := (HB.out.cell (World.block_lt_of_cell? w _ hx33009_1)).trans hx33009_1
                        replace hx33009_2 := (HB.out.cell (World.block_lt_of_cell? w _ hx33009_2)).trans hx33009_2
                        replace hx33009_3 := (HB.out.cell (World.block_lt_of_cell? w _ hx33009_3)).trans hx33009_3
                        replace hx33009_4 := (HB.out.cell (World.block_lt_of_cell? w _ hx33009_4)).trans hx33009_4
                        replace p33009 := eq_true p33009
                        replace q33009 := eq_true q33009
                        refine start_ (n := 25) (S := fun w' => w'.cell? (ad33001.add (((ji6)).toNat * 5)) = some (.int .i64 ((rd_T44 l0 (ji6)).f0)) ∧ w'.cell? ⟨(ad33001.add (((ji6)).toNat * 5)).block, (ad33001.add (((ji6)).toNat * 5)).off + 1, none⟩ = some (.int .i64 ((rd_T44 l0 (ji6)).f1)) ∧ w'.cell? ⟨(ad33001.add (((ji6)).toNat * 5)).block, (ad33001.add (((ji6)).toNat * 5)).off + 2, none⟩ = some (.int .i64 ((rd_T44 l0 (ji6)).f2)) ∧ w'.cell? ⟨(ad33001.add (((ji6)).toNat * 5)).block, (ad33001.add (((ji6)).toNat * 5)).off + 3, none⟩ = some (.int .i64 ((rd_T44 l0 (ji6)).f3)) ∧ w'.cell? ⟨(ad33001.add (((ji6)).toNat * 5)).block, (ad33001.add (((ji6)).toNat * 5)).off + 4, none⟩ = some (.int .i64 ((rd_T44 l0 (ji6)).f4)) ∧ w'.cell? (ad33001.add (((ji6)).toNat * 5)) = some (.int .i64 ((rd_T44 l0 (ji6)).f0)) ∧ w'.cell? ⟨(ad33001.add (((ji6)).toNat * 5)).block, (ad33001.add (((ji6)).toNat * 5)).off + 1, none⟩ = some (.int .i64 ((rd_T44 l0 (ji6)).f1)) ∧ w'.cell? ⟨(ad33001.add (((ji6)).toNat * 5)).block, (ad33001.add (((ji6)).toNat * 5)).off + 2, none⟩ = some (.int .i64 ((rd_T44 l0 (ji6)).f2)) ∧ w'.cell? ⟨(ad33001.add (((ji6)).toNat * 5)).block, (ad33001.add (((ji6)).toNat * 5)).off + 3, none⟩ = some (.int .i64 ((rd_T44 l0 (ji6)).f3)) ∧ w'.cell? ⟨(ad33001.add (((ji6)).toNat * 5)).block, (ad33001.add (((ji6)).toNat * 5)).off + 4, none⟩ = some (.int .i64 ((rd_T44 l0 (ji6)).f4)) ∧ w'.cell? (ad33001.add ((x4_1).toNat * 5)) = some (.int .i64 ((rd_T44 l0 x4_1).f0)) ∧ w'.cell? ⟨(ad33001.add ((x4_1).toNat * 5)).block, (ad33001.add ((x4_1).toNat * 5)).off + 1, none⟩ = some (.int .i64 ((rd_T44 l0 x4_1).f1)) ∧ w'.cell? ⟨(ad33001.add ((x4_1).toNat * 5)).block, (ad33001.add ((x4_1).toNat * 5)).off + 2, none⟩ = some (.int .i64 ((rd_T44 l0 x4_1).f2)) ∧ w'.cell? ⟨(ad33001.add ((x4_1).toNat * 5)).block, (ad33001.add ((x4_1).toNat * 5)).off + 3, none⟩ = some (.int .i64 ((rd_T44 l0 x4_1).f3)) ∧ w'.cell? ⟨(ad33001.add ((x4_1).toNat * 5)).block, (ad33001.add ((x4_1).toNat * 5)).off + 4, none⟩ = some (.int .i64 ((rd_T44 l0 x4_1).f4))) (ds := []) #[false, false, false, false, false, false, false, false, false, false, false, false, false, false, false, false, false, false, false, false, false, false, false, false, false] (by kernel_rfl) rfl rfl ⟨((HB.out.cell (World.block_lt_of_cell? w _ hw33002_0)).trans hw33002_0), ((HB.out.cell (World.block_lt_of_cell? w _ hw33002_1)).trans hw33002_1), ((HB.out.cell (World.block_lt_of_cell? w _ hw33002_2)).trans hw33002_2), ((HB.out.cell (World.block_lt_of_cell? w _ hw33002_3)).trans hw33002_3), ((HB.out.cell (World.block_lt_of_cell? w _ hw33002_4)).trans hw33002_4), ((HB.out.cell (World.block_lt_of_cell? w _ hw33008_0)).trans hw33008_0), ((HB.out.cell (World.block_lt_of_cell? w _ hw33008_1)).trans hw33008_1), ((HB.out.cell (World.block_lt_of_cell? w _ hw33008_2)).trans hw33008_2), ((HB.out.cell (World.block_lt_of_cell? w _ hw33008_3)).trans hw33008_3), ((HB.out.cell (World.block_lt_of_cell? w _ hw33008_4)).trans hw33008_4), ((HB.out.cell (World.block_lt_of_cell? w _ hw33009_0)).trans hw33009_0), ((HB.out.cell (World.block_lt_of_cell? w _ hw33009_1)).trans hw33009_1), ((HB.out.cell (World.block_lt_of_cell? w _ hw33009_2)).trans hw33009_2), ((HB.out.cell (World.block_lt_of_cell? w _ hw33009_3)).trans hw33009_3), ((HB.out.cell (World.block_lt_of_cell? w _ hw33009_4)).trans hw33009_4)⟩ (fun hHeld => ?_); refine with_tabW papermillref34_Stretches.tab6 papermillref34_Stretches.bits6 (fun HT_ HW_ => ?_)
                        generalize wr.drew = w24 at HO_3 HB hx33002_0 hx33002_1 hx33002_2 hx33002_3 hx33002_4 hx33008_0 hx33008_1 hx33008_2 hx33008_3 hx33008_4 hx33009_0 hx33009_1 hx33009_2 hx33009_3 hx33009_4 hHeld ⊢
                        refine pure_ (i := 0) (N := some 17) (v := ?_) (a' := ?_) #[true, false, false, false, false, false, false, false, false, false, false, false, false, false, false, false, false, false, false, false, false, false, false, false, false] rfl rfl (any_of HT_.out (by kernel_rfl)) (fun _ _ _ h => h) (Or.inl ⟨by rfl, ?_⟩) ?_ ?_
                        rotate_left
                        · intro w'
                          go_simp
                          with_reducible rfl
                        rotate_left
                        · simp only [Act.put, List.setIfInBounds_toArray, List.set_cons_zero, List.set_cons_succ, i64_w, i32_w]
                          rfl
                        refine pure_ (i := 1) (N := some 18) (v := ?_) (a' := ?_) #[true, true, false, false, false, false, false, false, false, false, false, false, false, false, false, false, false, false, false, false, false, false, false, false, false] rfl rfl (any_of HT_.out (by kernel_rfl)) (fun _ _ _ h => h) (Or.inl ⟨by rfl, ?_⟩) ?_ ?_
                        rotate_left
                        · intro w'
                          go_simp
                          with_reducible rfl
                        rotate_left
                        · simp only [Act.put, List.setIfInBounds_toArray, List.set_cons_zero, List.set_cons_succ, i64_w, i32_w]
                          rfl
                        refine pure_ (i := 2) (N := some 19) (v := ?_) (a' := ?_) #[true, true, true, false, false, false, false, false, false, false, false, false, false, false, false, false, false, false, false, false, false, false, false, false, false] rfl rfl (any_of HT_.out (by kernel_rfl)) (fun _ _ _ h => h) (Or.inl ⟨by rfl, ?_⟩) ?_ ?_
                        rotate_left
                        · intro w'
                          go_simp
                          with_reducible rfl
                        rotate_left
                        · simp only [Act.put, List.setIfInBounds_toArray, List.set_cons_zero, List.set_cons_succ, i64_w, i32_w]
                          rfl
                        refine pure_ (i := 3) (N := some 20) (v := ?_) (a' := ?_) #[true, true, true, true, false, false, false, false, false, false, false, false, false, false, false, false, false, false, false, false, false, false, false, false, false] rfl rfl (any_of HT_.out (by kernel_rfl)) (fun _ _ _ h => h) (Or.inl ⟨by rfl, ?_⟩) ?_ ?_
                        rotate_left
                        · intro w'
                          go_simp
                          with_reducible rfl
                        rotate_left
                        · simp only [Act.put, List.setIfInBounds_toArray, List.set_cons_zero, List.set_cons_succ, i64_w, i32_w]
                          rfl
                        refine pure_ (i := 4) (N := some 21) (v := ?_) (a' := ?_) #[true, true, true, true, true, false, false, false, false, false, false, false, false, false, false, false, false, false, false, false, false, false, false, false, false] rfl rfl (any_of HT_.out (by kernel_rfl)) (fun _ _ _ h => h) (Or.inl ⟨by rfl, ?_⟩) ?_ ?_
                        rotate_left
                        · intro w'
                          go_simp
                          with_reducible rfl
                        rotate_left
                        · simp only [Act.put, List.setIfInBounds_toArray, List.set_cons_zero, List.set_cons_succ, i64_w, i32_w]
                          rfl
                        refine pure_ (i := 5) (N := some 22) (v := ?_) (a' := ?_) #[true, true, true, true, true, true, false, false, false, false, false, false, false, false, false, false, false, false, false, false, false, false, false, false, false] rfl rfl (any_of HT_.out (by kernel_rfl)) (fun _ _ _ h => h) (Or.inl ⟨by rfl, ?_⟩) ?_ ?_
                        rotate_left
                        · intro w'
                          go_simp
                          with_reducible rfl
                        rotate_left
                        · simp only [Act.put, List.setIfInBounds_toArray, List.set_cons_zero, List.set_cons_succ, i64_w, i32_w]
                          rfl
                        refine pure_ (i := 6) (N := some 23) (v := ?_) (a' := ?_) #[true, true, true, true, true, true, true, false, false, false, false, false, false, false, false, false, false, false, false, false, false, false, false, false, false] rfl rfl (any_of HT_.out (by kernel_rfl)) (fun _ _ _ h => h) (Or.inl ⟨by rfl, ?_⟩) ?_ ?_
                        rotate_left
                        · intro w'
                          go_simp
                          with_reducible rfl
                        rotate_left
                        · simp only [Act.put, List.setIfInBounds_toArray, List.set_cons_zero, List.set_cons_succ, i64_w, i32_w]
                          rfl
                        refine pure_ (i := 7) (N := some 24) (v := ?_) (a' := ?_) #[true, true, true, true, true, true, true, true, false, false, false, false, false, false, false, false, false, false, false, false, false, false, false, false, false] rfl rfl (any_of HT_.out (by kernel_rfl)) (fun _ _ _ h => h) (Or.inl ⟨by rfl, ?_⟩) ?_ ?_
                        rotate_left
                        · intro w'
                          go_simp
                          with_reducible rfl
                        rotate_left
                        · simp only [Act.put, List.setIfInBounds_toArray, List.set_cons_zero, List.set_cons_succ, i64_w, i32_w]
                          rfl
                        refine take_ (i := 8) (N := some 25) (v := ?_) (a' := ?_) #[true, true, true, true, true, true, true, true, true, false, false, false, false, false, false, false, false, false, false, false, false, false, false, false, false] rfl rfl (take_ofW HT_.out HW_.out (by kernel_rfl)) (fun _ _ _ h => h) (Or.inl ⟨by rfl, ?_⟩) hHeld ?_ ?_
                        rotate_left
                        · rintro w' ⟨s0, s1, s2, s3, s4, s5, s6, s7, s8, s9, s10, s11, s12, s13, s14⟩
                          go_simp
                          with_reducible rfl
                        rotate_left
                        · simp only [Act.put, List.setIfInBounds_toArray, List.set_cons_zero, List.set_cons_succ, i64_w, i32_w]
                          rfl
                        refine pure_ (i := 9) (N := some 26) (v := ?_) (a' := ?_) #[true, true, true, true, true, true, true, true, true, true, false, false, false, false, false, false, false, false, false, false, false, false, false, false, false] rfl rfl (any_of HT_.out (by kernel_rfl)) (fun _ _ _ h => h) (Or.inl ⟨by rfl, ?_⟩) ?_ ?_
                        rotate_left
                        · intro w'
                          go_simp
                          with_reducible rfl
                        rotate_left
                        · simp only [Act.put, List.setIfInBounds_toArray, List.set_cons_zero, List.set_cons_succ, i64_w, i32_w]
                          rfl
                        refine pure_ (i := 10) (N := some 27) (v := ?_) (a' := ?_) #[true, true, true, true, true, true, true, true, true, true, true, false, false, false, false, false, false, false, false, false, false, false, false, false, false] rfl rfl (any_of HT_.out (by kernel_rfl)) (fun _ _ _ h => h) (Or.inl ⟨by rfl, ?_⟩) ?_ ?_
                        rotate_left
                        · intro w'
                          go_simp
                          with_reducible rfl
                        rotate_left
                        · simp only [Act.put, List.setIfInBounds_toArray, List.set_cons_zero, List.set_cons_succ, i64_w, i32_w]
                          rfl
                        refine pure_ (i := 11) (N := some 28) (v := ?_) (a' := ?_) #[true, true, true, true, true, true, true, true, true, true, true, true, false, false, false, false, false, false, false, false, false, false, false, false, false] rfl rfl (any_of HT_.out (by kernel_rfl)) (fun _ _ _ h => h) (Or.inl ⟨by rfl, ?_⟩) ?_ ?_
                        rotate_left
                        · intro w'
                          go_simp
                          with_reducible rfl
                        rotate_left
                        · simp only [Act.put, List.setIfInBounds_toArray, List.set_cons_zero, List.set_cons_succ, i64_w, i32_w]
                          rfl
                        refine pure_ (i := 12) (N := some 29) (v := ?_) (a' := ?_) #[true, true, true, true, true, true, true, true, true, true, true, true, true, false, false, false, false, false, false, false, false, false, false, false, false] rfl rfl (any_of HT_.out (by kernel_rfl)) (fun _ _ _ h => h) (Or.inl ⟨by rfl, ?_⟩) ?_ ?_
                        rotate_left
                        · intro w'
                          go_simp
                          with_reducible rfl
                        rotate_left
                        · simp only [Act.put, List.setIfInBounds_toArray, List.set_cons_zero, List.set_cons_succ, i64_w, i32_w]
                          rfl
                        refine pure_ (i := 13) (N := some 30) (v := ?_) (a' := ?_) #[true, true, true, true, true, true, true, true, true, true, true, true, true, true, false, false, false, false, false, false, false, false, false, false, false] rfl rfl (any_of HT_.out (by kernel_rfl)) (fun _ _ _ h => h) (Or.inl ⟨by rfl, ?_⟩) ?_ ?_
                        rotate_left
                        · intro w'
                          go_simp
                          with_reducible rfl
                        rotate_left
                        · simp only [Act.put, List.setIfInBounds_toArray, List.set_cons_zero, List.set_cons_succ, i64_w, i32_w]
                          rfl
                        refine pure_ (i := 14) (N := some 31) (v := ?_) (a' := ?_) #[true, true, true, true, true, true, true, true, true, true, true, true, true, true, true, false, false, false, false, false, false, false, false, false, false] rfl rfl (any_of HT_.out (by kernel_rfl)) (fun _ _ _ h => h) (Or.inl ⟨by rfl, ?_⟩) ?_ ?_
                        rotate_left
                        · intro w'
                          go_simp
                          with_reducible rfl
                        rotate_left
                        · simp only [Act.put, List.setIfInBounds_toArray, List.set_cons_zero, List.set_cons_succ, i64_w, i32_w]
                          rfl
                        refine pure_ (i := 15) (N := some 32) (v := ?_) (a' := ?_) #[true, true, true, true, true, true, true, true, true, true, true, true, true, true, true, true, false, false, false, false, false, false, false, false, false] rfl rfl (any_of HT_.out (by kernel_rfl)) (fun _ _ _ h => h) (Or.inl ⟨by rfl, ?_⟩) ?_ ?_
                        rotate_left
                        · intro w'
                          go_simp
                          with_reducible rfl
                        rotate_left
                        · simp only [Act.put, List.setIfInBounds_toArray, List.set_cons_zero, List.set_cons_succ, i64_w, i32_w]
                          rfl
                        refine pure_ (i := 16) (N := some 33) (v := ?_) (a' := ?_) #[true, true, true, true, true, true, true, true, true, true, true, true, true, true, true, true, true, false, false, false, false, false, false, false, false] rfl rfl (any_of HT_.out (by kernel_rfl)) (fun _ _ _ h => h) (Or.inl ⟨by rfl, ?_⟩) ?_ ?_
                        rotate_left
                        · intro w'
                          go_simp
                          with_reducible rfl
                        rotate_left
                        · simp only [Act.put, List.setIfInBounds_toArray, List.set_cons_zero, List.set_cons_succ, i64_w, i32_w]
                          rfl
                        refine pure_ (i := 18) (N := some 35) (v := ?_) (a' := ?_) #[true, true, true, true, true, true, true, true, true, true, true, true, true, true, true, true, true, false, true, false, false, false, false, false, false] rfl rfl (any_of HT_.out (by kernel_rfl)) (fun _ _ _ h => h) (Or.inl ⟨by rfl, ?_⟩) ?_ ?_
                        rotate_left
                        · intro w'
                          go_simp
                          with_reducible rfl
                        rotate_left
                        · simp only [Act.put, List.setIfInBounds_toArray, List.set_cons_zero, List.set_cons_succ, i64_w, i32_w]
                          rfl
                        refine pure_ (i := 19) (N := some 36) (v := ?_) (a' := ?_) #[true, true, true, true, true, true, true, true, true, true, true, true, true, true, true, true, true, false, true, true, false, false, false, false, false] rfl rfl (any_of HT_.out (by kernel_rfl)) (fun _ _ _ h => h) (Or.inl ⟨by rfl, ?_⟩) ?_ ?_
                        rotate_left
                        · intro w'
                          go_simp
                          with_reducible rfl
                        rotate_left
                        · simp only [Act.put, List.setIfInBounds_toArray, List.set_cons_zero, List.set_cons_succ, i64_w, i32_w]
                          rfl
                        refine pure_ (i := 20) (N := some 37) (v := ?_) (a' := ?_) #[true, true, true, true, true, true, true, true, true, true, true, true, true, true, true, true, true, false, true, true, true, false, false, false, false] rfl rfl (any_of HT_.out (by kernel_rfl)) (fun _ _ _ h => h) (Or.inl ⟨by rfl, ?_⟩) ?_ ?_
                        rotate_left
                        · intro w'
                          go_simp
                          with_reducible rfl
                        rotate_left
                        · simp only [Act.put, List.setIfInBounds_toArray, List.set_cons_zero, List.set_cons_succ, i64_w, i32_w]
                          rfl
                        refine pure_ (i := 21) (N := some 38) (v := ?_) (a' := ?_) #[true, true, true, true, true, true, true, true, true, true, true, true, true, true, true, true, true, false, true, true, true, true, false, false, false] rfl rfl (any_of HT_.out (by kernel_rfl)) (fun _ _ _ h => h) (Or.inl ⟨by rfl, ?_⟩) ?_ ?_
                        rotate_left
                        · intro w'
                          go_simp
                          with_reducible rfl
                        rotate_left
                        · simp only [Act.put, List.setIfInBounds_toArray, List.set_cons_zero, List.set_cons_succ, i64_w, i32_w]
                          rfl
                        refine take_ (i := 17) (N := some 34) (v := ?_) (a' := ?_) #[true, true, true, true, true, true, true, true, true, true, true, true, true, true, true, true, true, true, true, true, true, true, false, false, false] rfl rfl (take_ofW HT_.out HW_.out (by kernel_rfl)) (fun _ _ _ h => h) (Or.inl ⟨by rfl, ?_⟩) hHeld ?_ ?_
                        rotate_left
                        · rintro w' ⟨s0, s1, s2, s3, s4, s5, s6, s7, s8, s9, s10, s11, s12, s13, s14⟩
                          go_simp
                          with_reducible rfl
                        rotate_left
                        · simp only [Act.put, List.setIfInBounds_toArray, List.set_cons_zero, List.set_cons_succ, i64_w, i32_w]
                          rfl
                        refine take_ (i := 22) (N := some 39) (v := ?_) (a' := ?_) #[true, true, true, true, true, true, true, true, true, true, true, true, true, true, true, true, true, true, true, true, true, true, true, false, false] rfl rfl (take_ofW HT_.out HW_.out (by kernel_rfl)) (fun _ _ _ h => h) (Or.inl ⟨by rfl, ?_⟩) hHeld ?_ ?_
                        rotate_left
                        · rintro w' ⟨s0, s1, s2, s3, s4, s5, s6, s7, s8, s9, s10, s11, s12, s13, s14⟩
                          go_simp
                          with_reducible rfl
                        rotate_left
                        · simp only [Act.put, List.setIfInBounds_toArray, List.set_cons_zero, List.set_cons_succ, i64_w, i32_w]
                          rfl
                        refine pure_ (i := 23) (N := some 40) (v := ?_) (a' := ?_) #[true, true, true, true, true, true, true, true, true, true, true, true, true, true, true, true, true, true, true, true, true, true, true, true, false] rfl rfl (any_of HT_.out (by kernel_rfl)) (fun _ _ _ h => h) (Or.inl ⟨by rfl, ?_⟩) ?_ ?_
                        rotate_left
                        · intro w'
                          go_simp
                          with_reducible rfl
                        rotate_left
                        · simp only [Act.put, List.setIfInBounds_toArray, List.set_cons_zero, List.set_cons_succ, i64_w, i32_w]
                          rfl
                        refine pure_ (i := 24) (N := some 41) (v := ?_) (a' := ?_) #[true, true, true, true, true, true, true, true, true, true, true, true, true, true, true, true, true, true, true, true, true, true, true, true, true] rfl rfl (any_of HT_.out (by kernel_rfl)) (fun _ _ _ h => h) (Or.inl ⟨by rfl, ?_⟩) ?_ ?_
                        rotate_left
                        · intro w'
                          go_simp
                          with_reducible rfl
                        rotate_left
                        · simp only [Act.put, List.setIfInBounds_toArray, List.set_cons_zero, List.set_cons_succ, i64_w, i32_w]
                          rfl
                        refine done_ (done_of HT_.out (by kernel_rfl)) ?_
                        try go_wp2
                        have n0_ := Aside0.mk (Kd.R_drew HO_3.out)
                        have n1_ := Aside0.mk (below_drew1 HB.out)
                        clear HO_3
                        clear HB
                        have HO_3 := n0_
                        have HB := n1_
                        clear n0_ n1_
                        have p33012 : 0 ≤ (x4_1 : Int) := of_decide_eq_true (by first | (with_reducible assumption) | assumption)
                        have q33012 : x4_1 < (l0.length : Int) := of_decide_eq_true (by first | (with_reducible assumption) | assumption)
                        obtain ⟨ad33012, e33012, hx33012_0, hx33012_1, hx33012_2, hx33012_3, hx33012_4⟩ := at_T44 HR0.out x4_1 p33012 q33012
                        have hw33012_4 := hx33012_4
                        have hw33012_3 := hx33012_3
                        have hw33012_2 := hx33012_2
                        have hw33012_1 := hx33012_1
                        have hw33012_0 := hx33012_0
                        obtain rfl : ad33001 = ad33012 := (by injection e33012)
                        replace hx33012_0 := (HB.out.cell (World.block_lt_of_cell? w _ hx33012_0)).trans hx33012_0
                        replace hx33012_1 := (HB.out.cell (World.block_lt_of_cell? w _ hx33012_1)).trans hx33012_1
                        replace hx33012_2 := (HB.out.cell (World.block_lt_of_cell? w _ hx33012_2)).trans hx33012_2
                        replace hx33012_3 := (HB.out.cell (World.block_lt_of_cell? w _ hx33012_3)).trans hx33012_3
                        replace hx33012_4 := (HB.out.cell (World.block_lt_of_cell? w _ hx33012_4)).trans hx33012_4
                        replace p33012 := eq_true p33012
                        replace q33012 := eq_true q33012
                        have p33013 : 0 ≤ (x4_1 : Int) := of_decide_eq_true (by first | (with_reducible assumption) | assumption)
                        have q33013 : x4_1 < (l0.length : Int) := of_decide_eq_true (by first | (with_reducible assumption) | assumption)
                        obtain ⟨ad33013, e33013, hx33013_0, hx33013_1, hx33013_2, hx33013_3, hx33013_4⟩ := at_T44 HR0.out x4_1 p33013 q33013
                        have hw33013_4 := hx33013_4
                        have hw33013_3 := hx33013_3
                        have hw33013_2 := hx33013_2
                        have hw33013_1 := hx33013_1
                        have hw33013_0 := hx33013_0
                        obtain rfl : ad33001 = ad33013 := (by injection e33013)
                        replace hx33013_0 := (HB.out.cell (World.block_lt_of_cell? w _ hx33013_0)).trans hx33013_0
                        replace hx33013_1 := (HB.out.cell (World.block_lt_of_cell? w _ hx33013_1)).trans hx33013_1
                        replace hx33013_2 := (HB.out.cell (World.block_lt_of_cell? w _ hx33013_2)).trans hx33013_2
                        replace hx33013_3 := (HB.out.cell (World.block_lt_of_cell? w _ hx33013_3)).trans hx33013_3
                        replace hx33013_4 := (HB.out.cell (World.block_lt_of_cell? w _ hx33013_4)).trans hx33013_4
                        replace p33013 := eq_true p33013
                        replace q33013 := eq_true q33013
                        refine start_ (n := 15) (S := fun w' => w'.cell? (ad33001.add ((x4_1).toNat * 5)) = some (.int .i64 ((rd_T44 l0 x4_1).f0)) ∧ w'.cell? ⟨(ad33001.add ((x4_1).toNat * 5)).block, (ad33001.add ((x4_1).toNat * 5)).off + 1, none⟩ = some (.int .i64 ((rd_T44 l0 x4_1).f1)) ∧ w'.cell? ⟨(ad33001.add ((x4_1).toNat * 5)).block, (ad33001.add ((x4_1).toNat * 5)).off + 2, none⟩ = some (.int .i64 ((rd_T44 l0 x4_1).f2)) ∧ w'.cell? ⟨(ad33001.add ((x4_1).toNat * 5)).block, (ad33001.add ((x4_1).toNat * 5)).off + 3, none⟩ = some (.int .i64 ((rd_T44 l0 x4_1).f3)) ∧ w'.cell? ⟨(ad33001.add ((x4_1).toNat * 5)).block, (ad33001.add ((x4_1).toNat * 5)).off + 4, none⟩ = some (.int .i64 ((rd_T44 l0 x4_1).f4)) ∧ w'.cell? (ad33001.add ((x4_1).toNat * 5)) = some (.int .i64 ((rd_T44 l0 x4_1).f0)) ∧ w'.cell? ⟨(ad33001.add ((x4_1).toNat * 5)).block, (ad33001.add ((x4_1).toNat * 5)).off + 1, none⟩ = some (.int .i64 ((rd_T44 l0 x4_1).f1)) ∧ w'.cell? ⟨(ad33001.add ((x4_1).toNat * 5)).block, (ad33001.add ((x4_1).toNat * 5)).off + 2, none⟩ = some (.int .i64 ((rd_T44 l0 x4_1).f2)) ∧ w'.cell? ⟨(ad33001.add ((x4_1).toNat * 5)).block, (ad33001.add ((x4_1).toNat * 5)).off + 3, none⟩ = some (.int .i64 ((rd_T44 l0 x4_1).f3)) ∧ w'.cell? ⟨(ad33001.add ((x4_1).toNat * 5)).block, (ad33001.add ((x4_1).toNat * 5)).off + 4, none⟩ = some (.int .i64 ((rd_T44 l0 x4_1).f4))) (ds := []) #[false, false, false, false, false, false, false, false, false, false, false, false, false, false, false] (by kernel_rfl) rfl rfl ⟨((HB.out.cell (World.block_lt_of_cell? w _ hw33012_0)).trans hw33012_0), ((HB.out.cell (World.block_lt_of_cell? w _ hw33012_1)).trans hw33012_1), ((HB.out.cell (World.block_lt_of_cell? w _ hw33012_2)).trans hw33012_2), ((HB.out.cell (World.block_lt_of_cell? w _ hw33012_3)).trans hw33012_3), ((HB.out.cell (World.block_lt_of_cell? w _ hw33012_4)).trans hw33012_4), ((HB.out.cell (World.block_lt_of_cell? w _ hw33013_0)).trans hw33013_0), ((HB.out.cell (World.block_lt_of_cell? w _ hw33013_1)).trans hw33013_1), ((HB.out.cell (World.block_lt_of_cell? w _ hw33013_2)).trans hw33013_2), ((HB.out.cell (World.block_lt_of_cell? w _ hw33013_3)).trans hw33013_3), ((HB.out.cell (World.block_lt_of_cell? w _ hw33013_4)).trans hw33013_4)⟩ (fun hHeld => ?_); refine with_tabW papermillref34_Stretches.tab8 papermillref34_Stretches.bits8 (fun HT_ HW_ => ?_)
                        generalize w24.drew = w25 at HO_3 HB hx33012_0 hx33012_1 hx33012_2 hx33012_3 hx33012_4 hx33013_0 hx33013_1 hx33013_2 hx33013_3 hx33013_4 hHeld ⊢
                        refine pure_ (i := 0) (N := some 53) (v := ?_) (a' := ?_) #[true, false, false, false, false, false, false, false, false, false, false, false, false, false, false] rfl rfl (any_of HT_.out (by kernel_rfl)) (fun _ _ _ h => h) (Or.inl ⟨by rfl, ?_⟩) ?_ ?_
                        rotate_left
                        · intro w'
                          go_simp
                          with_reducible rfl
                        rotate_left
                        · simp only [Act.put, List.setIfInBounds_toArray, List.set_cons_zero, List.set_cons_succ, i64_w, i32_w]
                          rfl
                        refine pure_ (i := 1) (N := some 54) (v := ?_) (a' := ?_) #[true, true, false, false, false, false, false, false, false, false, false, false, false, false, false] rfl rfl (any_of HT_.out (by kernel_rfl)) (fun _ _ _ h => h) (Or.inl ⟨by rfl, ?_⟩) ?_ ?_
                        rotate_left
                        · intro w'
                          go_simp
                          with_reducible rfl
                        rotate_left
                        · simp only [Act.put, List.setIfInBounds_toArray, List.set_cons_zero, List.set_cons_succ, i64_w, i32_w]
                          rfl
                        refine pure_ (i := 2) (N := some 55) (v := ?_) (a' := ?_) #[true, true, true, false, false, false, false, false, false, false, false, false, false, false, false] rfl rfl (any_of HT_.out (by kernel_rfl)) (fun _ _ _ h => h) (Or.inl ⟨by rfl, ?_⟩) ?_ ?_
                        rotate_left
                        · intro w'
                          go_simp
                          with_reducible rfl
                        rotate_left
                        · simp only [Act.put, List.setIfInBounds_toArray, List.set_cons_zero, List.set_cons_succ, i64_w, i32_w]
                          rfl
                        refine pure_ (i := 3) (N := some 56) (v := ?_) (a' := ?_) #[true, true, true, true, false, false, false, false, false, false, false, false, false, false, false] rfl rfl (any_of HT_.out (by kernel_rfl)) (fun _ _ _ h => h) (Or.inl ⟨by rfl, ?_⟩) ?_ ?_
                        rotate_left
                        · intro w'
                          go_simp
                          with_reducible rfl
                        rotate_left
                        · simp only [Act.put, List.setIfInBounds_toArray, List.set_cons_zero, List.set_cons_succ, i64_w, i32_w]
                          rfl
                        refine pure_ (i := 4) (N := some 57) (v := ?_) (a' := ?_) #[true, true, true, true, true, false, false, false, false, false, false, false, false, false, false] rfl rfl (any_of HT_.out (by kernel_rfl)) (fun _ _ _ h => h) (Or.inl ⟨by rfl, ?_⟩) ?_ ?_
                        rotate_left
                        · intro w'
                          go_simp
                          with_reducible rfl
                        rotate_left
                        · simp only [Act.put, List.setIfInBounds_toArray, List.set_cons_zero, List.set_cons_succ, i64_w, i32_w]
                          rfl
                        refine pure_ (i := 6) (N := some 59) (v := ?_) (a' := ?_) #[true, true, true, true, true, false, true, false, false, false, false, false, false, false, false] rfl rfl (any_of HT_.out (by kernel_rfl)) (fun _ _ _ h => h) (Or.inl ⟨by rfl, ?_⟩) ?_ ?_
                        rotate_left
                        · intro w'
                          go_simp
                          with_reducible rfl
                        rotate_left
                        · simp only [Act.put, List.setIfInBounds_toArray, List.set_cons_zero, List.set_cons_succ, i64_w, i32_w]
                          rfl
                        refine pure_ (i := 7) (N := some 60) (v := ?_) (a' := ?_) #[true, true, true, true, true, false, true, true, false, false, false, false, false, false, false] rfl rfl (any_of HT_.out (by kernel_rfl)) (fun _ _ _ h => h) (Or.inl ⟨by rfl, ?_⟩) ?_ ?_
                        rotate_left
                        · intro w'
                          go_simp
                          with_reducible rfl
                        rotate_left
                        · simp only [Act.put, List.setIfInBounds_toArray, List.set_cons_zero, List.set_cons_succ, i64_w, i32_w]
                          rfl
                        refine pure_ (i := 8) (N := some 61) (v := ?_) (a' := ?_) #[true, true, true, true, true, false, true, true, true, false, false, false, false, false, false] rfl rfl (any_of HT_.out (by kernel_rfl)) (fun _ _ _ h => h) (Or.inl ⟨by rfl, ?_⟩) ?_ ?_
                        rotate_left
                        · intro w'
                          go_simp
                          with_reducible rfl
                        rotate_left
                        · simp only [Act.put, List.setIfInBounds_toArray, List.set_cons_zero, List.set_cons_succ, i64_w, i32_w]
                          rfl
                        refine pure_ (i := 9) (N := some 62) (v := ?_) (a' := ?_) #[true, true, true, true, true, false, true, true, true, true, false, false, false, false, false] rfl rfl (any_of HT_.out (by kernel_rfl)) (fun _ _ _ h => h) (Or.inl ⟨by rfl, ?_⟩) ?_ ?_
                        rotate_left
                        · intro w'
                          go_simp
                          with_reducible rfl
                        rotate_left
                        · simp only [Act.put, List.setIfInBounds_toArray, List.set_cons_zero, List.set_cons_succ, i64_w, i32_w]
                          rfl
                        refine take_ (i := 5) (N := some 58) (v := ?_) (a' := ?_) #[true, true, true, true, true, true, true, true, true, true, false, false, false, false, false] rfl rfl (take_ofW HT_.out HW_.out (by kernel_rfl)) (fun _ _ _ h => h) (Or.inl ⟨by rfl, ?_⟩) hHeld ?_ ?_
                        rotate_left
                        · rintro w' ⟨s0, s1, s2, s3, s4, s5, s6, s7, s8, s9⟩
                          go_simp
                          with_reducible rfl
                        rotate_left
                        · simp only [Act.put, List.setIfInBounds_toArray, List.set_cons_zero, List.set_cons_succ, i64_w, i32_w]
                          rfl
                        refine take_ (i := 10) (N := some 63) (v := ?_) (a' := ?_) #[true, true, true, true, true, true, true, true, true, true, true, false, false, false, false] rfl rfl (take_ofW HT_.out HW_.out (by kernel_rfl)) (fun _ _ _ h => h) (Or.inl ⟨by rfl, ?_⟩) hHeld ?_ ?_
                        rotate_left
                        · rintro w' ⟨s0, s1, s2, s3, s4, s5, s6, s7, s8, s9⟩
                          go_simp
                          with_reducible rfl
                        rotate_left
                        · simp only [Act.put, List.setIfInBounds_toArray, List.set_cons_zero, List.set_cons_succ, i64_w, i32_w]
                          rfl
                        refine pure_ (i := 11) (N := some 64) (v := ?_) (a' := ?_) #[true, true, true, true, true, true, true, true, true, true, true, true, false, false, false] rfl rfl (any_of HT_.out (by kernel_rfl)) (fun _ _ _ h => h) (Or.inl ⟨by rfl, ?_⟩) ?_ ?_
                        rotate_left
                        · intro w'
                          go_simp
                          with_reducible rfl
                        rotate_left
                        · simp only [Act.put, List.setIfInBounds_toArray, List.set_cons_zero, List.set_cons_succ, i64_w, i32_w]
                          rfl
                        refine one_ (i := 12) (N := some 65) #[true, true, true, true, true, true, true, true, true, true, true, true, true, false, false] rfl rfl (one_of HT_.out (by kernel_rfl)) (by decide) (fun K hK => ?_)
                        refine value_ (w1 := ?_) (v := ?_) (by rfl) rfl ?_ ?_
                        rotate_left 2
                        · go_simp
                          constructor
                          · rfl
                          · rfl
                        refine hK.out _ _ ⟨(World.cell?_alloc_lt _ _ _ (World.block_lt_of_cell? _ _ (((HB.out.cell (World.block_lt_of_cell? w _ hw33012_0)).trans hw33012_0)))).trans (((HB.out.cell (World.block_lt_of_cell? w _ hw33012_0)).trans hw33012_0)), (World.cell?_alloc_lt _ _ _ (World.block_lt_of_cell? _ _ (((HB.out.cell (World.block_lt_of_cell? w _ hw33012_1)).trans hw33012_1)))).trans (((HB.out.cell (World.block_lt_of_cell? w _ hw33012_1)).trans hw33012_1)), (World.cell?_alloc_lt _ _ _ (World.block_lt_of_cell? _ _ (((HB.out.cell (World.block_lt_of_cell? w _ hw33012_2)).trans hw33012_2)))).trans (((HB.out.cell (World.block_lt_of_cell? w _ hw33012_2)).trans hw33012_2)), (World.cell?_alloc_lt _ _ _ (World.block_lt_of_cell? _ _ (((HB.out.cell (World.block_lt_of_cell? w _ hw33012_3)).trans hw33012_3)))).trans (((HB.out.cell (World.block_lt_of_cell? w _ hw33012_3)).trans hw33012_3)), (World.cell?_alloc_lt _ _ _ (World.block_lt_of_cell? _ _ (((HB.out.cell (World.block_lt_of_cell? w _ hw33012_4)).trans hw33012_4)))).trans (((HB.out.cell (World.block_lt_of_cell? w _ hw33012_4)).trans hw33012_4)), (World.cell?_alloc_lt _ _ _ (World.block_lt_of_cell? _ _ (((HB.out.cell (World.block_lt_of_cell? w _ hw33013_0)).trans hw33013_0)))).trans (((HB.out.cell (World.block_lt_of_cell? w _ hw33013_0)).trans hw33013_0)), (World.cell?_alloc_lt _ _ _ (World.block_lt_of_cell? _ _ (((HB.out.cell (World.block_lt_of_cell? w _ hw33013_1)).trans hw33013_1)))).trans (((HB.out.cell (World.block_lt_of_cell? w _ hw33013_1)).trans hw33013_1)), (World.cell?_alloc_lt _ _ _ (World.block_lt_of_cell? _ _ (((HB.out.cell (World.block_lt_of_cell? w _ hw33013_2)).trans hw33013_2)))).trans (((HB.out.cell (World.block_lt_of_cell? w _ hw33013_2)).trans hw33013_2)), (World.cell?_alloc_lt _ _ _ (World.block_lt_of_cell? _ _ (((HB.out.cell (World.block_lt_of_cell? w _ hw33013_3)).trans hw33013_3)))).trans (((HB.out.cell (World.block_lt_of_cell? w _ hw33013_3)).trans hw33013_3)), (World.cell?_alloc_lt _ _ _ (World.block_lt_of_cell? _ _ (((HB.out.cell (World.block_lt_of_cell? w _ hw33013_4)).trans hw33013_4)))).trans (((HB.out.cell (World.block_lt_of_cell? w _ hw33013_4)).trans hw33013_4))⟩ (fun hHeld => ?_)
                        clear hK K
                        refine norm_ (a' := ?_) ?_ ?_
                        rotate_left
                        · show Act.put _ (some 65) _ = _
                          simp only [Act.put, List.setIfInBounds_toArray, List.set_cons_zero, List.set_cons_succ, i64_w, i32_w]
                          rfl
                        refine one_ (i := 13) (N := some 66) #[true, true, true, true, true, true, true, true, true, true, true, true, true, true, false] rfl rfl (one_of HT_.out (by kernel_rfl)) (by decide) (fun K hK => ?_)
                        refine Kd.R_append_step k36 (w0 := w) w.heap.size (by rfl) (.tmp 53) (.tmp 65) 25 36 (.agg #[(.int .i64 0), (.int .i64 0)]) 16 rfl Try.underlying25 info36 rfl (by decide) (by omega) u3 x3_1 (⟨(rd_T44 l0 x4_1).f0, (rd_T44 l0 x4_1).f1⟩ : S36) [.int .i64 ((rd_T44 l0 x4_1).f0), .int .i64 ((rd_T44 l0 x4_1).f1)] (fun _ => True) (fun _ => False) rfl rfl ?aP (fun _ hk => hk.elim) ?aF ?aO ?aB ?aS ?aL ?_
                        (case aP => exact k36_mkM _ _ _ (⟨(rd_T44 l0 x4_1).f0, (rd_T44 l0 x4_1).f1⟩ : S36))
                        (case aB => exact (by repeat (first | (with_reducible first | exact HB.out | apply below_alloc | apply pw_below_drewN | apply below_drew1) | exact HB.out)))
                        (case aF => exact (fun _ _ => trivial))
                        (case aO => exact (by (with_reducible repeat (first | apply Kd.R_alloc | apply Kd.R_drewN | apply Kd.R_drew)); exact HO_3.out))
                        (case aS => exact (below_size (by repeat (first | (with_reducible first | exact HB.out | apply below_alloc | apply pw_below_drewN | apply below_drew1) | exact HB.out))))
                        (case aL => have := LMc23.out; omega)
                        intro v33015 w26 ho hb hg hat
                        rw [← Ny33014.out] at ho
                        have n0_ := Aside0.mk (hb)
                        have n1_ := Aside0.mk (ho)
                        clear HB
                        clear HO_3
                        have HB := n0_
                        have HO33016 := n1_
                        clear n0_ n1_
                        clear ho hb hg hat
                        refine hK.out _ _ ⟨((HB.out.cell (World.block_lt_of_cell? w _ hw33012_0)).trans hw33012_0), ((HB.out.cell (World.block_lt_of_cell? w _ hw33012_1)).trans hw33012_1), ((HB.out.cell (World.block_lt_of_cell? w _ hw33012_2)).trans hw33012_2), ((HB.out.cell (World.block_lt_of_cell? w _ hw33012_3)).trans hw33012_3), ((HB.out.cell (World.block_lt_of_cell? w _ hw33012_4)).trans hw33012_4), ((HB.out.cell (World.block_lt_of_cell? w _ hw33013_0)).trans hw33013_0), ((HB.out.cell (World.block_lt_of_cell? w _ hw33013_1)).trans hw33013_1), ((HB.out.cell (World.block_lt_of_cell? w _ hw33013_2)).trans hw33013_2), ((HB.out.cell (World.block_lt_of_cell? w _ hw33013_3)).trans hw33013_3), ((HB.out.cell (World.block_lt_of_cell? w _ hw33013_4)).trans hw33013_4)⟩ (fun hHeld => ?_)
                        clear hK K
                        refine norm_ (a' := ?_) ?_ ?_
                        rotate_left
                        · show Act.put _ (some 66) _ = _
                          simp only [Act.put, List.setIfInBounds_toArray, List.set_cons_zero, List.set_cons_succ, i64_w, i32_w]
                          rfl
                        refine pure_ (i := 14) (N := some 3) (v := ?_) (a' := ?_) #[true, true, true, true, true, true, true, true, true, true, true, true, true, true, true] rfl rfl (any_of HT_.out (by kernel_rfl)) (fun _ _ _ h => h) (Or.inl ⟨by rfl, ?_⟩) ?_ ?_
                        rotate_left
                        · intro w'
                          go_simp
                          with_reducible rfl
                        rotate_left
                        · simp only [Act.put, List.setIfInBounds_toArray, List.set_cons_zero, List.set_cons_succ, i64_w, i32_w]
                          rfl
                        refine done_ (done_of HT_.out (by kernel_rfl)) ?_
                        try go_wp2
                        go_roundg k1
                        case measure => have := HK1.out; omega
                        case rel => exact ⟨(y33014), (wrap64 (x4_1 + 1)), (by first | rfl | (simp; done) | (simp [*]; done)), H', ⟨by have := HK1.out; omega⟩, ⟨by (with_reducible repeat (first | apply Kd.R_alloc | apply Kd.R_drewN | apply Kd.R_drew)); exact HO33016.out⟩, ⟨by repeat (first | (with_reducible first | exact HB.out | apply below_alloc | apply pw_below_drewN | apply below_drew1) | exact HB.out)⟩⟩
                      · rw [if_neg c23] at H
                        exact absurd H (by simp)
                · rw [if_neg c8] at H
                  exact absurd H (by simp)
              · rw [if_neg c7] at H
                exact absurd H (by simp)
            · rw [if_neg c5] at H
              have c5b0 : decide (0 < x4_1) = false := decide_eq_false c5
              clear c5
              by_cases c27 : x3_1.length < 8796093022208
              · rw [if_pos c27] at H
                have LMc27 := Aside0.mk c27
                clear c27
                obtain ⟨y33019, hy33019⟩ : ∃ y_ : List (S36), y_ = (x3_1 ++ [(⟨(rd_T44 l0 x4_1).f0, (rd_T44 l0 x4_1).f1⟩ : S36)]) := ⟨_, rfl⟩
                replace H : (papermillref34_Stretches.l0 k1 l0 y33019 (wrap64 (x4_1 + 1))) = some r := by first | (rw [hy33019]; with_reducible exact H) | (have H2_ := (Option.bind_some _ _).symm.trans H; rw [hy33019]; with_reducible exact H2_) | (have H2_ := (Option.bind_some _ _).symm.trans H; with_reducible exact H2_) | with_reducible exact H | (rw [hy33019]; exact H) | exact H
                have Ny33019 := Aside0.mk hy33019
                clear hy33019
                have H' := Aside0.mk H
                clear H
                have p33001 : 0 ≤ (x4_1 : Int) := of_decide_eq_true (by first | (with_reducible assumption) | assumption)
                have q33001 : x4_1 < (l0.length : Int) := of_decide_eq_true (by first | (with_reducible assumption) | assumption)
                obtain ⟨ad33001, e33001, hx33001_0, hx33001_1, hx33001_2, hx33001_3, hx33001_4⟩ := at_T44 HR0.out x4_1 p33001 q33001
                cases e33001
                replace hx33001_0 := (HB.out.cell (World.block_lt_of_cell? w _ hx33001_0)).trans hx33001_0
                replace hx33001_1 := (HB.out.cell (World.block_lt_of_cell? w _ hx33001_1)).trans hx33001_1
                replace hx33001_2 := (HB.out.cell (World.block_lt_of_cell? w _ hx33001_2)).trans hx33001_2
                replace hx33001_3 := (HB.out.cell (World.block_lt_of_cell? w _ hx33001_3)).trans hx33001_3
                replace hx33001_4 := (HB.out.cell (World.block_lt_of_cell? w _ hx33001_4)).trans hx33001_4
                replace p33001 := eq_true p33001
                replace q33001 := eq_true q33001
                try go_wp2
                have n0_ := Aside0.mk (Kd.R_drew HO_3.out)
                have n1_ := Aside0.mk (below_drew1 HB.out)
                clear HO_3
                clear HB
                have HO_3 := n0_
                have HB := n1_
                clear n0_ n1_
                refine start_ (n := 25) (S := fun w' => True) (ds := []) #[false, false, false, false, false, false, false, false, false, false, false, false, false, false, false, false, false, false, false, false, false, false, false, false, false] (by kernel_rfl) rfl rfl trivial (fun hHeld => ?_); refine with_tabW papermillref34_Stretches.tab6 papermillref34_Stretches.bits6 (fun HT_ HW_ => ?_)
                generalize wr.drew = w28 at HO_3 HB hHeld ⊢
                refine pure_ (i := 0) (N := some 17) (v := ?_) (a' := ?_) #[true, false, false, false, false, false, false, false, false, false, false, false, false, false, false, false, false, false, false, false, false, false, false, false, false] rfl rfl (any_of HT_.out (by kernel_rfl)) (fun _ _ _ h => h) (Or.inl ⟨by rfl, ?_⟩) ?_ ?_
                rotate_left
                · intro w'
                  go_simp
                  with_reducible rfl
                rotate_left
                · simp only [Act.put, List.setIfInBounds_toArray, List.set_cons_zero, List.set_cons_succ, i64_w, i32_w]
                  rfl
                refine pure_ (i := 1) (N := some 18) (v := ?_) (a' := ?_) #[true, true, false, false, false, false, false, false, false, false, false, false, false, false, false, false, false, false, false, false, false, false, false, false, false] rfl rfl (any_of HT_.out (by kernel_rfl)) (fun _ _ _ h => h) (Or.inl ⟨by rfl, ?_⟩) ?_ ?_
                rotate_left
                · intro w'
                  go_simp
                  with_reducible rfl
                rotate_left
                · simp only [Act.put, List.setIfInBounds_toArray, List.set_cons_zero, List.set_cons_succ, i64_w, i32_w]
                  rfl
                refine pure_ (i := 2) (N := some 19) (v := ?_) (a' := ?_) #[true, true, true, false, false, false, false, false, false, false, false, false, false, false, false, false, false, false, false, false, false, false, false, false, false] rfl rfl (any_of HT_.out (by kernel_rfl)) (fun _ _ _ h => h) (Or.inl ⟨by rfl, ?_⟩) ?_ ?_
                rotate_left
                · intro w'
                  go_simp
                  with_reducible rfl
                rotate_left
                · simp only [Act.put, List.setIfInBounds_toArray, List.set_cons_zero, List.set_cons_succ, i64_w, i32_w]
                  rfl
                refine pure_ (i := 3) (N := some 20) (v := undef) (a' := ?_) #[true, true, true, true, false, false, false, false, false, false, false, false, false, false, false, false, false, false, false, false, false, false, false, false, false] rfl rfl (any_of HT_.out (by kernel_rfl)) (fun _ _ _ h => h) (Or.inr ⟨by rfl, rfl⟩) ?_ ?_
                rotate_left
                · simp only [Act.put, List.setIfInBounds_toArray, List.set_cons_zero, List.set_cons_succ, i64_w, i32_w]
                  rfl
                refine pure_ (i := 4) (N := some 21) (v := undef) (a' := ?_) #[true, true, true, true, true, false, false, false, false, false, false, false, false, false, false, false, false, false, false, false, false, false, false, false, false] rfl rfl (any_of HT_.out (by kernel_rfl)) (fun _ _ _ h => h) (Or.inr ⟨by rfl, rfl⟩) ?_ ?_
                rotate_left
                · simp only [Act.put, List.setIfInBounds_toArray, List.set_cons_zero, List.set_cons_succ, i64_w, i32_w]
                  rfl
                refine pure_ (i := 5) (N := some 22) (v := undef) (a' := ?_) #[true, true, true, true, true, true, false, false, false, false, false, false, false, false, false, false, false, false, false, false, false, false, false, false, false] rfl rfl (any_of HT_.out (by kernel_rfl)) (fun _ _ _ h => h) (Or.inr ⟨by rfl, rfl⟩) ?_ ?_
                rotate_left
                · simp only [Act.put, List.setIfInBounds_toArray, List.set_cons_zero, List.set_cons_succ, i64_w, i32_w]
                  rfl
                refine pure_ (i := 6) (N := some 23) (v := undef) (a' := ?_) #[true, true, true, true, true, true, true, false, false, false, false, false, false, false, false, false, false, false, false, false, false, false, false, false, false] rfl rfl (any_of HT_.out (by kernel_rfl)) (fun _ _ _ h => h) (Or.inr ⟨by rfl, rfl⟩) ?_ ?_
                rotate_left
                · simp only [Act.put, List.setIfInBounds_toArray, List.set_cons_zero, List.set_cons_succ, i64_w, i32_w]
                  rfl
                refine pure_ (i := 7) (N := some 24) (v := undef) (a' := ?_) #[true, true, true, true, true, true, true, true, false, false, false, false, false, false, false, false, false, false, false, false, false, false, false, false, false] rfl rfl (any_of HT_.out (by kernel_rfl)) (fun _ _ _ h => h) (Or.inr ⟨by rfl, rfl⟩) ?_ ?_
                rotate_left
                · simp only [Act.put, List.setIfInBounds_toArray, List.set_cons_zero, List.set_cons_succ, i64_w, i32_w]
                  rfl
                refine pure_ (i := 8) (N := some 25) (v := undef) (a' := ?_) #[true, true, true, true, true, true, true, true, true, false, false, false, false, false, false, false, false, false, false, false, false, false, false, false, false] rfl rfl (any_of HT_.out (by kernel_rfl)) (fun _ _ _ h => h) (Or.inr ⟨by rfl, rfl⟩) ?_ ?_
                rotate_left
                · simp only [Act.put, List.setIfInBounds_toArray, List.set_cons_zero, List.set_cons_succ, i64_w, i32_w]
                  rfl
                refine pure_ (i := 9) (N := some 26) (v := undef) (a' := ?_) #[true, true, true, true, true, true, true, true, true, true, false, false, false, false, false, false, false, false, false, false, false, false, false, false, false] rfl rfl (any_of HT_.out (by kernel_rfl)) (fun _ _ _ h => h) (Or.inr ⟨by rfl, rfl⟩) ?_ ?_
                rotate_left
                · simp only [Act.put, List.setIfInBounds_toArray, List.set_cons_zero, List.set_cons_succ, i64_w, i32_w]
                  rfl
                refine pure_ (i := 10) (N := some 27) (v := ?_) (a' := ?_) #[true, true, true, true, true, true, true, true, true, true, true, false, false, false, false, false, false, false, false, false, false, false, false, false, false] rfl rfl (any_of HT_.out (by kernel_rfl)) (fun _ _ _ h => h) (Or.inl ⟨by rfl, ?_⟩) ?_ ?_
                rotate_left
                · intro w'
                  go_simp
                  with_reducible rfl
                rotate_left
                · simp only [Act.put, List.setIfInBounds_toArray, List.set_cons_zero, List.set_cons_succ, i64_w, i32_w]
                  rfl
                refine pure_ (i := 11) (N := some 28) (v := ?_) (a' := ?_) #[true, true, true, true, true, true, true, true, true, true, true, true, false, false, false, false, false, false, false, false, false, false, false, false, false] rfl rfl (any_of HT_.out (by kernel_rfl)) (fun _ _ _ h => h) (Or.inl ⟨by rfl, ?_⟩) ?_ ?_
                rotate_left
                · intro w'
                  go_simp
                  with_reducible rfl
                rotate_left
                · simp only [Act.put, List.setIfInBounds_toArray, List.set_cons_zero, List.set_cons_succ, i64_w, i32_w]
                  rfl
                refine pure_ (i := 12) (N := some 29) (v := undef) (a' := ?_) #[true, true, true, true, true, true, true, true, true, true, true, true, true, false, false, false, false, false, false, false, false, false, false, false, false] rfl rfl (any_of HT_.out (by kernel_rfl)) (fun _ _ _ h => h) (Or.inr ⟨by rfl, rfl⟩) ?_ ?_
                rotate_left
                · simp only [Act.put, List.setIfInBounds_toArray, List.set_cons_zero, List.set_cons_succ, i64_w, i32_w]
                  rfl
                refine pure_ (i := 13) (N := some 30) (v := undef) (a' := ?_) #[true, true, true, true, true, true, true, true, true, true, true, true, true, true, false, false, false, false, false, false, false, false, false, false, false] rfl rfl (any_of HT_.out (by kernel_rfl)) (fun _ _ _ h => h) (Or.inr ⟨by rfl, rfl⟩) ?_ ?_
                rotate_left
                · simp only [Act.put, List.setIfInBounds_toArray, List.set_cons_zero, List.set_cons_succ, i64_w, i32_w]
                  rfl
                refine pure_ (i := 14) (N := some 31) (v := undef) (a' := ?_) #[true, true, true, true, true, true, true, true, true, true, true, true, true, true, true, false, false, false, false, false, false, false, false, false, false] rfl rfl (any_of HT_.out (by kernel_rfl)) (fun _ _ _ h => h) (Or.inr ⟨by rfl, rfl⟩) ?_ ?_
                rotate_left
                · simp only [Act.put, List.setIfInBounds_toArray, List.set_cons_zero, List.set_cons_succ, i64_w, i32_w]
                  rfl
                refine pure_ (i := 15) (N := some 32) (v := undef) (a' := ?_) #[true, true, true, true, true, true, true, true, true, true, true, true, true, true, true, true, false, false, false, false, false, false, false, false, false] rfl rfl (any_of HT_.out (by kernel_rfl)) (fun _ _ _ h => h) (Or.inr ⟨by rfl, rfl⟩) ?_ ?_
                rotate_left
                · simp only [Act.put, List.setIfInBounds_toArray, List.set_cons_zero, List.set_cons_succ, i64_w, i32_w]
                  rfl
                refine pure_ (i := 16) (N := some 33) (v := undef) (a' := ?_) #[true, true, true, true, true, true, true, true, true, true, true, true, true, true, true, true, true, false, false, false, false, false, false, false, false] rfl rfl (any_of HT_.out (by kernel_rfl)) (fun _ _ _ h => h) (Or.inr ⟨by rfl, rfl⟩) ?_ ?_
                rotate_left
                · simp only [Act.put, List.setIfInBounds_toArray, List.set_cons_zero, List.set_cons_succ, i64_w, i32_w]
                  rfl
                refine pure_ (i := 17) (N := some 34) (v := undef) (a' := ?_) #[true, true, true, true, true, true, true, true, true, true, true, true, true, true, true, true, true, true, false, false, false, false, false, false, false] rfl rfl (any_of HT_.out (by kernel_rfl)) (fun _ _ _ h => h) (Or.inr ⟨by rfl, rfl⟩) ?_ ?_
                rotate_left
                · simp only [Act.put, List.setIfInBounds_toArray, List.set_cons_zero, List.set_cons_succ, i64_w, i32_w]
                  rfl
                refine pure_ (i := 18) (N := some 35) (v := undef) (a' := ?_) #[true, true, true, true, true, true, true, true, true, true, true, true, true, true, true, true, true, true, true, false, false, false, false, false, false] rfl rfl (any_of HT_.out (by kernel_rfl)) (fun _ _ _ h => h) (Or.inr ⟨by rfl, rfl⟩) ?_ ?_
                rotate_left
                · simp only [Act.put, List.setIfInBounds_toArray, List.set_cons_zero, List.set_cons_succ, i64_w, i32_w]
                  rfl
                refine pure_ (i := 19) (N := some 36) (v := undef) (a' := ?_) #[true, true, true, true, true, true, true, true, true, true, true, true, true, true, true, true, true, true, true, true, false, false, false, false, false] rfl rfl (any_of HT_.out (by kernel_rfl)) (fun _ _ _ h => h) (Or.inr ⟨by rfl, rfl⟩) ?_ ?_
                rotate_left
                · simp only [Act.put, List.setIfInBounds_toArray, List.set_cons_zero, List.set_cons_succ, i64_w, i32_w]
                  rfl
                refine pure_ (i := 20) (N := some 37) (v := undef) (a' := ?_) #[true, true, true, true, true, true, true, true, true, true, true, true, true, true, true, true, true, true, true, true, true, false, false, false, false] rfl rfl (any_of HT_.out (by kernel_rfl)) (fun _ _ _ h => h) (Or.inr ⟨by rfl, rfl⟩) ?_ ?_
                rotate_left
                · simp only [Act.put, List.setIfInBounds_toArray, List.set_cons_zero, List.set_cons_succ, i64_w, i32_w]
                  rfl
                refine pure_ (i := 21) (N := some 38) (v := undef) (a' := ?_) #[true, true, true, true, true, true, true, true, true, true, true, true, true, true, true, true, true, true, true, true, true, true, false, false, false] rfl rfl (any_of HT_.out (by kernel_rfl)) (fun _ _ _ h => h) (Or.inr ⟨by rfl, rfl⟩) ?_ ?_
                rotate_left
                · simp only [Act.put, List.setIfInBounds_toArray, List.set_cons_zero, List.set_cons_succ, i64_w, i32_w]
                  rfl
                refine pure_ (i := 22) (N := some 39) (v := undef) (a' := ?_) #[true, true, true, true, true, true, true, true, true, true, true, true, true, true, true, true, true, true, true, true, true, true, true, false, false] rfl rfl (any_of HT_.out (by kernel_rfl)) (fun _ _ _ h => h) (Or.inr ⟨by rfl, rfl⟩) ?_ ?_
                rotate_left
                · simp only [Act.put, List.setIfInBounds_toArray, List.set_cons_zero, List.set_cons_succ, i64_w, i32_w]
                  rfl
                refine pure_ (i := 23) (N := some 40) (v := undef) (a' := ?_) #[true, true, true, true, true, true, true, true, true, true, true, true, true, true, true, true, true, true, true, true, true, true, true, true, false] rfl rfl (any_of HT_.out (by kernel_rfl)) (fun _ _ _ h => h) (Or.inr ⟨by rfl, rfl⟩) ?_ ?_
                rotate_left
                · simp only [Act.put, List.setIfInBounds_toArray, List.set_cons_zero, List.set_cons_succ, i64_w, i32_w]
                  rfl
                refine pure_ (i := 24) (N := some 41) (v := ?_) (a' := ?_) #[true, true, true, true, true, true, true, true, true, true, true, true, true, true, true, true, true, true, true, true, true, true, true, true, true] rfl rfl (any_of HT_.out (by kernel_rfl)) (fun _ _ _ h => h) (Or.inl ⟨by rfl, ?_⟩) ?_ ?_
                rotate_left
                · intro w'
                  go_simp
                  with_reducible rfl
                rotate_left
                · simp only [Act.put, List.setIfInBounds_toArray, List.set_cons_zero, List.set_cons_succ, i64_w, i32_w]
                  rfl
                refine done_ (done_of HT_.out (by kernel_rfl)) ?_
                try go_wp2
                have n0_ := Aside0.mk (Kd.R_drew HO_3.out)
                have n1_ := Aside0.mk (below_drew1 HB.out)
                clear HO_3
                clear HB
                have HO_3 := n0_
                have HB := n1_
                clear n0_ n1_
                have p33017 : 0 ≤ (x4_1 : Int) := of_decide_eq_true (by first | (with_reducible assumption) | assumption)
                have q33017 : x4_1 < (l0.length : Int) := of_decide_eq_true (by first | (with_reducible assumption) | assumption)
                obtain ⟨ad33017, e33017, hx33017_0, hx33017_1, hx33017_2, hx33017_3, hx33017_4⟩ := at_T44 HR0.out x4_1 p33017 q33017
                have hw33017_4 := hx33017_4
                have hw33017_3 := hx33017_3
                have hw33017_2 := hx33017_2
                have hw33017_1 := hx33017_1
                have hw33017_0 := hx33017_0
                obtain rfl : ad33001 = ad33017 := (by injection e33017)
                replace hx33017_0 := (HB.out.cell (World.block_lt_of_cell? w _ hx33017_0)).trans hx33017_0
                replace hx33017_1 := (HB.out.cell (World.block_lt_of_cell? w _ hx33017_1)).trans hx33017_1
                replace hx33017_2 := (HB.out.cell (World.block_lt_of_cell? w _ hx33017_2)).trans hx33017_2
                replace hx33017_3 := (HB.out.cell (World.block_lt_of_cell? w _ hx33017_3)).trans hx33017_3
                replace hx33017_4 := (HB.out.cell (World.block_lt_of_cell? w _ hx33017_4)).trans hx33017_4
                replace p33017 := eq_true p33017
                replace q33017 := eq_true q33017
                have p33018 : 0 ≤ (x4_1 : Int) := of_decide_eq_true (by first | (with_reducible assumption) | assumption)
                have q33018 : x4_1 < (l0.length : Int) := of_decide_eq_true (by first | (with_reducible assumption) | assumption)
                obtain ⟨ad33018, e33018, hx33018_0, hx33018_1, hx33018_2, hx33018_3, hx33018_4⟩ := at_T44 HR0.out x4_1 p33018 q33018
                have hw33018_4 := hx33018_4
                have hw33018_3 := hx33018_3
                have hw33018_2 := hx33018_2
                have hw33018_1 := hx33018_1
                have hw33018_0 := hx33018_0
                obtain rfl : ad33001 = ad33018 := (by injection e33018)
                replace hx33018_0 := (HB.out.cell (World.block_lt_of_cell? w _ hx33018_0)).trans hx33018_0
                replace hx33018_1 := (HB.out.cell (World.block_lt_of_cell? w _ hx33018_1)).trans hx33018_1
                replace hx33018_2 := (HB.out.cell (World.block_lt_of_cell? w _ hx33018_2)).trans hx33018_2
                replace hx33018_3 := (HB.out.cell (World.block_lt_of_cell? w _ hx33018_3)).trans hx33018_3
                replace hx33018_4 := (HB.out.cell (World.block_lt_of_cell? w _ hx33018_4)).trans hx33018_4
                replace p33018 := eq_true p33018
                replace q33018 := eq_true q33018
                refine start_ (n := 15) (S := fun w' => w'.cell? (ad33001.add ((x4_1).toNat * 5)) = some (.int .i64 ((rd_T44 l0 x4_1).f0)) ∧ w'.cell? ⟨(ad33001.add ((x4_1).toNat * 5)).block, (ad33001.add ((x4_1).toNat * 5)).off + 1, none⟩ = some (.int .i64 ((rd_T44 l0 x4_1).f1)) ∧ w'.cell? ⟨(ad33001.add ((x4_1).toNat * 5)).block, (ad33001.add ((x4_1).toNat * 5)).off + 2, none⟩ = some (.int .i64 ((rd_T44 l0 x4_1).f2)) ∧ w'.cell? ⟨(ad33001.add ((x4_1).toNat * 5)).block, (ad33001.add ((x4_1).toNat * 5)).off + 3, none⟩ = some (.int .i64 ((rd_T44 l0 x4_1).f3)) ∧ w'.cell? ⟨(ad33001.add ((x4_1).toNat * 5)).block, (ad33001.add ((x4_1).toNat * 5)).off + 4, none⟩ = some (.int .i64 ((rd_T44 l0 x4_1).f4)) ∧ w'.cell? (ad33001.add ((x4_1).toNat * 5)) = some (.int .i64 ((rd_T44 l0 x4_1).f0)) ∧ w'.cell? ⟨(ad33001.add ((x4_1).toNat * 5)).block, (ad33001.add ((x4_1).toNat * 5)).off + 1, none⟩ = some (.int .i64 ((rd_T44 l0 x4_1).f1)) ∧ w'.cell? ⟨(ad33001.add ((x4_1).toNat * 5)).block, (ad33001.add ((x4_1).toNat * 5)).off + 2, none⟩ = some (.int .i64 ((rd_T44 l0 x4_1).f2)) ∧ w'.cell? ⟨(ad33001.add ((x4_1).toNat * 5)).block, (ad33001.add ((x4_1).toNat * 5)).off + 3, none⟩ = some (.int .i64 ((rd_T44 l0 x4_1).f3)) ∧ w'.cell? ⟨(ad33001.add ((x4_1).toNat * 5)).block, (ad33001.add ((x4_1).toNat * 5)).off + 4, none⟩ = some (.int .i64 ((rd_T44 l0 x4_1).f4))) (ds := []) #[false, false, false, false, false, false, false, false, false, false, false, false, false, false, false] (by kernel_rfl) rfl rfl ⟨((HB.out.cell (World.block_lt_of_cell? w _ hw33017_0)).trans hw33017_0), ((HB.out.cell (World.block_lt_of_cell? w _ hw33017_1)).trans hw33017_1), ((HB.out.cell (World.block_lt_of_cell? w _ hw33017_2)).trans hw33017_2), ((HB.out.cell (World.block_lt_of_cell? w _ hw33017_3)).trans hw33017_3), ((HB.out.cell (World.block_lt_of_cell? w _ hw33017_4)).trans hw33017_4), ((HB.out.cell (World.block_lt_of_cell? w _ hw33018_0)).trans hw33018_0), ((HB.out.cell (World.block_lt_of_cell? w _ hw33018_1)).trans hw33018_1), ((HB.out.cell (World.block_lt_of_cell? w _ hw33018_2)).trans hw33018_2), ((HB.out.cell (World.block_lt_of_cell? w _ hw33018_3)).trans hw33018_3), ((HB.out.cell (World.block_lt_of_cell? w _ hw33018_4)).trans hw33018_4)⟩ (fun hHeld => ?_); refine with_tabW papermillref34_Stretches.tab8 papermillref34_Stretches.bits8 (fun HT_ HW_ => ?_)
                generalize w28.drew = w29 at HO_3 HB hx33017_0 hx33017_1 hx33017_2 hx33017_3 hx33017_4 hx33018_0 hx33018_1 hx33018_2 hx33018_3 hx33018_4 hHeld ⊢
                refine pure_ (i := 0) (N := some 53) (v := ?_) (a' := ?_) #[true, false, false, false, false, false, false, false, false, false, false, false, false, false, false] rfl rfl (any_of HT_.out (by kernel_rfl)) (fun _ _ _ h => h) (Or.inl ⟨by rfl, ?_⟩) ?_ ?_
                rotate_left
                · intro w'
                  go_simp
                  with_reducible rfl
                rotate_left
                · simp only [Act.put, List.setIfInBounds_toArray, List.set_cons_zero, List.set_cons_succ, i64_w, i32_w]
                  rfl
                refine pure_ (i := 1) (N := some 54) (v := ?_) (a' := ?_) #[true, true, false, false, false, false, false, false, false, false, false, false, false, false, false] rfl rfl (any_of HT_.out (by kernel_rfl)) (fun _ _ _ h => h) (Or.inl ⟨by rfl, ?_⟩) ?_ ?_
                rotate_left
                · intro w'
                  go_simp
                  with_reducible rfl
                rotate_left
                · simp only [Act.put, List.setIfInBounds_toArray, List.set_cons_zero, List.set_cons_succ, i64_w, i32_w]
                  rfl
                refine pure_ (i := 2) (N := some 55) (v := ?_) (a' := ?_) #[true, true, true, false, false, false, false, false, false, false, false, false, false, false, false] rfl rfl (any_of HT_.out (by kernel_rfl)) (fun _ _ _ h => h) (Or.inl ⟨by rfl, ?_⟩) ?_ ?_
                rotate_left
                · intro w'
                  go_simp
                  with_reducible rfl
                rotate_left
                · simp only [Act.put, List.setIfInBounds_toArray, List.set_cons_zero, List.set_cons_succ, i64_w, i32_w]
                  rfl
                refine pure_ (i := 3) (N := some 56) (v := ?_) (a' := ?_) #[true, true, true, true, false, false, false, false, false, false, false, false, false, false, false] rfl rfl (any_of HT_.out (by kernel_rfl)) (fun _ _ _ h => h) (Or.inl ⟨by rfl, ?_⟩) ?_ ?_
                rotate_left
                · intro w'
                  go_simp
                  with_reducible rfl
                rotate_left
                · simp only [Act.put, List.setIfInBounds_toArray, List.set_cons_zero, List.set_cons_succ, i64_w, i32_w]
                  rfl
                refine pure_ (i := 4) (N := some 57) (v := ?_) (a' := ?_) #[true, true, true, true, true, false, false, false, false, false, false, false, false, false, false] rfl rfl (any_of HT_.out (by kernel_rfl)) (fun _ _ _ h => h) (Or.inl ⟨by rfl, ?_⟩) ?_ ?_
                rotate_left
                · intro w'
                  go_simp
                  with_reducible rfl
                rotate_left
                · simp only [Act.put, List.setIfInBounds_toArray, List.set_cons_zero, List.set_cons_succ, i64_w, i32_w]
                  rfl
                refine pure_ (i := 6) (N := some 59) (v := ?_) (a' := ?_) #[true, true, true, true, true, false, true, false, false, false, false, false, false, false, false] rfl rfl (any_of HT_.out (by kernel_rfl)) (fun _ _ _ h => h) (Or.inl ⟨by rfl, ?_⟩) ?_ ?_
                rotate_left
                · intro w'
                  go_simp
                  with_reducible rfl
                rotate_left
                · simp only [Act.put, List.setIfInBounds_toArray, List.set_cons_zero, List.set_cons_succ, i64_w, i32_w]
                  rfl
                refine pure_ (i := 7) (N := some 60) (v := ?_) (a' := ?_) #[true, true, true, true, true, false, true, true, false, false, false, false, false, false, false] rfl rfl (any_of HT_.out (by kernel_rfl)) (fun _ _ _ h => h) (Or.inl ⟨by rfl, ?_⟩) ?_ ?_
                rotate_left
                · intro w'
                  go_simp
                  with_reducible rfl
                rotate_left
                · simp only [Act.put, List.setIfInBounds_toArray, List.set_cons_zero, List.set_cons_succ, i64_w, i32_w]
                  rfl
                refine pure_ (i := 8) (N := some 61) (v := ?_) (a' := ?_) #[true, true, true, true, true, false, true, true, true, false, false, false, false, false, false] rfl rfl (any_of HT_.out (by kernel_rfl)) (fun _ _ _ h => h) (Or.inl ⟨by rfl, ?_⟩) ?_ ?_
                rotate_left
                · intro w'
                  go_simp
                  with_reducible rfl
                rotate_left
                · simp only [Act.put, List.setIfInBounds_toArray, List.set_cons_zero, List.set_cons_succ, i64_w, i32_w]
                  rfl
                refine pure_ (i := 9) (N := some 62) (v := ?_) (a' := ?_) #[true, true, true, true, true, false, true, true, true, true, false, false, false, false, false] rfl rfl (any_of HT_.out (by kernel_rfl)) (fun _ _ _ h => h) (Or.inl ⟨by rfl, ?_⟩) ?_ ?_
                rotate_left
                · intro w'
                  go_simp
                  with_reducible rfl
                rotate_left
                · simp only [Act.put, List.setIfInBounds_toArray, List.set_cons_zero, List.set_cons_succ, i64_w, i32_w]
                  rfl
                refine take_ (i := 5) (N := some 58) (v := ?_) (a' := ?_) #[true, true, true, true, true, true, true, true, true, true, false, false, false, false, false] rfl rfl (take_ofW HT_.out HW_.out (by kernel_rfl)) (fun _ _ _ h => h) (Or.inl ⟨by rfl, ?_⟩) hHeld ?_ ?_
                rotate_left
                · rintro w' ⟨s0, s1, s2, s3, s4, s5, s6, s7, s8, s9⟩
                  go_simp
                  with_reducible rfl
                rotate_left
                · simp only [Act.put, List.setIfInBounds_toArray, List.set_cons_zero, List.set_cons_succ, i64_w, i32_w]
                  rfl
                refine take_ (i := 10) (N := some 63) (v := ?_) (a' := ?_) #[true, true, true, true, true, true, true, true, true, true, true, false, false, false, false] rfl rfl (take_ofW HT_.out HW_.out (by kernel_rfl)) (fun _ _ _ h => h) (Or.inl ⟨by rfl, ?_⟩) hHeld ?_ ?_
                rotate_left
                · rintro w' ⟨s0, s1, s2, s3, s4, s5, s6, s7, s8, s9⟩
                  go_simp
                  with_reducible rfl
                rotate_left
                · simp only [Act.put, List.setIfInBounds_toArray, List.set_cons_zero, List.set_cons_succ, i64_w, i32_w]
                  rfl
                refine pure_ (i := 11) (N := some 64) (v := ?_) (a' := ?_) #[true, true, true, true, true, true, true, true, true, true, true, true, false, false, false] rfl rfl (any_of HT_.out (by kernel_rfl)) (fun _ _ _ h => h) (Or.inl ⟨by rfl, ?_⟩) ?_ ?_
                rotate_left
                · intro w'
                  go_simp
                  with_reducible rfl
                rotate_left
                · simp only [Act.put, List.setIfInBounds_toArray, List.set_cons_zero, List.set_cons_succ, i64_w, i32_w]
                  rfl
                refine one_ (i := 12) (N := some 65) #[true, true, true, true, true, true, true, true, true, true, true, true, true, false, false] rfl rfl (one_of HT_.out (by kernel_rfl)) (by decide) (fun K hK => ?_)
                refine value_ (w1 := ?_) (v := ?_) (by rfl) rfl ?_ ?_
                rotate_left 2
                · go_simp
                  constructor
                  · rfl
                  · rfl
                refine hK.out _ _ ⟨(World.cell?_alloc_lt _ _ _ (World.block_lt_of_cell? _ _ (((HB.out.cell (World.block_lt_of_cell? w _ hw33017_0)).trans hw33017_0)))).trans (((HB.out.cell (World.block_lt_of_cell? w _ hw33017_0)).trans hw33017_0)), (World.cell?_alloc_lt _ _ _ (World.block_lt_of_cell? _ _ (((HB.out.cell (World.block_lt_of_cell? w _ hw33017_1)).trans hw33017_1)))).trans (((HB.out.cell (World.block_lt_of_cell? w _ hw33017_1)).trans hw33017_1)), (World.cell?_alloc_lt _ _ _ (World.block_lt_of_cell? _ _ (((HB.out.cell (World.block_lt_of_cell? w _ hw33017_2)).trans hw33017_2)))).trans (((HB.out.cell (World.block_lt_of_cell? w _ hw33017_2)).trans hw33017_2)), (World.cell?_alloc_lt _ _ _ (World.block_lt_of_cell? _ _ (((HB.out.cell (World.block_lt_of_cell? w _ hw33017_3)).trans hw33017_3)))).trans (((HB.out.cell (World.block_lt_of_cell? w _ hw33017_3)).trans hw33017_3)), (World.cell?_alloc_lt _ _ _ (World.block_lt_of_cell? _ _ (((HB.out.cell (World.block_lt_of_cell? w _ hw33017_4)).trans hw33017_4)))).trans (((HB.out.cell (World.block_lt_of_cell? w _ hw33017_4)).trans hw33017_4)), (World.cell?_alloc_lt _ _ _ (World.block_lt_of_cell? _ _ (((HB.out.cell (World.block_lt_of_cell? w _ hw33018_0)).trans hw33018_0)))).trans (((HB.out.cell (World.block_lt_of_cell? w _ hw33018_0)).trans hw33018_0)), (World.cell?_alloc_lt _ _ _ (World.block_lt_of_cell? _ _ (((HB.out.cell (World.block_lt_of_cell? w _ hw33018_1)).trans hw33018_1)))).trans (((HB.out.cell (World.block_lt_of_cell? w _ hw33018_1)).trans hw33018_1)), (World.cell?_alloc_lt _ _ _ (World.block_lt_of_cell? _ _ (((HB.out.cell (World.block_lt_of_cell? w _ hw33018_2)).trans hw33018_2)))).trans (((HB.out.cell (World.block_lt_of_cell? w _ hw33018_2)).trans hw33018_2)), (World.cell?_alloc_lt _ _ _ (World.block_lt_of_cell? _ _ (((HB.out.cell (World.block_lt_of_cell? w _ hw33018_3)).trans hw33018_3)))).trans (((HB.out.cell (World.block_lt_of_cell? w _ hw33018_3)).trans hw33018_3)), (World.cell?_alloc_lt _ _ _ (World.block_lt_of_cell? _ _ (((HB.out.cell (World.block_lt_of_cell? w _ hw33018_4)).trans hw33018_4)))).trans (((HB.out.cell (World.block_lt_of_cell? w _ hw33018_4)).trans hw33018_4))⟩ (fun hHeld => ?_)
                clear hK K
                refine norm_ (a' := ?_) ?_ ?_
                rotate_left
                · show Act.put _ (some 65) _ = _
                  simp only [Act.put, List.setIfInBounds_toArray, List.set_cons_zero, List.set_cons_succ, i64_w, i32_w]
                  rfl
                refine one_ (i := 13) (N := some 66) #[true, true, true, true, true, true, true, true, true, true, true, true, true, true, false] rfl rfl (one_of HT_.out (by kernel_rfl)) (by decide) (fun K hK => ?_)
                refine Kd.R_append_step k36 (w0 := w) w.heap.size (by rfl) (.tmp 53) (.tmp 65) 25 36 (.agg #[(.int .i64 0), (.int .i64 0)]) 16 rfl Try.underlying25 info36 rfl (by decide) (by omega) u3 x3_1 (⟨(rd_T44 l0 x4_1).f0, (rd_T44 l0 x4_1).f1⟩ : S36) [.int .i64 ((rd_T44 l0 x4_1).f0), .int .i64 ((rd_T44 l0 x4_1).f1)] (fun _ => True) (fun _ => False) rfl rfl ?aP (fun _ hk => hk.elim) ?aF ?aO ?aB ?aS ?aL ?_
                (case aP => exact k36_mkM _ _ _ (⟨(rd_T44 l0 x4_1).f0, (rd_T44 l0 x4_1).f1⟩ : S36))
                (case aB => exact (by repeat (first | (with_reducible first | exact HB.out | apply below_alloc | apply pw_below_drewN | apply below_drew1) | exact HB.out)))
                (case aF => exact (fun _ _ => trivial))
                (case aO => exact (by (with_reducible repeat (first | apply Kd.R_alloc | apply Kd.R_drewN | apply Kd.R_drew)); exact HO_3.out))
                (case aS => exact (below_size (by repeat (first | (with_reducible first | exact HB.out | apply below_alloc | apply pw_below_drewN | apply below_drew1) | exact HB.out))))
                (case aL => have := LMc27.out; omega)
                intro v33020 w30 ho hb hg hat
                rw [← Ny33019.out] at ho
                have n0_ := Aside0.mk (hb)
                have n1_ := Aside0.mk (ho)
                clear HB
                clear HO_3
                have HB := n0_
                have HO33021 := n1_
                clear n0_ n1_
                clear ho hb hg hat
                refine hK.out _ _ ⟨((HB.out.cell (World.block_lt_of_cell? w _ hw33017_0)).trans hw33017_0), ((HB.out.cell (World.block_lt_of_cell? w _ hw33017_1)).trans hw33017_1), ((HB.out.cell (World.block_lt_of_cell? w _ hw33017_2)).trans hw33017_2), ((HB.out.cell (World.block_lt_of_cell? w _ hw33017_3)).trans hw33017_3), ((HB.out.cell (World.block_lt_of_cell? w _ hw33017_4)).trans hw33017_4), ((HB.out.cell (World.block_lt_of_cell? w _ hw33018_0)).trans hw33018_0), ((HB.out.cell (World.block_lt_of_cell? w _ hw33018_1)).trans hw33018_1), ((HB.out.cell (World.block_lt_of_cell? w _ hw33018_2)).trans hw33018_2), ((HB.out.cell (World.block_lt_of_cell? w _ hw33018_3)).trans hw33018_3), ((HB.out.cell (World.block_lt_of_cell? w _ hw33018_4)).trans hw33018_4)⟩ (fun hHeld => ?_)
                clear hK K
                refine norm_ (a' := ?_) ?_ ?_
                rotate_left
                · show Act.put _ (some 66) _ = _
                  simp only [Act.put, List.setIfInBounds_toArray, List.set_cons_zero, List.set_cons_succ, i64_w, i32_w]
                  rfl
                refine pure_ (i := 14) (N := some 3) (v := ?_) (a' := ?_) #[true, true, true, true, true, true, true, true, true, true, true, true, true, true, true] rfl rfl (any_of HT_.out (by kernel_rfl)) (fun _ _ _ h => h) (Or.inl ⟨by rfl, ?_⟩) ?_ ?_
                rotate_left
                · intro w'
                  go_simp
                  with_reducible rfl
                rotate_left
                · simp only [Act.put, List.setIfInBounds_toArray, List.set_cons_zero, List.set_cons_succ, i64_w, i32_w]
                  rfl
                refine done_ (done_of HT_.out (by kernel_rfl)) ?_
                try go_wp2
                go_roundg k1
                case measure => have := HK1.out; omega
                case rel => exact ⟨(y33019), (wrap64 (x4_1 + 1)), (by first | rfl | (simp; done) | (simp [*]; done)), H', ⟨by have := HK1.out; omega⟩, ⟨by (with_reducible repeat (first | apply Kd.R_alloc | apply Kd.R_drewN | apply Kd.R_drew)); exact HO33021.out⟩, ⟨by repeat (first | (with_reducible first | exact HB.out | apply below_alloc | apply pw_below_drewN | apply below_drew1) | exact HB.out)⟩⟩
              · rw [if_neg c27] at H
                exact absurd H (by simp)
        · rw [if_neg c3] at H
          exact absurd H (by simp)
      · rw [if_neg c2] at H
        have c2b0 : decide (x4_1 < (l0.length : Int)) = false := decide_eq_false c2
        clear c2
        obtain rfl := Option.some.inj H
        go_wp2
        go_ret
        exact ⟨_, by first | rfl | (simp [errW_none, errW_some] <;> rfl) | (simp [*, errW_none, errW_some] <;> rfl), by (with_reducible repeat (first | apply Kd.R_alloc | apply Kd.R_drewN | apply Kd.R_drew)); exact HO_3.out, by repeat (first | (with_reducible first | exact HB.out | apply below_alloc | apply pw_below_drewN | apply below_drew1) | exact HB.out)⟩

end Go.Proofs.Ytfdfpdiemeomiaa.G
