import Derived.Test.YtcnkmdonbpgjiaaQ1
import Derived.Test.YtcnkmdonbpgjiaaQ6
import Derived.Test.YtcnkmdonbpgjiaaQ5
import Derived.Test.YtcnkmdonbpgjiaaQ3
import Derived.Test.YtcnkmdonbpgjiaaQ4
namespace Go.Proofs.Ytcnkmdonbpgjiaa.G
open Go.RowKit Go.Proofs.YtcnkmdonbpgjiaaW.PrintWords Go.Proofs.YtcnkmdonbpgjiaaW.PrintLast Go.Proofs.YtcnkmdonbpgjiaaW.PrintMore
attribute [local go_sem] max2_int min2_int max_two min_two max_three min_three max_four min_four   -- for this text's walks alone
set_option linter.unusedVariables false
set_option linter.unusedSimpArgs false

def papermillref13_Image.l0 : Nat → List (S32) → List (S37) → Int → Option ((List (S37)) × Int)
 | 0, _, _, _ => none
 | k + 1, x0, x5, x6 => if x6 < (x0.length : Int) then (if 0 ≤ x6 then ((papermillref13_image.f ((rd_T32 x0 x6).f0) ((rd_T32 x0 x6).f1) ((rd_T32 x0 x6).f2) (wrap64 (((rd_T32 x0 x6).f1) - 1))).bind fun t31005 => (if x5.length < 8796093022208 then (papermillref13_Image.l0 k x0 (x5 ++ [(⟨mn ((rd_T32 x0 x6).f0) t31005, wrap64 ((mx ((rd_T32 x0 x6).f0) t31005) + 1)⟩ : S37)]) (wrap64 (x6 + 1))) else (none))) else (none)) else ((papermillref04_Norm.f k x5).bind fun bt31009 => (some (bt31009.1, bt31009.2)))
def papermillref13_Image.f (k : Nat) (l0 : List (S32)) : Option ((List (S37)) × Int) := (papermillref13_Check.f k l0).bind fun t31001 => (if t31001 = 0 then (papermillref13_Image.l0 k l0 ([] : List (S37)) 0) else (some (([] : List (S37)), t31001)))
theorem papermillref13_Image.mono_l : ∀ k, (∀ y0 y1 y2, LeO (papermillref13_Image.l0 k y0 y1 y2) (papermillref13_Image.l0 (k + 1) y0 y1 y2))
 | 0 => fun _ _ _ r h => by simp [papermillref13_Image.l0] at h
 | k + 1 => by
  have ih0 := papermillref13_Image.mono_l k
  ·intro y0 y1 y2
   unfold papermillref13_Image.l0
   repeat' first
   | (with_reducible exact ih0 _ _ _)
   | (with_reducible exact papermillref04_Norm.mono _ _)
   | (with_reducible exact papermillref13_Check.mono _ _)
   | (with_reducible exact LeO.refl _)
   | (with_reducible exact LeO.none _)
   | (with_reducible refine LeO.ite ?_ ?_)
   | (with_reducible refine LeO.bind ?_ (fun _ => ?_))
   | exact ih0 _ _ _
   | exact papermillref04_Norm.mono _ _
   | exact papermillref13_Check.mono _ _
   | exact LeO.none _
   | refine LeO.ite ?_ ?_
   | refine LeO.bind ?_ (fun _ => ?_)
theorem papermillref13_Image.mono : ∀ a0 k, LeO (papermillref13_Image.f k a0) (papermillref13_Image.f (k + 1) a0) := by
 intro a0 k
 have ih0 := papermillref13_Image.mono_l k
 unfold papermillref13_Image.f
 repeat' first
   | (with_reducible exact ih0 _ _ _)
   | (with_reducible exact papermillref04_Norm.mono _ _)
   | (with_reducible exact papermillref13_Check.mono _ _)
   | (with_reducible exact LeO.refl _)
   | (with_reducible exact LeO.none _)
   | (with_reducible refine LeO.ite ?_ ?_)
   | (with_reducible refine LeO.bind ?_ (fun _ => ?_))
   | exact ih0 _ _ _
   | exact papermillref04_Norm.mono _ _
   | exact papermillref13_Check.mono _ _
   | exact LeO.none _
   | refine LeO.ite ?_ ?_
   | refine LeO.bind ?_ (fun _ => ?_)
def papermillref13_Image.T8 : Bool × List (List Nat × List Nat) := (true, [([], []), ([], []), ([0, 1], [0, 1]), ([2], [2]), ([3], [3]), ([], []), ([], []), ([5, 6], [5, 6]), ([7], [7]), ([], []), ([], []), ([9, 10], [9, 10]), ([11], [11]), ([12], [12]), ([13], [13]), ([8, 14], [8, 14]), ([4, 15, 0, 1, 2, 3, 4], [4]), ([15, 16, 0, 1, 2, 3, 4, 5, 6, 7, 8, 9, 10, 11, 12, 13, 14, 15, 16], [15])])
def papermillref13_Image.B8 : List Nat := [0, 0, 3, 7, 15, 0, 0, 96, 224, 0, 0, 1536, 3584, 7680, 15872, 32736, 65535, 131071]
theorem papermillref13_Image.tab8 : rtab .any (opsOf Try.f30 8) = papermillref13_Image.T8 := by kernel_rfl
theorem papermillref13_Image.bits8 : waitsOk papermillref13_Image.T8.2 papermillref13_Image.B8 = true := by kernel_rfl
set_option maxHeartbeats 8000000 in
set_option maxRecDepth 100000 in
theorem papermillref13_Image.calls (k : Nat) (A0 : Option Addr) (c0 : Nat) (l0 : List (S32)) (r1 : List (S37)) (r2 : Int) (w : World) (hr0 : Kd.C k32 w A0 l0.length l0) (hc0 : l0.length ≤ c0) (h : papermillref13_Image.f k l0 = some (r1, r2)) :
  Calls Try.prog 30 #[.slice A0 l0.length c0] w fun e w' => ∃ v0_ : Value, e = .returned (.tuple #[v0_, .int .i64 r2]) ∧ Kd.R k37 37 w' w.heap.size (fun _ => True) v0_ r1 ∧ Below w.heap.size w w' := by
 have hu32 := Try.underlying32
 have hu37 := Try.underlying37
 have HR0 := Aside0.mk hr0
 have HC0 := Aside0.mk hc0
 clear hr0 hc0
 have HB := Aside0.mk (Below.refl w.heap.size w)
 have H : ((papermillref13_Check.f k l0).bind fun t31001 => (if t31001 = 0 then (papermillref13_Image.l0 k l0 ([] : List (S37)) 0) else (some (([] : List (S37)), t31001)))) = some (r1, r2) := h
 clear h
 replace H := Option.bind_eq_some_iff.mp H
 obtain ⟨t31001, A20, H⟩ := H
 replace H : (if t31001 = 0 then (papermillref13_Image.l0 k l0 ([] : List (S37)) 0) else (some (([] : List (S37)), t31001))) = some (r1, r2) := H
 have A2 := Aside0.mk A20
 clear A20
 by_cases c3 : t31001 = 0
 ·rw [if_pos c3] at H
  have c3b0 : (t31001 == 0) = true := beq_iff_eq.mpr c3
  have c3b1 : (t31001 != 0) = false := bne_eq_false_iff_eq.mpr c3
  clear c3
  have H' := Aside0.mk H
  clear H
  go_enter Try.func30, Try.ntmps30
  go_wp2_with (first | ((with_reducible refine gate_callee (f := 15) rfl ?_); refine goesL_ (some 10) rfl rfl Try.func15 (by kernel_rfl) rfl #[.slice A0 l0.length c0] rfl (by (try simp only [List.map_toArray, List.map_cons, List.map_nil]); first | done | rfl | (simp only [List.length_drop, List.length_take]; rfl)) ?_; (with_reducible refine (papermillref13_Check.calls k _ _ l0 t31001 _ ?side1 ?side2 A2.out).mono ?_); (case side1 => exact HR0.out); (case side2 => exact HC0.out); rintro e w4 ⟨rfl, hb⟩; refine ⟨_, rfl, ?_⟩; have n0_ := Aside0.mk (below_step (by repeat (first | exact HB.out | apply below_alloc | apply pw_below_drewN | apply below_drew1)) hb); clear HB; have HB := n0_; clear n0_; (try clear hb); (try clear hb2); (try clear hk); (try clear hi)))
  go_loopg [5, 6] k (fun kq v5 v6 w' => ∃ (x5_1 : List (S37)) (x6_1 : Int), v6 = .int .i64 x6_1 ∧ Aside0 (papermillref13_Image.l0 kq l0 x5_1 x6_1 = some (r1, r2)) ∧ Aside0 (kq ≤ k) ∧ Aside0 (Kd.R k37 37 w' w.heap.size (fun _ => True) v5 x5_1) ∧ Aside0 (Below w.heap.size w w'))
  case atStart => exact ⟨(([] : List (S37))), (0), (by first | rfl | (simp; done) | (simp [*]; done)), H', ⟨Nat.le_refl _⟩, ⟨by first | exact Kd.R_nil _ _ _ _ _ | exact Kd.N_nil _ _ _ _ _ | exact Kd.V_nil _ _ _ _ _ | exact Kd.Q_nil _ _ _ _ _ | exact Kd.S_nil _ _ _ _ _⟩, ⟨by repeat (first | exact HB.out | apply below_alloc | apply pw_below_drewN | apply below_drew1)⟩⟩
  case round =>
   clear H'
   try clear c1
   try clear p2
   try clear c3
   try clear c3b0
   try clear c3b1
   obtain ⟨x5_1, x6_1, rfl, HA, HK1, HO_5, HB⟩ := hrel
   cases gk with
   | zero => exact absurd HA.out (by simp [papermillref13_Image.l0])
   | succ k1 =>
    have H := HA.out
    clear HA
    simp only [papermillref13_Image.l0] at H
    by_cases c5 : x6_1 < (l0.length : Int)
    ·rw [if_pos c5] at H
     have c5b0 : decide (x6_1 < (l0.length : Int)) = true := decide_eq_true c5
     clear c5
     by_cases c6 : 0 ≤ x6_1
     ·rw [if_pos c6] at H
      have c6b0 : decide (0 ≤ x6_1) = true := decide_eq_true c6
      clear c6
      replace H := Option.bind_eq_some_iff.mp H
      obtain ⟨t31005, A70, H⟩ := H
      replace H : (if x5_1.length < 8796093022208 then (papermillref13_Image.l0 k1 l0 (x5_1 ++ [(⟨mn ((rd_T32 l0 x6_1).f0) t31005, wrap64 ((mx ((rd_T32 l0 x6_1).f0) t31005) + 1)⟩ : S37)]) (wrap64 (x6_1 + 1))) else (none)) = some (r1, r2) := H
      have A7 := Aside0.mk A70
      clear A70
      obtain ⟨ji8, hji8⟩ : ∃ j_ : Int, (mn ((rd_T32 l0 x6_1).f0) t31005) = j_ := ⟨_, rfl⟩
      replace H : (if x5_1.length < 8796093022208 then (papermillref13_Image.l0 k1 l0 (x5_1 ++ [(⟨ji8, wrap64 ((mx ((rd_T32 l0 x6_1).f0) t31005) + 1)⟩ : S37)]) (wrap64 (x6_1 + 1))) else (none)) = some (r1, r2) := by first | (rw [hji8] at H; exact H) | (simp only [hji8] at H ⊢; exact H)
      (try rw [hji8] at A7)
      have hji8_ : (if t31005 < ((rd_T32 l0 x6_1).f0) then t31005 else ((rd_T32 l0 x6_1).f0)) = ji8 := hji8
      obtain ⟨ji9, hji9⟩ : ∃ j_ : Int, (mx ((rd_T32 l0 x6_1).f0) t31005) = j_ := ⟨_, rfl⟩
      replace H : (if x5_1.length < 8796093022208 then (papermillref13_Image.l0 k1 l0 (x5_1 ++ [(⟨ji8, wrap64 ((ji9) + 1)⟩ : S37)]) (wrap64 (x6_1 + 1))) else (none)) = some (r1, r2) := by first | (rw [hji9] at H; exact H) | (simp only [hji9] at H ⊢; exact H)
      (try rw [hji9] at A7)
      have hji9_ : (if ((rd_T32 l0 x6_1).f0) < t31005 then t31005 else ((rd_T32 l0 x6_1).f0)) = ji9 := hji9
      by_cases c10 : x5_1.length < 8796093022208
      ·rw [if_pos c10] at H
       have LMc10 := Aside0.mk c10
       clear c10
       obtain ⟨y31006, hy31006⟩ : ∃ y_ : List (S37), y_ = (x5_1 ++ [(⟨ji8, wrap64 ((ji9) + 1)⟩ : S37)]) := ⟨_, rfl⟩
       replace H : (papermillref13_Image.l0 k1 l0 y31006 (wrap64 (x6_1 + 1))) = some (r1, r2) := by first | (rw [hy31006]; with_reducible exact H) | (have H2_ := (Option.bind_some _ _).symm.trans H; rw [hy31006]; with_reducible exact H2_) | (have H2_ := (Option.bind_some _ _).symm.trans H; with_reducible exact H2_) | with_reducible exact H | (rw [hy31006]; exact H) | exact H
       have Ny31006 := Aside0.mk hy31006
       clear hy31006
       have H' := Aside0.mk H
       clear H
       try go_wp2
       have n0_ := Aside0.mk (Kd.R_drew HO_5.out)
       have n1_ := Aside0.mk (below_drew1 HB.out)
       clear HO_5
       clear HB
       have HO_5 := n0_
       have HB := n1_
       clear n0_ n1_
       have p31002 : 0 ≤ (x6_1 : Int) := of_decide_eq_true (by assumption)
       have q31002 : x6_1 < (l0.length : Int) := of_decide_eq_true (by assumption)
       obtain ⟨ad31002, e31002, hx31002_0, hx31002_1, hx31002_2⟩ := at_T32 HR0.out x6_1 p31002 q31002
       have hw31002_2 := hx31002_2
       have hw31002_1 := hx31002_1
       have hw31002_0 := hx31002_0
       cases e31002
       replace hx31002_0 := (HB.out.cell (World.block_lt_of_cell? w _ hx31002_0)).trans hx31002_0
       replace hx31002_1 := (HB.out.cell (World.block_lt_of_cell? w _ hx31002_1)).trans hx31002_1
       replace hx31002_2 := (HB.out.cell (World.block_lt_of_cell? w _ hx31002_2)).trans hx31002_2
       replace p31002 := eq_true p31002
       replace q31002 := eq_true q31002
       have p31003 : 0 ≤ (x6_1 : Int) := of_decide_eq_true (by assumption)
       have q31003 : x6_1 < (l0.length : Int) := of_decide_eq_true (by assumption)
       obtain ⟨ad31003, e31003, hx31003_0, hx31003_1, hx31003_2⟩ := at_T32 HR0.out x6_1 p31003 q31003
       have hw31003_2 := hx31003_2
       have hw31003_1 := hx31003_1
       have hw31003_0 := hx31003_0
       obtain rfl : ad31002 = ad31003 := (by injection e31003)
       replace hx31003_0 := (HB.out.cell (World.block_lt_of_cell? w _ hx31003_0)).trans hx31003_0
       replace hx31003_1 := (HB.out.cell (World.block_lt_of_cell? w _ hx31003_1)).trans hx31003_1
       replace hx31003_2 := (HB.out.cell (World.block_lt_of_cell? w _ hx31003_2)).trans hx31003_2
       replace p31003 := eq_true p31003
       replace q31003 := eq_true q31003
       have p31004 : 0 ≤ (x6_1 : Int) := of_decide_eq_true (by assumption)
       have q31004 : x6_1 < (l0.length : Int) := of_decide_eq_true (by assumption)
       obtain ⟨ad31004, e31004, hx31004_0, hx31004_1, hx31004_2⟩ := at_T32 HR0.out x6_1 p31004 q31004
       have hw31004_2 := hx31004_2
       have hw31004_1 := hx31004_1
       have hw31004_0 := hx31004_0
       obtain rfl : ad31002 = ad31004 := (by injection e31004)
       replace hx31004_0 := (HB.out.cell (World.block_lt_of_cell? w _ hx31004_0)).trans hx31004_0
       replace hx31004_1 := (HB.out.cell (World.block_lt_of_cell? w _ hx31004_1)).trans hx31004_1
       replace hx31004_2 := (HB.out.cell (World.block_lt_of_cell? w _ hx31004_2)).trans hx31004_2
       replace p31004 := eq_true p31004
       replace q31004 := eq_true q31004
       refine start_ (n := 18) (S := fun w' => w'.cell? (ad31002.add ((x6_1).toNat * 3)) = some (.int .i64 ((rd_T32 l0 x6_1).f0)) ∧ w'.cell? ⟨(ad31002.add ((x6_1).toNat * 3)).block, (ad31002.add ((x6_1).toNat * 3)).off + 1, none⟩ = some (.int .i64 ((rd_T32 l0 x6_1).f1)) ∧ w'.cell? ⟨(ad31002.add ((x6_1).toNat * 3)).block, (ad31002.add ((x6_1).toNat * 3)).off + 2, none⟩ = some (.bool ((rd_T32 l0 x6_1).f2)) ∧ w'.cell? (ad31002.add ((x6_1).toNat * 3)) = some (.int .i64 ((rd_T32 l0 x6_1).f0)) ∧ w'.cell? ⟨(ad31002.add ((x6_1).toNat * 3)).block, (ad31002.add ((x6_1).toNat * 3)).off + 1, none⟩ = some (.int .i64 ((rd_T32 l0 x6_1).f1)) ∧ w'.cell? ⟨(ad31002.add ((x6_1).toNat * 3)).block, (ad31002.add ((x6_1).toNat * 3)).off + 2, none⟩ = some (.bool ((rd_T32 l0 x6_1).f2)) ∧ w'.cell? (ad31002.add ((x6_1).toNat * 3)) = some (.int .i64 ((rd_T32 l0 x6_1).f0)) ∧ w'.cell? ⟨(ad31002.add ((x6_1).toNat * 3)).block, (ad31002.add ((x6_1).toNat * 3)).off + 1, none⟩ = some (.int .i64 ((rd_T32 l0 x6_1).f1)) ∧ w'.cell? ⟨(ad31002.add ((x6_1).toNat * 3)).block, (ad31002.add ((x6_1).toNat * 3)).off + 2, none⟩ = some (.bool ((rd_T32 l0 x6_1).f2))) (ds := []) #[false, false, false, false, false, false, false, false, false, false, false, false, false, false, false, false, false, false] (by kernel_rfl) rfl rfl ⟨((HB.out.cell (World.block_lt_of_cell? w _ hw31002_0)).trans hw31002_0), ((HB.out.cell (World.block_lt_of_cell? w _ hw31002_1)).trans hw31002_1), ((HB.out.cell (World.block_lt_of_cell? w _ hw31002_2)).trans hw31002_2), ((HB.out.cell (World.block_lt_of_cell? w _ hw31003_0)).trans hw31003_0), ((HB.out.cell (World.block_lt_of_cell? w _ hw31003_1)).trans hw31003_1), ((HB.out.cell (World.block_lt_of_cell? w _ hw31003_2)).trans hw31003_2), ((HB.out.cell (World.block_lt_of_cell? w _ hw31004_0)).trans hw31004_0), ((HB.out.cell (World.block_lt_of_cell? w _ hw31004_1)).trans hw31004_1), ((HB.out.cell (World.block_lt_of_cell? w _ hw31004_2)).trans hw31004_2)⟩ (fun hHeld => ?_); refine with_tabW papermillref13_Image.tab8 papermillref13_Image.bits8 (fun HT_ HW_ => ?_)
       generalize wr.drew = w11 at HO_5 HB hx31002_0 hx31002_1 hx31002_2 hx31003_0 hx31003_1 hx31003_2 hx31004_0 hx31004_1 hx31004_2 hHeld ⊢
       refine pure_ (i := 0) (N := some 20) (v := ?_) (a' := ?_) #[true, false, false, false, false, false, false, false, false, false, false, false, false, false, false, false, false, false] rfl rfl (any_of HT_.out (by kernel_rfl)) (fun _ _ _ h => h) (Or.inl ⟨by rfl, ?_⟩) ?_ ?_
       rotate_left
       ·intro w'
        go_simp
        with_reducible rfl
       rotate_left
       ·simp only [Act.put, List.setIfInBounds_toArray, List.set_cons_zero, List.set_cons_succ, i64_w, i32_w]
        rfl
       refine pure_ (i := 1) (N := some 21) (v := ?_) (a' := ?_) #[true, true, false, false, false, false, false, false, false, false, false, false, false, false, false, false, false, false] rfl rfl (any_of HT_.out (by kernel_rfl)) (fun _ _ _ h => h) (Or.inl ⟨by rfl, ?_⟩) ?_ ?_
       rotate_left
       ·intro w'
        go_simp
        with_reducible rfl
       rotate_left
       ·simp only [Act.put, List.setIfInBounds_toArray, List.set_cons_zero, List.set_cons_succ, i64_w, i32_w]
        rfl
       refine pure_ (i := 2) (N := some 22) (v := ?_) (a' := ?_) #[true, true, true, false, false, false, false, false, false, false, false, false, false, false, false, false, false, false] rfl rfl (any_of HT_.out (by kernel_rfl)) (fun _ _ _ h => h) (Or.inl ⟨by rfl, ?_⟩) ?_ ?_
       rotate_left
       ·intro w'
        go_simp
        with_reducible rfl
       rotate_left
       ·simp only [Act.put, List.setIfInBounds_toArray, List.set_cons_zero, List.set_cons_succ, i64_w, i32_w]
        rfl
       refine pure_ (i := 3) (N := some 23) (v := ?_) (a' := ?_) #[true, true, true, true, false, false, false, false, false, false, false, false, false, false, false, false, false, false] rfl rfl (any_of HT_.out (by kernel_rfl)) (fun _ _ _ h => h) (Or.inl ⟨by rfl, ?_⟩) ?_ ?_
       rotate_left
       ·intro w'
        go_simp
        with_reducible rfl
       rotate_left
       ·simp only [Act.put, List.setIfInBounds_toArray, List.set_cons_zero, List.set_cons_succ, i64_w, i32_w]
        rfl
       refine pure_ (i := 5) (N := some 25) (v := ?_) (a' := ?_) #[true, true, true, true, false, true, false, false, false, false, false, false, false, false, false, false, false, false] rfl rfl (any_of HT_.out (by kernel_rfl)) (fun _ _ _ h => h) (Or.inl ⟨by rfl, ?_⟩) ?_ ?_
       rotate_left
       ·intro w'
        go_simp
        with_reducible rfl
       rotate_left
       ·simp only [Act.put, List.setIfInBounds_toArray, List.set_cons_zero, List.set_cons_succ, i64_w, i32_w]
        rfl
       refine pure_ (i := 6) (N := some 26) (v := ?_) (a' := ?_) #[true, true, true, true, false, true, true, false, false, false, false, false, false, false, false, false, false, false] rfl rfl (any_of HT_.out (by kernel_rfl)) (fun _ _ _ h => h) (Or.inl ⟨by rfl, ?_⟩) ?_ ?_
       rotate_left
       ·intro w'
        go_simp
        with_reducible rfl
       rotate_left
       ·simp only [Act.put, List.setIfInBounds_toArray, List.set_cons_zero, List.set_cons_succ, i64_w, i32_w]
        rfl
       refine pure_ (i := 7) (N := some 27) (v := ?_) (a' := ?_) #[true, true, true, true, false, true, true, true, false, false, false, false, false, false, false, false, false, false] rfl rfl (any_of HT_.out (by kernel_rfl)) (fun _ _ _ h => h) (Or.inl ⟨by rfl, ?_⟩) ?_ ?_
       rotate_left
       ·intro w'
        go_simp
        with_reducible rfl
       rotate_left
       ·simp only [Act.put, List.setIfInBounds_toArray, List.set_cons_zero, List.set_cons_succ, i64_w, i32_w]
        rfl
       refine pure_ (i := 9) (N := some 29) (v := ?_) (a' := ?_) #[true, true, true, true, false, true, true, true, false, true, false, false, false, false, false, false, false, false] rfl rfl (any_of HT_.out (by kernel_rfl)) (fun _ _ _ h => h) (Or.inl ⟨by rfl, ?_⟩) ?_ ?_
       rotate_left
       ·intro w'
        go_simp
        with_reducible rfl
       rotate_left
       ·simp only [Act.put, List.setIfInBounds_toArray, List.set_cons_zero, List.set_cons_succ, i64_w, i32_w]
        rfl
       refine pure_ (i := 10) (N := some 30) (v := ?_) (a' := ?_) #[true, true, true, true, false, true, true, true, false, true, true, false, false, false, false, false, false, false] rfl rfl (any_of HT_.out (by kernel_rfl)) (fun _ _ _ h => h) (Or.inl ⟨by rfl, ?_⟩) ?_ ?_
       rotate_left
       ·intro w'
        go_simp
        with_reducible rfl
       rotate_left
       ·simp only [Act.put, List.setIfInBounds_toArray, List.set_cons_zero, List.set_cons_succ, i64_w, i32_w]
        rfl
       refine pure_ (i := 11) (N := some 31) (v := ?_) (a' := ?_) #[true, true, true, true, false, true, true, true, false, true, true, true, false, false, false, false, false, false] rfl rfl (any_of HT_.out (by kernel_rfl)) (fun _ _ _ h => h) (Or.inl ⟨by rfl, ?_⟩) ?_ ?_
       rotate_left
       ·intro w'
        go_simp
        with_reducible rfl
       rotate_left
       ·simp only [Act.put, List.setIfInBounds_toArray, List.set_cons_zero, List.set_cons_succ, i64_w, i32_w]
        rfl
       refine pure_ (i := 12) (N := some 32) (v := ?_) (a' := ?_) #[true, true, true, true, false, true, true, true, false, true, true, true, true, false, false, false, false, false] rfl rfl (any_of HT_.out (by kernel_rfl)) (fun _ _ _ h => h) (Or.inl ⟨by rfl, ?_⟩) ?_ ?_
       rotate_left
       ·intro w'
        go_simp
        with_reducible rfl
       rotate_left
       ·simp only [Act.put, List.setIfInBounds_toArray, List.set_cons_zero, List.set_cons_succ, i64_w, i32_w]
        rfl
       refine take_ (i := 4) (N := some 24) (v := ?_) (a' := ?_) #[true, true, true, true, true, true, true, true, false, true, true, true, true, false, false, false, false, false] rfl rfl (take_ofW HT_.out HW_.out (by kernel_rfl)) (fun _ _ _ h => h) (Or.inl ⟨by rfl, ?_⟩) hHeld ?_ ?_
       rotate_left
       ·rintro w' ⟨s0, s1, s2, s3, s4, s5, s6, s7, s8⟩
        go_simp
        with_reducible rfl
       rotate_left
       ·simp only [Act.put, List.setIfInBounds_toArray, List.set_cons_zero, List.set_cons_succ, i64_w, i32_w]
        rfl
       refine take_ (i := 8) (N := some 28) (v := ?_) (a' := ?_) #[true, true, true, true, true, true, true, true, true, true, true, true, true, false, false, false, false, false] rfl rfl (take_ofW HT_.out HW_.out (by kernel_rfl)) (fun _ _ _ h => h) (Or.inl ⟨by rfl, ?_⟩) hHeld ?_ ?_
       rotate_left
       ·rintro w' ⟨s0, s1, s2, s3, s4, s5, s6, s7, s8⟩
        go_simp
        with_reducible rfl
       rotate_left
       ·simp only [Act.put, List.setIfInBounds_toArray, List.set_cons_zero, List.set_cons_succ, i64_w, i32_w]
        rfl
       refine take_ (i := 13) (N := some 33) (v := ?_) (a' := ?_) #[true, true, true, true, true, true, true, true, true, true, true, true, true, true, false, false, false, false] rfl rfl (take_ofW HT_.out HW_.out (by kernel_rfl)) (fun _ _ _ h => h) (Or.inl ⟨by rfl, ?_⟩) hHeld ?_ ?_
       rotate_left
       ·rintro w' ⟨s0, s1, s2, s3, s4, s5, s6, s7, s8⟩
        go_simp
        with_reducible rfl
       rotate_left
       ·simp only [Act.put, List.setIfInBounds_toArray, List.set_cons_zero, List.set_cons_succ, i64_w, i32_w]
        rfl
       refine pure_ (i := 14) (N := some 34) (v := ?_) (a' := ?_) #[true, true, true, true, true, true, true, true, true, true, true, true, true, true, true, false, false, false] rfl rfl (any_of HT_.out (by kernel_rfl)) (fun _ _ _ h => h) (Or.inl ⟨by rfl, ?_⟩) ?_ ?_
       rotate_left
       ·intro w'
        go_simp
        with_reducible rfl
       rotate_left
       ·simp only [Act.put, List.setIfInBounds_toArray, List.set_cons_zero, List.set_cons_succ, i64_w, i32_w]
        rfl
       refine one_ (i := 15) (N := some 35) #[true, true, true, true, true, true, true, true, true, true, true, true, true, true, true, true, false, false] rfl rfl (one_of HT_.out (by kernel_rfl)) (by decide) (fun K hK => ?_)
       refine goes_ Try.func53 (by kernel_rfl) rfl #[.agg #[.int .i64 ((rd_T32 l0 x6_1).f0), .int .i64 ((rd_T32 l0 x6_1).f1), .bool ((rd_T32 l0 x6_1).f2)], .int .i64 (wrap64 (((rd_T32 l0 x6_1).f1) - 1))] (by rfl) rfl rfl (by (try simp only [List.map_toArray, List.map_cons, List.map_nil]); first | done | rfl | (simp only [List.length_drop, List.length_take]; rfl)) ?_
       with_reducible refine (papermillref13_image.calls ((rd_T32 l0 x6_1).f0) ((rd_T32 l0 x6_1).f1) ((rd_T32 l0 x6_1).f2) (wrap64 (((rd_T32 l0 x6_1).f1) - 1)) t31005 _ A7.out).mono ?_
       rintro e w12 ⟨rfl, hb⟩
       refine ⟨_, rfl, ?_⟩
       have n0_ := Aside0.mk (Kd.R_below (HO_5.out) hb)
       have n1_ := Aside0.mk (below_step (by repeat (first | exact HB.out | apply below_alloc | apply pw_below_drewN | apply below_drew1)) hb)
       clear HO_5
       clear HB
       have HO_5 := n0_
       have HB := n1_
       clear n0_ n1_
       (try clear hb)
       (try clear hb2)
       (try clear hk)
       (try clear hi)
       refine hK.out _ _ ⟨((HB.out.cell (World.block_lt_of_cell? w _ hw31002_0)).trans hw31002_0), ((HB.out.cell (World.block_lt_of_cell? w _ hw31002_1)).trans hw31002_1), ((HB.out.cell (World.block_lt_of_cell? w _ hw31002_2)).trans hw31002_2), ((HB.out.cell (World.block_lt_of_cell? w _ hw31003_0)).trans hw31003_0), ((HB.out.cell (World.block_lt_of_cell? w _ hw31003_1)).trans hw31003_1), ((HB.out.cell (World.block_lt_of_cell? w _ hw31003_2)).trans hw31003_2), ((HB.out.cell (World.block_lt_of_cell? w _ hw31004_0)).trans hw31004_0), ((HB.out.cell (World.block_lt_of_cell? w _ hw31004_1)).trans hw31004_1), ((HB.out.cell (World.block_lt_of_cell? w _ hw31004_2)).trans hw31004_2)⟩ (fun hHeld => ?_)
       clear hK K
       refine norm_ (a' := ?_) ?_ ?_
       rotate_left
       ·show Act.put _ (some 35) _ = _
        simp only [Act.put, List.setIfInBounds_toArray, List.set_cons_zero, List.set_cons_succ, i64_w, i32_w]
        rfl
       refine pure_ (i := 16) (N := some 7) (v := ?_) (a' := ?_) #[true, true, true, true, true, true, true, true, true, true, true, true, true, true, true, true, true, false] rfl rfl (any_of HT_.out (by kernel_rfl)) (fun _ _ _ h => h) (Or.inl ⟨by rfl, ?_⟩) ?_ ?_
       rotate_left
       ·intro w'
        go_simp
        with_reducible rfl
       rotate_left
       ·simp only [Act.put, List.setIfInBounds_toArray, List.set_cons_zero, List.set_cons_succ, i64_w, i32_w]
        rfl
       refine pure_ (i := 17) (N := some 8) (v := ?_) (a' := ?_) #[true, true, true, true, true, true, true, true, true, true, true, true, true, true, true, true, true, true] rfl rfl (any_of HT_.out (by kernel_rfl)) (fun _ _ _ h => h) (Or.inl ⟨by rfl, ?_⟩) ?_ ?_
       rotate_left
       ·intro w'
        go_simp
        with_reducible rfl
       rotate_left
       ·simp only [Act.put, List.setIfInBounds_toArray, List.set_cons_zero, List.set_cons_succ, i64_w, i32_w]
        rfl
       refine done_ (done_of HT_.out (by kernel_rfl)) ?_
       try go_wp2_with (first | ((with_reducible refine gate_builtin (b := .append) (xs := #[.tmp 36, .tmp 45]) rfl ?_); at_builtin; refine Kd.R_append k37 (w0 := w) w.heap.size rfl (.tmp 36) (.tmp 45) 41 37 (.agg #[(.int .i64 0), (.int .i64 0)]) 16 rfl Try.underlying41 info37 rfl (by decide) (by omega) u5 x5_1 (⟨ji8, wrap64 ((ji9) + 1)⟩ : S37) [.int .i64 ji8, .int .i64 (wrap64 ((ji9) + 1))] (fun _ => True) (fun _ => False) rfl rfl ?aP (fun _ hk => hk.elim) ?aF ?aO ?aB ?aS ?aL ?_; (case aP => exact k37_mkM _ _ _ (⟨ji8, wrap64 ((ji9) + 1)⟩ : S37)); (case aB => exact (by repeat (first | exact HB.out | apply below_alloc | apply pw_below_drewN | apply below_drew1))); (case aF => exact (fun _ _ => trivial)); (case aO => exact (HO_5.out)); (case aS => exact (below_size (by repeat (first | exact HB.out | apply below_alloc | apply pw_below_drewN | apply below_drew1)))); (case aL => have := LMc10.out; omega); intro v31007 w13 ho hb hg hat; rw [← Ny31006.out] at ho; have n0_ := Aside0.mk (hb); have n1_ := Aside0.mk (ho); clear HB; clear HO_5; have HB := n0_; have HO31008 := n1_; clear n0_ n1_; clear ho hb hg hat))
       go_roundg k1
       case measure => have := HK1.out; omega
       case rel => exact ⟨(y31006), (wrap64 (x6_1 + 1)), (by first | rfl | (simp; done) | (simp [*]; done)), H', ⟨by have := HK1.out; omega⟩, ⟨HO31008.out⟩, ⟨by repeat (first | exact HB.out | apply below_alloc | apply pw_below_drewN | apply below_drew1)⟩⟩
      ·rw [if_neg c10] at H
       exact absurd H (by simp)
     ·rw [if_neg c6] at H
      exact absurd H (by simp)
    ·rw [if_neg c5] at H
     have c5b0 : decide (x6_1 < (l0.length : Int)) = false := decide_eq_false c5
     clear c5
     replace H := Option.bind_eq_some_iff.mp H
     obtain ⟨⟨t31009, t31010⟩, A140, H⟩ := H
     replace H : (some (t31009, t31010)) = some (r1, r2) := H
     have A14 := Aside0.mk A140
     clear A140
     simp only [Option.some.injEq, Prod.mk.injEq] at H
     obtain ⟨rfl, rfl⟩ := H
     obtain ⟨Ao15, co15, eo15⟩ := Kd.R_slice HO_5.out
     subst eo15
     go_wp2_with (first | ((with_reducible refine gate_callee (f := 59) rfl ?_); refine goesL_ (some 48) rfl rfl Try.func59 (by kernel_rfl) rfl #[.slice Ao15 x5_1.length co15] rfl (by (try simp only [List.map_toArray, List.map_cons, List.map_nil]); first | done | rfl | (simp only [List.length_drop, List.length_take]; rfl)) ?_; (with_reducible refine (papermillref04_Norm.calls k1 _ _ x5_1 t31009 t31010 _ ?side1 ?side2 A14.out).mono ?_); (case side1 => exact (Kd.R_reads' HO_5.out).2.2); (case side2 => exact (Kd.R_reads' HO_5.out).2.1); rintro e w16 ⟨v31011, rfl, ho0, hb⟩; refine ⟨_, rfl, ?_⟩; have n0_ := Aside0.mk (Kd.R_elder' (HO_5.out) (Kd.R_base ho0) hb); have n1_ := Aside0.mk (Kd.R_lower (Kd.R_new' ho0 (Kd.R_lt (HO_5.out))) (below_size (by repeat (first | exact HB.out | apply below_alloc | apply pw_below_drewN | apply below_drew1)))); have n2_ := Aside0.mk (below_step (by repeat (first | exact HB.out | apply below_alloc | apply pw_below_drewN | apply below_drew1)) hb); clear HO_5; clear HB; have HO_5 := n0_; have HO31012 := n1_; have HB := n2_; clear n0_ n1_ n2_; (try clear hb); (try clear hb2); (try clear hk); (try clear hi); (try clear ho0)))
     go_ret2
     exact ⟨_, by first | rfl | (simp [errW_none, errW_some] <;> rfl) | (simp [*, errW_none, errW_some] <;> rfl), by exact Kd.R_mono HO31012.out (fun _ hk => trivial), by repeat (first | exact HB.out | apply below_alloc | apply pw_below_drewN | apply below_drew1)⟩
 ·rw [if_neg c3] at H
  have c3b0 : (t31001 == 0) = false := beq_eq_false_iff_ne.mpr c3
  have c3b1 : (t31001 != 0) = true := bne_iff_ne.mpr c3
  simp only [Option.some.injEq, Prod.mk.injEq] at H
  obtain ⟨rfl, rfl⟩ := H
  go_enter Try.func30, Try.ntmps30
  go_wp2_with (first | ((with_reducible refine gate_callee (f := 15) rfl ?_); refine goesL_ (some 10) rfl rfl Try.func15 (by kernel_rfl) rfl #[.slice A0 l0.length c0] rfl (by (try simp only [List.map_toArray, List.map_cons, List.map_nil]); first | done | rfl | (simp only [List.length_drop, List.length_take]; rfl)) ?_; (with_reducible refine (papermillref13_Check.calls k _ _ l0 t31001 _ ?side1 ?side2 A2.out).mono ?_); (case side1 => exact HR0.out); (case side2 => exact HC0.out); rintro e w17 ⟨rfl, hb⟩; refine ⟨_, rfl, ?_⟩; have n0_ := Aside0.mk (below_step (by repeat (first | exact HB.out | apply below_alloc | apply pw_below_drewN | apply below_drew1)) hb); clear HB; have HB := n0_; clear n0_; (try clear hb); (try clear hb2); (try clear hk); (try clear hi)))
  go_ret2
  exact ⟨_, by first | rfl | (simp [errW_none, errW_some] <;> rfl) | (simp [*, errW_none, errW_some] <;> rfl), by first | exact Kd.R_nil _ _ _ _ _ | exact Kd.N_nil _ _ _ _ _ | exact Kd.V_nil _ _ _ _ _ | exact Kd.Q_nil _ _ _ _ _ | exact Kd.S_nil _ _ _ _ _, by repeat (first | exact HB.out | apply below_alloc | apply pw_below_drewN | apply below_drew1)⟩

end Go.Proofs.Ytcnkmdonbpgjiaa.G

namespace Go.Proofs.Ytcnkmdonbpgjiaa.G
open Go.RowKit Go.Proofs.YtcnkmdonbpgjiaaW.PrintWords Go.Proofs.YtcnkmdonbpgjiaaW.PrintLast Go.Proofs.YtcnkmdonbpgjiaaW.PrintMore
attribute [local go_sem] max2_int min2_int max_two min_two max_three min_three max_four min_four   -- for this text's walks alone
set_option linter.unusedVariables false
set_option linter.unusedSimpArgs false

def papermillref04_Total.l0 : Nat → List (S37) → Int → Int → Int → Option (Int × Int)
 | 0, _, _, _, _ => none
 | k + 1, x4, x5, x6, x7 => if x7 < (x4.length : Int) then (if 0 ≤ x7 then (papermillref04_Total.l0 k x4 x5 (wrap64 ((wrap64 (x6 + ((rd_T37 x4 x7).f1))) - ((rd_T37 x4 x7).f0))) (wrap64 (x7 + 1))) else (none)) else (some (x6, x5))
def papermillref04_Total.f (k : Nat) (l0 : List (S37)) : Option (Int × Int) := (papermillref04_Norm.f k l0).bind fun bt45001 => (papermillref04_Total.l0 k bt45001.1 bt45001.2 0 0)
theorem papermillref04_Total.mono_l : ∀ k, (∀ y0 y1 y2 y3, LeO (papermillref04_Total.l0 k y0 y1 y2 y3) (papermillref04_Total.l0 (k + 1) y0 y1 y2 y3))
 | 0 => fun _ _ _ _ r h => by simp [papermillref04_Total.l0] at h
 | k + 1 => by
  have ih0 := papermillref04_Total.mono_l k
  ·intro y0 y1 y2 y3
   unfold papermillref04_Total.l0
   repeat' first
   | (with_reducible exact ih0 _ _ _ _)
   | (with_reducible exact papermillref04_Norm.mono _ _)
   | (with_reducible exact LeO.refl _)
   | (with_reducible exact LeO.none _)
   | (with_reducible refine LeO.ite ?_ ?_)
   | (with_reducible refine LeO.bind ?_ (fun _ => ?_))
   | exact ih0 _ _ _ _
   | exact papermillref04_Norm.mono _ _
   | exact LeO.none _
   | refine LeO.ite ?_ ?_
   | refine LeO.bind ?_ (fun _ => ?_)
theorem papermillref04_Total.mono : ∀ a0 k, LeO (papermillref04_Total.f k a0) (papermillref04_Total.f (k + 1) a0) := by
 intro a0 k
 have ih0 := papermillref04_Total.mono_l k
 unfold papermillref04_Total.f
 repeat' first
   | (with_reducible exact ih0 _ _ _ _)
   | (with_reducible exact papermillref04_Norm.mono _ _)
   | (with_reducible exact LeO.refl _)
   | (with_reducible exact LeO.none _)
   | (with_reducible refine LeO.ite ?_ ?_)
   | (with_reducible refine LeO.bind ?_ (fun _ => ?_))
   | exact ih0 _ _ _ _
   | exact papermillref04_Norm.mono _ _
   | exact LeO.none _
   | refine LeO.ite ?_ ?_
   | refine LeO.bind ?_ (fun _ => ?_)
set_option maxHeartbeats 8000000 in
set_option maxRecDepth 100000 in
theorem papermillref04_Total.calls (k : Nat) (A0 : Option Addr) (c0 : Nat) (l0 : List (S37)) (r1 : Int) (r2 : Int) (w : World) (hr0 : Kd.C k37 w A0 l0.length l0) (hc0 : l0.length ≤ c0) (h : papermillref04_Total.f k l0 = some (r1, r2)) :
  Calls Try.prog 44 #[.slice A0 l0.length c0] w fun e w' => e = .returned (.tuple #[.int .i64 r1, .int .i64 r2]) ∧ Below w.heap.size w w' := by
 have HR0 := Aside0.mk hr0
 have HC0 := Aside0.mk hc0
 clear hr0 hc0
 have HB := Aside0.mk (Below.refl w.heap.size w)
 have H : ((papermillref04_Norm.f k l0).bind fun bt45001 => (papermillref04_Total.l0 k bt45001.1 bt45001.2 0 0)) = some (r1, r2) := h
 clear h
 replace H := Option.bind_eq_some_iff.mp H
 obtain ⟨⟨t45001, t45002⟩, A20, H⟩ := H
 replace H : (papermillref04_Total.l0 k t45001 t45002 0 0) = some (r1, r2) := H
 have A2 := Aside0.mk A20
 clear A20
 have H' := Aside0.mk H
 clear H
 go_enter Try.func44, Try.ntmps44
 go_wp2_with (first | (go_at_call 59; (with_reducible refine (papermillref04_Norm.calls k _ _ l0 t45001 t45002 _ ?side1 ?side2 A2.out).mono ?_); (case side1 => exact HR0.out); (case side2 => exact HC0.out); rintro e w3 ⟨v45003, rfl, ho0, hb⟩; have n0_ := Aside0.mk (Kd.R_lower ho0 (below_size (by repeat (first | exact HB.out | apply below_alloc | apply pw_below_drewN | apply below_drew1)))); have n1_ := Aside0.mk (below_step (by repeat (first | exact HB.out | apply below_alloc | apply pw_below_drewN | apply below_drew1)) hb); clear HB; have HO45004 := n0_; have HB := n1_; clear n0_ n1_; (try clear hb); (try clear hb2); (try clear hk); (try clear hi); (try clear ho0)))
 repeat (go_quiet (first | (go_at_call 59; (with_reducible refine (papermillref04_Norm.calls k _ _ l0 t45001 t45002 _ ?side1 ?side2 A2.out).mono ?_); (case side1 => exact HR0.out); (case side2 => exact HC0.out); rintro e w3 ⟨v45003, rfl, ho0, hb⟩; have n0_ := Aside0.mk (Kd.R_lower ho0 (below_size (by repeat (first | exact HB.out | apply below_alloc | apply pw_below_drewN | apply below_drew1)))); have n1_ := Aside0.mk (below_step (by repeat (first | exact HB.out | apply below_alloc | apply pw_below_drewN | apply below_drew1)) hb); clear HB; have HO45004 := n0_; have HB := n1_; clear n0_ n1_; (try clear hb); (try clear hb2); (try clear hk); (try clear hi); (try clear ho0))); try go_wp2_with (first | (go_at_call 59; (with_reducible refine (papermillref04_Norm.calls k _ _ l0 t45001 t45002 _ ?side1 ?side2 A2.out).mono ?_); (case side1 => exact HR0.out); (case side2 => exact HC0.out); rintro e w3 ⟨v45003, rfl, ho0, hb⟩; have n0_ := Aside0.mk (Kd.R_lower ho0 (below_size (by repeat (first | exact HB.out | apply below_alloc | apply pw_below_drewN | apply below_drew1)))); have n1_ := Aside0.mk (below_step (by repeat (first | exact HB.out | apply below_alloc | apply pw_below_drewN | apply below_drew1)) hb); clear HB; have HO45004 := n0_; have HB := n1_; clear n0_ n1_; (try clear hb); (try clear hb2); (try clear hk); (try clear hi); (try clear ho0))))
 go_loopg [6, 7] k (fun kq v6 v7 w' => ∃ (x6_1 : Int) (x7_1 : Int), v6 = .int .i64 x6_1 ∧ v7 = .int .i64 x7_1 ∧ Aside0 (papermillref04_Total.l0 kq t45001 t45002 x6_1 x7_1 = some (r1, r2)) ∧ Aside0 (kq ≤ k) ∧ Aside0 (Kd.R k37 37 w' w.heap.size (fun _ => True) v45003 t45001) ∧ Aside0 (Below w.heap.size w w'))
 case atStart => exact ⟨(0), (0), (by first | rfl | (simp; done) | (simp [*]; done)), (by first | rfl | (simp; done) | (simp [*]; done)), H', ⟨Nat.le_refl _⟩, ⟨HO45004.out⟩, ⟨by repeat (first | exact HB.out | apply below_alloc | apply pw_below_drewN | apply below_drew1)⟩⟩
 case round =>
  clear H'
  try clear p2
  obtain ⟨x6_1, x7_1, rfl, rfl, HA, HK1, HO_4, HB⟩ := hrel
  cases gk with
  | zero => exact absurd HA.out (by simp [papermillref04_Total.l0])
  | succ k1 =>
   have H := HA.out
   clear HA
   simp only [papermillref04_Total.l0] at H
   by_cases c4 : x7_1 < (t45001.length : Int)
   ·rw [if_pos c4] at H
    have c4b0 : decide (x7_1 < (t45001.length : Int)) = true := decide_eq_true c4
    clear c4
    by_cases c5 : 0 ≤ x7_1
    ·rw [if_pos c5] at H
     have c5b0 : decide (0 ≤ x7_1) = true := decide_eq_true c5
     clear c5
     have H' := Aside0.mk H
     clear H
     obtain ⟨Ao6, co6, eo6⟩ := Kd.R_slice HO_4.out
     subst eo6
     have p45005 : 0 ≤ (x7_1 : Int) := of_decide_eq_true (by assumption)
     have q45005 : x7_1 < (t45001.length : Int) := of_decide_eq_true (by assumption)
     obtain ⟨ad45005, e45005, hx45005_0, hx45005_1⟩ := at_T37 (Kd.R_reads' HO_4.out).2.2 x7_1 p45005 q45005
     cases e45005
     replace p45005 := eq_true p45005
     replace q45005 := eq_true q45005
     have p45006 : 0 ≤ (x7_1 : Int) := of_decide_eq_true (by assumption)
     have q45006 : x7_1 < (t45001.length : Int) := of_decide_eq_true (by assumption)
     obtain ⟨ad45006, e45006, hx45006_0, hx45006_1⟩ := at_T37 (Kd.R_reads' HO_4.out).2.2 x7_1 p45006 q45006
     obtain rfl : ad45005 = ad45006 := (by injection e45006)
     replace p45006 := eq_true p45006
     replace q45006 := eq_true q45006
     go_wp2
     repeat (go_quiet (fail); try go_wp2)
     go_roundg k1
     case measure => have := HK1.out; omega
     case rel => exact ⟨(wrap64 ((wrap64 (x6_1 + ((rd_T37 t45001 x7_1).f1))) - ((rd_T37 t45001 x7_1).f0))), (wrap64 (x7_1 + 1)), (by first | rfl | (simp; done) | (simp [*]; done)), (by first | rfl | (simp; done) | (simp [*]; done)), H', ⟨by have := HK1.out; omega⟩, ⟨HO_4.out⟩, ⟨by repeat (first | exact HB.out | apply below_alloc | apply pw_below_drewN | apply below_drew1)⟩⟩
    ·rw [if_neg c5] at H
     exact absurd H (by simp)
   ·rw [if_neg c4] at H
    have c4b0 : decide (x7_1 < (t45001.length : Int)) = false := decide_eq_false c4
    clear c4
    simp only [Option.some.injEq, Prod.mk.injEq] at H
    obtain ⟨rfl, rfl⟩ := H
    obtain ⟨Ao7, co7, eo7⟩ := Kd.R_slice HO_4.out
    subst eo7
    go_wp2
    repeat (go_quiet (fail); try go_wp2)
    go_ret2
    exact ⟨by first | rfl | (simp [errW_none, errW_some] <;> rfl) | (simp [*, errW_none, errW_some] <;> rfl), by repeat (first | exact HB.out | apply below_alloc | apply pw_below_drewN | apply below_drew1)⟩

end Go.Proofs.Ytcnkmdonbpgjiaa.G

namespace Go.Proofs.Ytcnkmdonbpgjiaa.G
open Go.RowKit Go.Proofs.YtcnkmdonbpgjiaaW.PrintWords Go.Proofs.YtcnkmdonbpgjiaaW.PrintLast Go.Proofs.YtcnkmdonbpgjiaaW.PrintMore
attribute [local go_sem] max2_int min2_int max_two min_two max_three min_three max_four min_four   -- for this text's walks alone
set_option linter.unusedVariables false
set_option linter.unusedSimpArgs false

def papermillref13_Single.f (k : Nat) (l0 : List (S32)) : Option (Bool) := (papermillref13_Check.f k l0).bind fun t18001 => (if t18001 = 0 then ((papermillref13_Image.f k l0).bind fun bt18002 => ((papermillref04_Total.f k bt18002.1).bind fun bt18006 => (if bt18006.2 = 0 then ((papermillref13_length.f k l0).bind fun t18008 => (some (bt18006.1 == t18008))) else (some false)))) else (some false))
theorem papermillref13_Single.mono : ∀ a0 k, LeO (papermillref13_Single.f k a0) (papermillref13_Single.f (k + 1) a0) := by
 intro a0 k
 unfold papermillref13_Single.f
 repeat' first
   | (with_reducible exact papermillref04_Total.mono _ _)
   | (with_reducible exact papermillref13_Check.mono _ _)
   | (with_reducible exact papermillref13_Image.mono _ _)
   | (with_reducible exact papermillref13_length.mono _ _)
   | (with_reducible exact LeO.refl _)
   | (with_reducible exact LeO.none _)
   | (with_reducible refine LeO.ite ?_ ?_)
   | (with_reducible refine LeO.bind ?_ (fun _ => ?_))
   | exact papermillref04_Total.mono _ _
   | exact papermillref13_Check.mono _ _
   | exact papermillref13_Image.mono _ _
   | exact papermillref13_length.mono _ _
   | exact LeO.none _
   | refine LeO.ite ?_ ?_
   | refine LeO.bind ?_ (fun _ => ?_)
set_option maxHeartbeats 8000000 in
set_option maxRecDepth 100000 in
theorem papermillref13_Single.calls (k : Nat) (A0 : Option Addr) (c0 : Nat) (l0 : List (S32)) (r : Bool) (w : World) (hr0 : Kd.C k32 w A0 l0.length l0) (hc0 : l0.length ≤ c0) (h : papermillref13_Single.f k l0 = some r) :
  Calls Try.prog 17 #[.slice A0 l0.length c0] w fun e w' => e = .returned (.bool r) ∧ Below w.heap.size w w' := by
 have HR0 := Aside0.mk hr0
 have HC0 := Aside0.mk hc0
 clear hr0 hc0
 have HB := Aside0.mk (Below.refl w.heap.size w)
 have H : ((papermillref13_Check.f k l0).bind fun t18001 => (if t18001 = 0 then ((papermillref13_Image.f k l0).bind fun bt18002 => ((papermillref04_Total.f k bt18002.1).bind fun bt18006 => (if bt18006.2 = 0 then ((papermillref13_length.f k l0).bind fun t18008 => (some (bt18006.1 == t18008))) else (some false)))) else (some false))) = some r := h
 clear h
 replace H := Option.bind_eq_some_iff.mp H
 obtain ⟨t18001, A20, H⟩ := H
 replace H : (if t18001 = 0 then ((papermillref13_Image.f k l0).bind fun bt18002 => ((papermillref04_Total.f k bt18002.1).bind fun bt18006 => (if bt18006.2 = 0 then ((papermillref13_length.f k l0).bind fun t18008 => (some (bt18006.1 == t18008))) else (some false)))) else (some false)) = some r := H
 have A2 := Aside0.mk A20
 clear A20
 by_cases c3 : t18001 = 0
 ·rw [if_pos c3] at H
  have c3b0 : (t18001 == 0) = true := beq_iff_eq.mpr c3
  have c3b1 : (t18001 != 0) = false := bne_eq_false_iff_eq.mpr c3
  clear c3
  replace H := Option.bind_eq_some_iff.mp H
  obtain ⟨⟨t18002, t18003⟩, A40, H⟩ := H
  replace H : ((papermillref04_Total.f k t18002).bind fun bt18006 => (if bt18006.2 = 0 then ((papermillref13_length.f k l0).bind fun t18008 => (some (bt18006.1 == t18008))) else (some false))) = some r := H
  have A4 := Aside0.mk A40
  clear A40
  replace H := Option.bind_eq_some_iff.mp H
  obtain ⟨⟨t18006, t18007⟩, A50, H⟩ := H
  replace H : (if t18007 = 0 then ((papermillref13_length.f k l0).bind fun t18008 => (some (t18006 == t18008))) else (some false)) = some r := H
  have A5 := Aside0.mk A50
  clear A50
  by_cases c6 : t18007 = 0
  ·rw [if_pos c6] at H
   have c6b0 : (t18007 == 0) = true := beq_iff_eq.mpr c6
   have c6b1 : (t18007 != 0) = false := bne_eq_false_iff_eq.mpr c6
   clear c6
   replace H := Option.bind_eq_some_iff.mp H
   obtain ⟨t18008, A70, H⟩ := H
   replace H : (some (t18006 == t18008)) = some r := H
   have A7 := Aside0.mk A70
   clear A70
   obtain rfl := Option.some.inj H
   go_enter Try.func17, Try.ntmps17
   go_wp2_with (first | ((with_reducible refine gate_callee (f := 15) rfl ?_); refine goesL_ (some 8) rfl rfl Try.func15 (by kernel_rfl) rfl #[.slice A0 l0.length c0] rfl (by (try simp only [List.map_toArray, List.map_cons, List.map_nil]); first | done | rfl | (simp only [List.length_drop, List.length_take]; rfl)) ?_; (with_reducible refine (papermillref13_Check.calls k _ _ l0 t18001 _ ?side1 ?side2 A2.out).mono ?_); (case side1 => exact HR0.out); (case side2 => exact HC0.out); rintro e w8 ⟨rfl, hb⟩; refine ⟨_, rfl, ?_⟩; have n0_ := Aside0.mk (below_step (by repeat (first | exact HB.out | apply below_alloc | apply pw_below_drewN | apply below_drew1)) hb); clear HB; have HB := n0_; clear n0_; (try clear hb); (try clear hb2); (try clear hk); (try clear hi)) | ((with_reducible refine gate_callee (f := 30) rfl ?_); refine goesL_ (some 12) rfl rfl Try.func30 (by kernel_rfl) rfl #[.slice A0 l0.length c0] rfl (by (try simp only [List.map_toArray, List.map_cons, List.map_nil]); first | done | rfl | (simp only [List.length_drop, List.length_take]; rfl)) ?_; (with_reducible refine (papermillref13_Image.calls k _ _ l0 t18002 t18003 _ ?side1 ?side2 A4.out).mono ?_); (case side1 => exact (Kd.C_below HR0.out HB.out)); (case side2 => exact HC0.out); rintro e w9 ⟨v18004, rfl, ho0, hb⟩; refine ⟨_, rfl, ?_⟩; have n0_ := Aside0.mk (Kd.R_lower ho0 (below_size (by repeat (first | exact HB.out | apply below_alloc | apply pw_below_drewN | apply below_drew1)))); have n1_ := Aside0.mk (below_step (by repeat (first | exact HB.out | apply below_alloc | apply pw_below_drewN | apply below_drew1)) hb); clear HB; have HO18005 := n0_; have HB := n1_; clear n0_ n1_; (try clear hb); (try clear hb2); (try clear hk); (try clear hi); (try clear ho0); obtain ⟨Ao10, co10, eo10⟩ := Kd.R_slice HO18005.out; subst eo10) | ((with_reducible refine gate_callee (f := 44) rfl ?_); refine goesL_ (some 17) rfl rfl Try.func44 (by kernel_rfl) rfl #[.slice Ao10 t18002.length co10] rfl (by (try simp only [List.map_toArray, List.map_cons, List.map_nil]); first | done | rfl | (simp only [List.length_drop, List.length_take]; rfl)) ?_; (with_reducible refine (papermillref04_Total.calls k _ _ t18002 t18006 t18007 _ ?side1 ?side2 A5.out).mono ?_); (case side1 => exact (Kd.R_reads' HO18005.out).2.2); (case side2 => exact (Kd.R_reads' HO18005.out).2.1); rintro e w11 ⟨rfl, hb⟩; refine ⟨_, rfl, ?_⟩; have n0_ := Aside0.mk (Kd.R_below (HO18005.out) hb); have n1_ := Aside0.mk (below_step (by repeat (first | exact HB.out | apply below_alloc | apply pw_below_drewN | apply below_drew1)) hb); clear HO18005; clear HB; have HO18005 := n0_; have HB := n1_; clear n0_ n1_; (try clear hb); (try clear hb2); (try clear hk); (try clear hi)) | (go_at_call 42; (with_reducible refine (papermillref13_length.calls k _ _ l0 t18008 _ ?side1 ?side2 A7.out).mono ?_); (case side1 => exact (Kd.C_below HR0.out HB.out)); (case side2 => exact HC0.out); rintro e w' ⟨rfl, ⟨nd, rfl⟩⟩))
   go_ret
   exact ⟨by first | rfl | (simp [errW_none, errW_some] <;> rfl) | (simp [*, errW_none, errW_some] <;> rfl), by repeat (first | exact HB.out | apply below_alloc | apply pw_below_drewN | apply below_drew1)⟩
  ·rw [if_neg c6] at H
   have c6b0 : (t18007 == 0) = false := beq_eq_false_iff_ne.mpr c6
   have c6b1 : (t18007 != 0) = true := bne_iff_ne.mpr c6
   obtain rfl := Option.some.inj H
   go_enter Try.func17, Try.ntmps17
   go_wp2_with (first | ((with_reducible refine gate_callee (f := 15) rfl ?_); refine goesL_ (some 8) rfl rfl Try.func15 (by kernel_rfl) rfl #[.slice A0 l0.length c0] rfl (by (try simp only [List.map_toArray, List.map_cons, List.map_nil]); first | done | rfl | (simp only [List.length_drop, List.length_take]; rfl)) ?_; (with_reducible refine (papermillref13_Check.calls k _ _ l0 t18001 _ ?side1 ?side2 A2.out).mono ?_); (case side1 => exact HR0.out); (case side2 => exact HC0.out); rintro e w12 ⟨rfl, hb⟩; refine ⟨_, rfl, ?_⟩; have n0_ := Aside0.mk (below_step (by repeat (first | exact HB.out | apply below_alloc | apply pw_below_drewN | apply below_drew1)) hb); clear HB; have HB := n0_; clear n0_; (try clear hb); (try clear hb2); (try clear hk); (try clear hi)) | ((with_reducible refine gate_callee (f := 30) rfl ?_); refine goesL_ (some 12) rfl rfl Try.func30 (by kernel_rfl) rfl #[.slice A0 l0.length c0] rfl (by (try simp only [List.map_toArray, List.map_cons, List.map_nil]); first | done | rfl | (simp only [List.length_drop, List.length_take]; rfl)) ?_; (with_reducible refine (papermillref13_Image.calls k _ _ l0 t18002 t18003 _ ?side1 ?side2 A4.out).mono ?_); (case side1 => exact (Kd.C_below HR0.out HB.out)); (case side2 => exact HC0.out); rintro e w13 ⟨v18004, rfl, ho0, hb⟩; refine ⟨_, rfl, ?_⟩; have n0_ := Aside0.mk (Kd.R_lower ho0 (below_size (by repeat (first | exact HB.out | apply below_alloc | apply pw_below_drewN | apply below_drew1)))); have n1_ := Aside0.mk (below_step (by repeat (first | exact HB.out | apply below_alloc | apply pw_below_drewN | apply below_drew1)) hb); clear HB; have HO18005 := n0_; have HB := n1_; clear n0_ n1_; (try clear hb); (try clear hb2); (try clear hk); (try clear hi); (try clear ho0); obtain ⟨Ao14, co14, eo14⟩ := Kd.R_slice HO18005.out; subst eo14) | ((with_reducible refine gate_callee (f := 44) rfl ?_); refine goesL_ (some 17) rfl rfl Try.func44 (by kernel_rfl) rfl #[.slice Ao14 t18002.length co14] rfl (by (try simp only [List.map_toArray, List.map_cons, List.map_nil]); first | done | rfl | (simp only [List.length_drop, List.length_take]; rfl)) ?_; (with_reducible refine (papermillref04_Total.calls k _ _ t18002 t18006 t18007 _ ?side1 ?side2 A5.out).mono ?_); (case side1 => exact (Kd.R_reads' HO18005.out).2.2); (case side2 => exact (Kd.R_reads' HO18005.out).2.1); rintro e w15 ⟨rfl, hb⟩; refine ⟨_, rfl, ?_⟩; have n0_ := Aside0.mk (Kd.R_below (HO18005.out) hb); have n1_ := Aside0.mk (below_step (by repeat (first | exact HB.out | apply below_alloc | apply pw_below_drewN | apply below_drew1)) hb); clear HO18005; clear HB; have HO18005 := n0_; have HB := n1_; clear n0_ n1_; (try clear hb); (try clear hb2); (try clear hk); (try clear hi)))
   go_ret
   exact ⟨by first | rfl | (simp [errW_none, errW_some] <;> rfl) | (simp [*, errW_none, errW_some] <;> rfl), by repeat (first | exact HB.out | apply below_alloc | apply pw_below_drewN | apply below_drew1)⟩
 ·rw [if_neg c3] at H
  have c3b0 : (t18001 == 0) = false := beq_eq_false_iff_ne.mpr c3
  have c3b1 : (t18001 != 0) = true := bne_iff_ne.mpr c3
  obtain rfl := Option.some.inj H
  go_enter Try.func17, Try.ntmps17
  go_wp2_with (first | ((with_reducible refine gate_callee (f := 15) rfl ?_); refine goesL_ (some 8) rfl rfl Try.func15 (by kernel_rfl) rfl #[.slice A0 l0.length c0] rfl (by (try simp only [List.map_toArray, List.map_cons, List.map_nil]); first | done | rfl | (simp only [List.length_drop, List.length_take]; rfl)) ?_; (with_reducible refine (papermillref13_Check.calls k _ _ l0 t18001 _ ?side1 ?side2 A2.out).mono ?_); (case side1 => exact HR0.out); (case side2 => exact HC0.out); rintro e w16 ⟨rfl, hb⟩; refine ⟨_, rfl, ?_⟩; have n0_ := Aside0.mk (below_step (by repeat (first | exact HB.out | apply below_alloc | apply pw_below_drewN | apply below_drew1)) hb); clear HB; have HB := n0_; clear n0_; (try clear hb); (try clear hb2); (try clear hk); (try clear hi)))
  go_ret
  exact ⟨by first | rfl | (simp [errW_none, errW_some] <;> rfl) | (simp [*, errW_none, errW_some] <;> rfl), by repeat (first | exact HB.out | apply below_alloc | apply pw_below_drewN | apply below_drew1)⟩

end Go.Proofs.Ytcnkmdonbpgjiaa.G

namespace Go.Proofs.Ytcnkmdonbpgjiaa.G
open Go.RowKit Go.Proofs.YtcnkmdonbpgjiaaW.PrintWords Go.Proofs.YtcnkmdonbpgjiaaW.PrintLast Go.Proofs.YtcnkmdonbpgjiaaW.PrintMore
attribute [local go_sem] max2_int min2_int max_two min_two max_three min_three max_four min_four   -- for this text's walks alone
set_option linter.unusedVariables false
set_option linter.unusedSimpArgs false

def papermilllaw13_IsoChecks.f (k : Nat) (l0 : List (S32)) : Option (Bool) := (papermilllaw13_great.f l0).bind fun t4001 => (if t4001 = true then ((papermilllaw13_awake.f).bind fun t4002 => (some t4002)) else ((iso_Check.f k l0).bind fun t4003 => ((papermillref13_Check.f k l0).bind fun t4004 => (if t4003 = t4004 then ((iso_Single.f k l0).bind fun t4005 => ((papermillref13_Single.f k l0).bind fun t4006 => (if (t4005 == t4006) = true then ((papermilllaw13_awake.f).bind fun t4007 => (some t4007)) else (some false)))) else (some false)))))
theorem papermilllaw13_IsoChecks.mono : ∀ a0 k, LeO (papermilllaw13_IsoChecks.f k a0) (papermilllaw13_IsoChecks.f (k + 1) a0) := by
 intro a0 k
 unfold papermilllaw13_IsoChecks.f
 repeat' first
   | (with_reducible exact iso_Check.mono _ _)
   | (with_reducible exact iso_Single.mono _ _)
   | (with_reducible exact papermillref13_Check.mono _ _)
   | (with_reducible exact papermillref13_Single.mono _ _)
   | (with_reducible exact LeO.refl _)
   | (with_reducible exact LeO.none _)
   | (with_reducible refine LeO.ite ?_ ?_)
   | (with_reducible refine LeO.bind ?_ (fun _ => ?_))
   | exact iso_Check.mono _ _
   | exact iso_Single.mono _ _
   | exact papermillref13_Check.mono _ _
   | exact papermillref13_Single.mono _ _
   | exact LeO.none _
   | refine LeO.ite ?_ ?_
   | refine LeO.bind ?_ (fun _ => ?_)
set_option maxHeartbeats 8000000 in
set_option maxRecDepth 100000 in
theorem papermilllaw13_IsoChecks.calls (k : Nat) (A0 : Option Addr) (c0 : Nat) (l0 : List (S32)) (r : Bool) (w : World) (hr0 : Kd.C k32 w A0 l0.length l0) (hc0 : l0.length ≤ c0) (h : papermilllaw13_IsoChecks.f k l0 = some r) :
  Calls Try.prog 3 #[.slice A0 l0.length c0] w fun e w' => e = .returned (.bool r) ∧ Below w.heap.size w w' := by
 have HR0 := Aside0.mk hr0
 have HC0 := Aside0.mk hc0
 clear hr0 hc0
 have HB := Aside0.mk (Below.refl w.heap.size w)
 have H : ((papermilllaw13_great.f l0).bind fun t4001 => (if t4001 = true then ((papermilllaw13_awake.f).bind fun t4002 => (some t4002)) else ((iso_Check.f k l0).bind fun t4003 => ((papermillref13_Check.f k l0).bind fun t4004 => (if t4003 = t4004 then ((iso_Single.f k l0).bind fun t4005 => ((papermillref13_Single.f k l0).bind fun t4006 => (if (t4005 == t4006) = true then ((papermilllaw13_awake.f).bind fun t4007 => (some t4007)) else (some false)))) else (some false)))))) = some r := h
 clear h
 replace H := Option.bind_eq_some_iff.mp H
 obtain ⟨t4001, A20, H⟩ := H
 replace H : (if t4001 = true then ((papermilllaw13_awake.f).bind fun t4002 => (some t4002)) else ((iso_Check.f k l0).bind fun t4003 => ((papermillref13_Check.f k l0).bind fun t4004 => (if t4003 = t4004 then ((iso_Single.f k l0).bind fun t4005 => ((papermillref13_Single.f k l0).bind fun t4006 => (if (t4005 == t4006) = true then ((papermilllaw13_awake.f).bind fun t4007 => (some t4007)) else (some false)))) else (some false))))) = some r := H
 have A2 := Aside0.mk A20
 clear A20
 by_cases c3 : t4001 = true
 ·subst c3
  have H1 : ((papermilllaw13_awake.f).bind fun t4002 => (some t4002)) = some r := by rw [if_pos rfl] at H; exact H
  clear H
  have H := H1
  clear H1
  replace H := Option.bind_eq_some_iff.mp H
  obtain ⟨t4002, A40, H⟩ := H
  replace H : (some t4002) = some r := H
  have A4 := Aside0.mk A40
  clear A40
  obtain rfl := Option.some.inj H
  go_enter Try.func3, Try.ntmps3
  go_wp2_with (first | ((with_reducible refine gate_callee (f := 12) rfl ?_); refine goesL_ (some 4) rfl rfl Try.func12 (by kernel_rfl) rfl #[.slice A0 l0.length c0] rfl (by (try simp only [List.map_toArray, List.map_cons, List.map_nil]); first | done | rfl | (simp only [List.length_drop, List.length_take]; rfl)) ?_; (with_reducible refine (papermilllaw13_great.calls _ _ l0 true _ ?side1 ?side2 A2.out).mono ?_); (case side1 => exact HR0.out); (case side2 => exact HC0.out); rintro e w' ⟨rfl, ⟨nd, rfl⟩⟩; refine ⟨_, rfl, ?_⟩) | ((with_reducible refine gate_callee (f := 13) rfl ?_); refine goesL_ (some 5) rfl rfl Try.func13 (by kernel_rfl) rfl #[] rfl (by (try simp only [List.map_toArray, List.map_cons, List.map_nil]); first | done | rfl | (simp only [List.length_drop, List.length_take]; rfl)) ?_; (with_reducible refine (papermilllaw13_awake.calls  t4002 _ A4.out).mono ?_); rintro e w5 ⟨rfl, hb⟩; refine ⟨_, rfl, ?_⟩; have n0_ := Aside0.mk (below_step (by repeat (first | exact HB.out | apply below_alloc | apply pw_below_drewN | apply below_drew1)) hb); clear HB; have HB := n0_; clear n0_; (try clear hb); (try clear hb2); (try clear hk); (try clear hi)))
  go_ret
  exact ⟨by first | rfl | (simp [errW_none, errW_some] <;> rfl) | (simp [*, errW_none, errW_some] <;> rfl), by repeat (first | exact HB.out | apply below_alloc | apply pw_below_drewN | apply below_drew1)⟩
 ·replace c3 := Bool.eq_false_iff.mpr c3
  subst c3
  have H1 : ((iso_Check.f k l0).bind fun t4003 => ((papermillref13_Check.f k l0).bind fun t4004 => (if t4003 = t4004 then ((iso_Single.f k l0).bind fun t4005 => ((papermillref13_Single.f k l0).bind fun t4006 => (if (t4005 == t4006) = true then ((papermilllaw13_awake.f).bind fun t4007 => (some t4007)) else (some false)))) else (some false)))) = some r := by rw [if_neg (show ¬ (false = true) by decide)] at H; first | exact H | simpa using H
  clear H
  have H := H1
  clear H1
  replace H := Option.bind_eq_some_iff.mp H
  obtain ⟨t4003, A60, H⟩ := H
  replace H : ((papermillref13_Check.f k l0).bind fun t4004 => (if t4003 = t4004 then ((iso_Single.f k l0).bind fun t4005 => ((papermillref13_Single.f k l0).bind fun t4006 => (if (t4005 == t4006) = true then ((papermilllaw13_awake.f).bind fun t4007 => (some t4007)) else (some false)))) else (some false))) = some r := H
  have A6 := Aside0.mk A60
  clear A60
  replace H := Option.bind_eq_some_iff.mp H
  obtain ⟨t4004, A70, H⟩ := H
  replace H : (if t4003 = t4004 then ((iso_Single.f k l0).bind fun t4005 => ((papermillref13_Single.f k l0).bind fun t4006 => (if (t4005 == t4006) = true then ((papermilllaw13_awake.f).bind fun t4007 => (some t4007)) else (some false)))) else (some false)) = some r := H
  have A7 := Aside0.mk A70
  clear A70
  by_cases c8 : t4003 = t4004
  ·rw [if_pos c8] at H
   have c8b0 : (t4003 == t4004) = true := beq_iff_eq.mpr c8
   have c8b1 : (t4003 != t4004) = false := bne_eq_false_iff_eq.mpr c8
   clear c8
   replace H := Option.bind_eq_some_iff.mp H
   obtain ⟨t4005, A90, H⟩ := H
   replace H : ((papermillref13_Single.f k l0).bind fun t4006 => (if (t4005 == t4006) = true then ((papermilllaw13_awake.f).bind fun t4007 => (some t4007)) else (some false))) = some r := H
   have A9 := Aside0.mk A90
   clear A90
   replace H := Option.bind_eq_some_iff.mp H
   obtain ⟨t4006, A100, H⟩ := H
   replace H : (if (t4005 == t4006) = true then ((papermilllaw13_awake.f).bind fun t4007 => (some t4007)) else (some false)) = some r := H
   have A10 := Aside0.mk A100
   clear A100
   by_cases c11 : (t4005 == t4006) = true
   ·rw [if_pos c11] at H
    have c11b0 : (t4005 == t4006) = true := c11
    (try (have c11b1 : decide (t4005 = t4006) = true := by simpa using c11))
    (try (have c11b2 : (t4005 == t4006) = true := by simpa using c11))
    clear c11
    replace H := Option.bind_eq_some_iff.mp H
    obtain ⟨t4007, A120, H⟩ := H
    replace H : (some t4007) = some r := H
    have A12 := Aside0.mk A120
    clear A120
    obtain rfl := Option.some.inj H
    go_enter Try.func3, Try.ntmps3
    go_wp2_with (first | ((with_reducible refine gate_callee (f := 12) rfl ?_); refine goesL_ (some 4) rfl rfl Try.func12 (by kernel_rfl) rfl #[.slice A0 l0.length c0] rfl (by (try simp only [List.map_toArray, List.map_cons, List.map_nil]); first | done | rfl | (simp only [List.length_drop, List.length_take]; rfl)) ?_; (with_reducible refine (papermilllaw13_great.calls _ _ l0 false _ ?side1 ?side2 A2.out).mono ?_); (case side1 => exact HR0.out); (case side2 => exact HC0.out); rintro e w' ⟨rfl, ⟨nd, rfl⟩⟩; refine ⟨_, rfl, ?_⟩) | ((with_reducible refine gate_callee (f := 14) rfl ?_); refine goesL_ (some 7) rfl rfl Try.func14 (by kernel_rfl) rfl #[.slice A0 l0.length c0] rfl (by (try simp only [List.map_toArray, List.map_cons, List.map_nil]); first | done | rfl | (simp only [List.length_drop, List.length_take]; rfl)) ?_; (with_reducible refine (iso_Check.calls k _ _ l0 t4003 _ ?side1 ?side2 A6.out).mono ?_); (case side1 => exact HR0.out); (case side2 => exact HC0.out); rintro e w13 ⟨rfl, hb⟩; refine ⟨_, rfl, ?_⟩; have n0_ := Aside0.mk (below_step (by repeat (first | exact HB.out | apply below_alloc | apply pw_below_drewN | apply below_drew1)) hb); clear HB; have HB := n0_; clear n0_; (try clear hb); (try clear hb2); (try clear hk); (try clear hi)) | ((with_reducible refine gate_callee (f := 15) rfl ?_); refine goesL_ (some 9) rfl rfl Try.func15 (by kernel_rfl) rfl #[.slice A0 l0.length c0] rfl (by (try simp only [List.map_toArray, List.map_cons, List.map_nil]); first | done | rfl | (simp only [List.length_drop, List.length_take]; rfl)) ?_; (with_reducible refine (papermillref13_Check.calls k _ _ l0 t4004 _ ?side1 ?side2 A7.out).mono ?_); (case side1 => exact (Kd.C_below HR0.out HB.out)); (case side2 => exact HC0.out); rintro e w14 ⟨rfl, hb⟩; refine ⟨_, rfl, ?_⟩; have n0_ := Aside0.mk (below_step (by repeat (first | exact HB.out | apply below_alloc | apply pw_below_drewN | apply below_drew1)) hb); clear HB; have HB := n0_; clear n0_; (try clear hb); (try clear hb2); (try clear hk); (try clear hi)) | (go_at_call 16; (with_reducible refine (iso_Single.calls k _ _ l0 t4005 _ ?side1 ?side2 A9.out).mono ?_); (case side1 => exact (Kd.C_below HR0.out HB.out)); (case side2 => exact HC0.out); rintro e w15 ⟨rfl, hb⟩; have n0_ := Aside0.mk (below_step (by repeat (first | exact HB.out | apply below_alloc | apply pw_below_drewN | apply below_drew1)) hb); clear HB; have HB := n0_; clear n0_; (try clear hb); (try clear hb2); (try clear hk); (try clear hi)) | (go_at_call 17; (with_reducible refine (papermillref13_Single.calls k _ _ l0 t4006 _ ?side1 ?side2 A10.out).mono ?_); (case side1 => exact (Kd.C_below HR0.out HB.out)); (case side2 => exact HC0.out); rintro e w16 ⟨rfl, hb⟩; have n0_ := Aside0.mk (below_step (by repeat (first | exact HB.out | apply below_alloc | apply pw_below_drewN | apply below_drew1)) hb); clear HB; have HB := n0_; clear n0_; (try clear hb); (try clear hb2); (try clear hk); (try clear hi)) | (go_at_call 13; (with_reducible refine (papermilllaw13_awake.calls  t4007 _ A12.out).mono ?_); rintro e w17 ⟨rfl, hb⟩; have n0_ := Aside0.mk (below_step (by repeat (first | exact HB.out | apply below_alloc | apply pw_below_drewN | apply below_drew1)) hb); clear HB; have HB := n0_; clear n0_; (try clear hb); (try clear hb2); (try clear hk); (try clear hi)))
    go_ret
    exact ⟨by first | rfl | (simp [errW_none, errW_some] <;> rfl) | (simp [*, errW_none, errW_some] <;> rfl), by repeat (first | exact HB.out | apply below_alloc | apply pw_below_drewN | apply below_drew1)⟩
   ·rw [if_neg c11] at H
    have c11b0 : (t4005 == t4006) = false := by simpa using c11
    (try (have c11b1 : decide (t4005 = t4006) = false := by simpa using c11))
    (try (have c11b2 : (t4005 == t4006) = false := by simpa using c11))
    (try (have c11b3 : ¬ (t4005 = t4006) := by simpa using c11))
    clear c11
    obtain rfl := Option.some.inj H
    go_enter Try.func3, Try.ntmps3
    go_wp2_with (first | ((with_reducible refine gate_callee (f := 12) rfl ?_); refine goesL_ (some 4) rfl rfl Try.func12 (by kernel_rfl) rfl #[.slice A0 l0.length c0] rfl (by (try simp only [List.map_toArray, List.map_cons, List.map_nil]); first | done | rfl | (simp only [List.length_drop, List.length_take]; rfl)) ?_; (with_reducible refine (papermilllaw13_great.calls _ _ l0 false _ ?side1 ?side2 A2.out).mono ?_); (case side1 => exact HR0.out); (case side2 => exact HC0.out); rintro e w' ⟨rfl, ⟨nd, rfl⟩⟩; refine ⟨_, rfl, ?_⟩) | ((with_reducible refine gate_callee (f := 14) rfl ?_); refine goesL_ (some 7) rfl rfl Try.func14 (by kernel_rfl) rfl #[.slice A0 l0.length c0] rfl (by (try simp only [List.map_toArray, List.map_cons, List.map_nil]); first | done | rfl | (simp only [List.length_drop, List.length_take]; rfl)) ?_; (with_reducible refine (iso_Check.calls k _ _ l0 t4003 _ ?side1 ?side2 A6.out).mono ?_); (case side1 => exact HR0.out); (case side2 => exact HC0.out); rintro e w18 ⟨rfl, hb⟩; refine ⟨_, rfl, ?_⟩; have n0_ := Aside0.mk (below_step (by repeat (first | exact HB.out | apply below_alloc | apply pw_below_drewN | apply below_drew1)) hb); clear HB; have HB := n0_; clear n0_; (try clear hb); (try clear hb2); (try clear hk); (try clear hi)) | ((with_reducible refine gate_callee (f := 15) rfl ?_); refine goesL_ (some 9) rfl rfl Try.func15 (by kernel_rfl) rfl #[.slice A0 l0.length c0] rfl (by (try simp only [List.map_toArray, List.map_cons, List.map_nil]); first | done | rfl | (simp only [List.length_drop, List.length_take]; rfl)) ?_; (with_reducible refine (papermillref13_Check.calls k _ _ l0 t4004 _ ?side1 ?side2 A7.out).mono ?_); (case side1 => exact (Kd.C_below HR0.out HB.out)); (case side2 => exact HC0.out); rintro e w19 ⟨rfl, hb⟩; refine ⟨_, rfl, ?_⟩; have n0_ := Aside0.mk (below_step (by repeat (first | exact HB.out | apply below_alloc | apply pw_below_drewN | apply below_drew1)) hb); clear HB; have HB := n0_; clear n0_; (try clear hb); (try clear hb2); (try clear hk); (try clear hi)) | (go_at_call 16; (with_reducible refine (iso_Single.calls k _ _ l0 t4005 _ ?side1 ?side2 A9.out).mono ?_); (case side1 => exact (Kd.C_below HR0.out HB.out)); (case side2 => exact HC0.out); rintro e w20 ⟨rfl, hb⟩; have n0_ := Aside0.mk (below_step (by repeat (first | exact HB.out | apply below_alloc | apply pw_below_drewN | apply below_drew1)) hb); clear HB; have HB := n0_; clear n0_; (try clear hb); (try clear hb2); (try clear hk); (try clear hi)) | (go_at_call 17; (with_reducible refine (papermillref13_Single.calls k _ _ l0 t4006 _ ?side1 ?side2 A10.out).mono ?_); (case side1 => exact (Kd.C_below HR0.out HB.out)); (case side2 => exact HC0.out); rintro e w21 ⟨rfl, hb⟩; have n0_ := Aside0.mk (below_step (by repeat (first | exact HB.out | apply below_alloc | apply pw_below_drewN | apply below_drew1)) hb); clear HB; have HB := n0_; clear n0_; (try clear hb); (try clear hb2); (try clear hk); (try clear hi)))
    go_ret
    exact ⟨by first | rfl | (simp [errW_none, errW_some] <;> rfl) | (simp [*, errW_none, errW_some] <;> rfl), by repeat (first | exact HB.out | apply below_alloc | apply pw_below_drewN | apply below_drew1)⟩
  ·rw [if_neg c8] at H
   have c8b0 : (t4003 == t4004) = false := beq_eq_false_iff_ne.mpr c8
   have c8b1 : (t4003 != t4004) = true := bne_iff_ne.mpr c8
   obtain rfl := Option.some.inj H
   go_enter Try.func3, Try.ntmps3
   go_wp2_with (first | ((with_reducible refine gate_callee (f := 12) rfl ?_); refine goesL_ (some 4) rfl rfl Try.func12 (by kernel_rfl) rfl #[.slice A0 l0.length c0] rfl (by (try simp only [List.map_toArray, List.map_cons, List.map_nil]); first | done | rfl | (simp only [List.length_drop, List.length_take]; rfl)) ?_; (with_reducible refine (papermilllaw13_great.calls _ _ l0 false _ ?side1 ?side2 A2.out).mono ?_); (case side1 => exact HR0.out); (case side2 => exact HC0.out); rintro e w' ⟨rfl, ⟨nd, rfl⟩⟩; refine ⟨_, rfl, ?_⟩) | ((with_reducible refine gate_callee (f := 14) rfl ?_); refine goesL_ (some 7) rfl rfl Try.func14 (by kernel_rfl) rfl #[.slice A0 l0.length c0] rfl (by (try simp only [List.map_toArray, List.map_cons, List.map_nil]); first | done | rfl | (simp only [List.length_drop, List.length_take]; rfl)) ?_; (with_reducible refine (iso_Check.calls k _ _ l0 t4003 _ ?side1 ?side2 A6.out).mono ?_); (case side1 => exact HR0.out); (case side2 => exact HC0.out); rintro e w22 ⟨rfl, hb⟩; refine ⟨_, rfl, ?_⟩; have n0_ := Aside0.mk (below_step (by repeat (first | exact HB.out | apply below_alloc | apply pw_below_drewN | apply below_drew1)) hb); clear HB; have HB := n0_; clear n0_; (try clear hb); (try clear hb2); (try clear hk); (try clear hi)) | ((with_reducible refine gate_callee (f := 15) rfl ?_); refine goesL_ (some 9) rfl rfl Try.func15 (by kernel_rfl) rfl #[.slice A0 l0.length c0] rfl (by (try simp only [List.map_toArray, List.map_cons, List.map_nil]); first | done | rfl | (simp only [List.length_drop, List.length_take]; rfl)) ?_; (with_reducible refine (papermillref13_Check.calls k _ _ l0 t4004 _ ?side1 ?side2 A7.out).mono ?_); (case side1 => exact (Kd.C_below HR0.out HB.out)); (case side2 => exact HC0.out); rintro e w23 ⟨rfl, hb⟩; refine ⟨_, rfl, ?_⟩; have n0_ := Aside0.mk (below_step (by repeat (first | exact HB.out | apply below_alloc | apply pw_below_drewN | apply below_drew1)) hb); clear HB; have HB := n0_; clear n0_; (try clear hb); (try clear hb2); (try clear hk); (try clear hi)))
   go_ret
   exact ⟨by first | rfl | (simp [errW_none, errW_some] <;> rfl) | (simp [*, errW_none, errW_some] <;> rfl), by repeat (first | exact HB.out | apply below_alloc | apply pw_below_drewN | apply below_drew1)⟩

end Go.Proofs.Ytcnkmdonbpgjiaa.G

namespace Go.Proofs.Ytcnkmdonbpgjiaa.G
open Go.RowKit Go.Proofs.YtcnkmdonbpgjiaaW.PrintWords Go.Proofs.YtcnkmdonbpgjiaaW.PrintLast Go.Proofs.YtcnkmdonbpgjiaaW.PrintMore
set_option linter.unusedVariables false
set_option linter.unusedSimpArgs false
theorem with_l0 (l : List Int) (n : Int) (hl : l.length < 1000000) : ∀ (d i : Nat), l.length - i = d → i ≤ l.length → Ends (fun k => papermillref04_with.l0 k l n (i : Int)) (l.take i ++ withOf (l.drop i) n) := by
  intro d
  induction d with
  | zero =>
    intro i hd hi
    rw [List.drop_of_length_le (by omega)]
    refine Ends.succ ?_
    simp only [papermillref04_with.l0, Option.bind_some, Int.toNat_natCast, List.nil_append]
    refine Ends.neg (by omega) (Ends.pos (by omega) (Ends.pos (by omega) (Ends.pos (by simp only [List.length_nil, List.length_take]; omega) (Ends.pos (by simp only [List.length_append, List.length_take]; omega) (Ends.pos (by simp only [List.length_append, List.length_take, List.length_drop, List.length_cons, List.length_nil]; omega) ?_)))))
    rw [List.drop_of_length_le (l := l) (i := i) (by omega)]
    simpa [withOf] using Ends.ret _
  | succ d ih =>
    intro i hd hi
    have hlen := List.length_drop (i := i) (l := l)
    rw [dropI l i (by omega)] at hlen
    rw [dropI l i (by omega)]
    refine Ends.succ ?_
    simp only [papermillref04_with.l0, Option.bind_some, Int.toNat_natCast, List.nil_append, wrap_nat i (by omega)]
    refine Ends.pos (by omega) (Ends.pos (by omega) ?_)
    by_cases h1 : rd l i < n
    · refine Ends.pos h1 ?_
      have := ih (i + 1) (by omega) (by omega)
      rw [List.take_succ_eq_append_getElem (by omega), ← rdI l i (by omega)] at this
      simpa [withOf, h1] using this
    · refine Ends.neg h1 ?_
      by_cases h2 : rd l i = n
      · refine Ends.pos h2 ?_
        have e : l.take i ++ withOf (rd l i :: l.drop (i + 1)) n = l := by
          rw [withOf, if_neg h1, if_pos h2, ← dropI l i (by omega), List.take_append_drop]
        rw [e]; exact Ends.ret _
      · refine Ends.neg h2 (Ends.pos (by omega) (Ends.pos (by simp only [List.length_nil, List.length_take]; omega) (Ends.pos (by simp only [List.length_take]; omega) (Ends.pos (by simp only [List.length_append, List.length_take, List.length_drop, List.length_cons, List.length_nil]; omega) ?_))))
        rw [withOf, if_neg h1, if_neg h2, ← dropI l i (by omega)]
        simpa using Ends.ret _
theorem with_ends (l : List Int) (n : Int) (hl : l.length < 1000000) : Ends (fun k => papermillref04_with.f k l n) (withOf l n) := by
  simpa [papermillref04_with.f] using with_l0 l n hl l.length 0 rfl (Nat.zero_le _)
theorem ends_l1 (b : List S37) (hb : b.length ≤ 256) : ∀ (d i : Nat) (o : List Int), b.length - i = d → i ≤ b.length → o.length + 2 * d < 1000000 → Ends (fun k => papermillref04_ends.l1 k b o (i : Int)) ((b.drop i).foldl endStep o) := by
  intro d
  induction d with
  | zero =>
    intro i o hd hi ho
    rw [List.drop_of_length_le (by omega)]
    refine Ends.succ ?_
    simp only [papermillref04_ends.l1]
    exact Ends.neg (by omega) (Ends.ret _)
  | succ d ih =>
    intro i o hd hi ho
    rw [drop36 b i (by omega), List.foldl_cons]
    refine Ends.succ ?_
    simp only [papermillref04_ends.l1, wrap_nat i (by omega)]
    have h1 := withOf_len o (rd_T37 b i).f0
    have h2 := endStep_len o (rd_T37 b i)
    exact Ends.pos (by omega) (Ends.pos (by omega) (Ends.bind (with_ends _ _ (by omega)) (Ends.bind (with_ends _ _ (by omega)) (ih (i + 1) _ (by omega) (by omega) (by show (endStep o (rd_T37 b i)).length + _ < _; omega)))))
theorem ends_l0 (a b : List S37) (ha : a.length ≤ 256) (hb : b.length ≤ 256) : ∀ (d i : Nat) (o : List Int), a.length - i = d → i ≤ a.length → o.length + 2 * d < 900000 → Ends (fun k => papermillref04_ends.l0 k a b o (i : Int)) (b.foldl endStep ((a.drop i).foldl endStep o)) := by
  intro d
  induction d with
  | zero =>
    intro i o hd hi ho
    rw [List.drop_of_length_le (by omega)]
    refine Ends.succ ?_
    simp only [papermillref04_ends.l0]
    exact Ends.neg (by omega) (by simpa using ends_l1 b hb b.length 0 o rfl (Nat.zero_le _) (by omega))
  | succ d ih =>
    intro i o hd hi ho
    rw [drop36 a i (by omega), List.foldl_cons]
    refine Ends.succ ?_
    simp only [papermillref04_ends.l0, wrap_nat i (by omega)]
    have h1 := withOf_len o (rd_T37 a i).f0
    have h2 := endStep_len o (rd_T37 a i)
    exact Ends.pos (by omega) (Ends.pos (by omega) (Ends.bind (with_ends _ _ (by omega)) (Ends.bind (with_ends _ _ (by omega)) (ih (i + 1) _ (by omega) (by omega) (by show (endStep o (rd_T37 a i)).length + _ < _; omega)))))
theorem ends_ends (a b : List S37) (ha : a.length ≤ 256) (hb : b.length ≤ 256) : Ends (fun k => papermillref04_ends.f k a b) (endsOf a b) := by
  simpa [papermillref04_ends.f, endsOf] using ends_l0 a b ha hb a.length 0 [] rfl (Nat.zero_le _) (by simp; omega)
theorem has_l0 (l : List S37) (x : Int) (hl : l.length < 1000000) : ∀ (d i : Nat), l.length - i = d → i ≤ l.length → Ends (fun k => papermillref04_Has.l0 k l x (i : Int)) (hasOf (l.drop i) x) := by
  intro d
  induction d with
  | zero =>
    intro i hd hi
    rw [List.drop_of_length_le (by omega)]
    refine Ends.succ ?_
    simp only [papermillref04_Has.l0]
    exact Ends.neg (by omega) (Ends.ret _)
  | succ d ih =>
    intro i hd hi
    have := ih (i + 1) (by omega) (by omega)
    rw [drop36 l i (by omega)]
    refine Ends.succ ?_
    simp only [papermillref04_Has.l0, wrap_nat i (by omega)]
    refine Ends.pos (by omega) (Ends.pos (by omega) ?_)
    by_cases h1 : (rd_T37 l i).f0 ≤ x
    · refine Ends.pos h1 ?_
      by_cases h2 : x < (rd_T37 l i).f1
      · refine Ends.pos h2 ?_
        simpa [hasOf, h1, h2] using Ends.ret true
      · refine Ends.neg h2 ?_
        simpa [hasOf, h1, h2] using this
    · refine Ends.neg h1 ?_
      simpa [hasOf, h1] using this
theorem has_ends (l : List S37) (x : Int) (hl : l.length < 1000000) : Ends (fun k => papermillref04_Has.f k l x) (hasOf l x) := by
  simpa [papermillref04_Has.f] using has_l0 l x hl l.length 0 rfl (Nat.zero_le _)

theorem getLast_rd (out : List S37) (h : out.length ≠ 0) : out.getLast? = some (rd_T37 out ((out.length - 1 : Nat) : Int)) := by
  rw [List.getLast?_eq_getElem?, rd36 _ _ (by omega), List.getElem?_eq_getElem (by omega)]
theorem dropLast_set (out : List S37) (h : out.length ≠ 0) (y : S37) : out.set (out.length - 1) y = out.dropLast ++ [y] := by
  obtain ⟨d, x, rfl⟩ : ∃ d x, out = d ++ [x] := ⟨out.dropLast, out.getLast (fun e => h (by rw [e]; rfl)), (List.dropLast_concat_getLast _).symm⟩
  rw [List.dropLast_concat, List.length_append]
  simp
theorem comb_j1 (a b : List S37) (w : Int) (cuts : List Int) (i : Nat) (out : List S37) (hi : i + 1 < cuts.length) (hc : cuts.length < 1000000) (ho : out.length < 1000000) (sk : Bool) (r : List S37)
    (h : Ends (fun k => papermillref04_combine.l0 k a b w cuts (if sk = true then out else push out (rd cuts i) (rd cuts (i + 1 : Nat))) ((i + 1 : Nat) : Int)) r) :
    Ends (fun k => papermillref04_combine.j1 k a b w cuts out (i : Int) sk) r := by
  refine Ends.succ ?_
  simp only [papermillref04_combine.j1, wrap_nat i (by omega)]
  cases sk with
  | true => exact Ends.pos rfl (by simpa using h)
  | false =>
    refine Ends.neg (by simp) ?_
    simp only [Bool.false_eq_true, if_false] at h
    by_cases h0 : out.length = 0
    · have e : out = [] := List.length_eq_zero_iff.1 h0
      subst e
      have e2 : push [] (rd cuts i) (rd cuts (i + 1 : Nat)) = [⟨rd cuts i, rd cuts (i + 1 : Nat)⟩] := rfl
      rw [e2] at h
      exact Ends.neg (by simp [wrap64]) (Ends.pos (by omega) (Ends.pos (by omega) (Ends.pos (by omega) (Ends.pos (by omega) (Ends.pos (by omega) h)))))
    · have hw : wrap64 ((out.length : Int) - 1) = ((out.length - 1 : Nat) : Int) := by unfold wrap64; omega
      have hl := getLast_rd out h0
      simp only [hw, Int.toNat_natCast]
      refine Ends.pos (by omega) (Ends.pos (by omega) (Ends.pos (by omega) (Ends.pos (by omega) (Ends.pos (by omega) ?_))))
      by_cases h1 : (rd_T37 out ((out.length - 1 : Nat) : Int)).f1 = rd cuts i
      · refine Ends.pos h1 (Ends.pos (by omega) (Ends.pos (by omega) ?_))
        rw [dropLast_set out h0]
        simpa [push, hl, h1] using h
      · refine Ends.neg h1 (Ends.pos (by omega) (Ends.pos (by omega) (Ends.pos (by omega) ?_)))
        simpa [push, hl, h1] using h
theorem comb_l0 (a b : List S37) (ha : a.length ≤ 256) (hb : b.length ≤ 256) (w : Int) (hw : w = 0 ∨ w = 1 ∨ w = 2) (cuts : List Int) (hc : cuts.length < 10000) : ∀ (d i : Nat) (out : List S37), cuts.length - i = d → i ≤ cuts.length → out.length + d < 900000 → Ends (fun k => papermillref04_combine.l0 k a b w cuts out (i : Int)) (combGo a b w out (cuts.drop i)) := by
  intro d
  induction d with
  | zero =>
    intro i out hd hi ho
    rw [List.drop_of_length_le (by omega)]
    refine Ends.succ ?_
    simp only [papermillref04_combine.l0, wrap_nat i (by omega)]
    exact Ends.neg (by omega) (Ends.ret _)
  | succ d ih =>
    intro i out hd hi ho
    by_cases h1 : i + 1 < cuts.length
    · rw [dropI cuts i (by omega), dropI cuts (i + 1) h1]
      refine Ends.succ ?_
      simp only [papermillref04_combine.l0, wrap_nat i (by omega)]
      refine Ends.pos (by omega) (Ends.pos (by omega) (Ends.pos (by omega) (Ends.bind (has_ends a _ (by omega)) (Ends.bind (has_ends b _ (by omega)) ?_))))
      have hp := push_len out (rd cuts i) (rd cuts (i + 1 : Nat))
      have hj := comb_j1 a b w cuts i out h1 (by omega) (by omega) (skips w (hasOf a (rd cuts i)) (hasOf b (rd cuts i))) _ (ih (i + 1) _ (by omega) (by omega) (by split <;> omega))
      rw [dropI cuts (i + 1) h1] at hj
      rw [combGo]
      revert hj
      generalize hasOf a (rd cuts i) = p
      generalize hasOf b (rd cuts i) = q
      intro hj
      rcases hw with rfl | rfl | rfl <;> cases p <;> cases q <;> simpa [skips] using hj
    · refine Ends.succ ?_
      simp only [papermillref04_combine.l0, wrap_nat i (by omega)]
      rw [dropI cuts i (by omega), List.drop_of_length_le (l := cuts) (i := i + 1) (by omega)]
      exact Ends.neg (by omega) (Ends.ret _)
theorem comb_ends (a b : List S37) (ha : a.length ≤ 256) (hb : b.length ≤ 256) (w : Int) (hw : w = 0 ∨ w = 1 ∨ w = 2) : Ends (fun k => papermillref04_combine.f k a b w) (combOf a b w) := by
  have h := endsOf_len a b
  unfold papermillref04_combine.f combOf
  exact Ends.bind (ends_ends a b ha hb) (by simpa using comb_l0 a b ha hb w hw (endsOf a b) (by omega) (endsOf a b).length 0 [] rfl (Nat.zero_le _) (by simp; omega))
theorem check_l0 (l : List S37) (hl : l.length ≤ 256) : ∀ (d i : Nat), l.length - i = d → i ≤ l.length → Ends (fun k => papermillref04_Check.l0 k l (i : Int)) (if ∃ s ∈ l.drop i, badS s then 1 else 0) := by
  intro d
  induction d with
  | zero =>
    intro i hd hi
    rw [List.drop_of_length_le (by omega)]
    refine Ends.succ ?_
    simp only [papermillref04_Check.l0]
    exact Ends.neg (by omega) (by simpa using Ends.ret (0 : Int))
  | succ d ih =>
    intro i hd hi
    have := ih (i + 1) (by omega) (by omega)
    rw [drop36 l i (by omega)]
    refine Ends.succ ?_
    simp only [papermillref04_Check.l0, wrap_nat i (by omega)]
    refine Ends.pos (by omega) (Ends.pos (by omega) ?_)
    by_cases hb : badS (rd_T37 l i)
    · rw [if_pos ⟨_, by simp, hb⟩]
      unfold badS at hb
      by_cases h1 : (rd_T37 l i).f0 < 0
      · exact Ends.pos h1 (Ends.ret _)
      · refine Ends.neg h1 ?_
        by_cases h2 : (rd_T37 l i).f0 > (rd_T37 l i).f1
        · exact Ends.pos h2 (Ends.ret _)
        · exact Ends.neg h2 (Ends.pos (by omega) (Ends.ret _))
    · have e : (∃ s ∈ rd_T37 l i :: l.drop (i + 1), badS s) ↔ ∃ s ∈ l.drop (i + 1), badS s := by
        constructor
        · rintro ⟨s, hs, k⟩
          rcases List.mem_cons.1 hs with rfl | hs
          · exact absurd k hb
          · exact ⟨s, hs, k⟩
        · rintro ⟨s, hs, k⟩; exact ⟨s, by simp [hs], k⟩
      simp only [e]
      unfold badS at hb
      exact Ends.neg (by omega) (Ends.neg (by omega) (Ends.neg (by omega) this))
theorem check04_ends (l : List S37) : Ends (fun k => papermillref04_Check.f k l) (check04 l) := by
  simp only [papermillref04_Check.f, check04]
  by_cases h : l.length > 256
  · rw [if_pos h]; exact Ends.pos (by omega) (Ends.ret _)
  · rw [if_neg h]; exact Ends.neg (by omega) (by simpa using check_l0 l (by omega) l.length 0 rfl (Nat.zero_le _))
theorem both_ends (a b : List S37) (w : Int) (hw : w = 0 ∨ w = 1 ∨ w = 2) : Ends (fun k => papermillref04_both.f k a b w) (bothOf a b w) := by
  unfold papermillref04_both.f bothOf
  refine Ends.bind (check04_ends a) ?_
  by_cases h1 : check04 a = 0
  · rw [if_pos h1]; refine Ends.pos h1 (Ends.bind (check04_ends b) ?_)
    by_cases h2 : check04 b = 0
    · rw [if_pos h2]; refine Ends.pos h2 (Ends.bind (comb_ends a b (check04_zero h1).1 (check04_zero h2).1 w hw) ?_)
      by_cases h3 : (combOf a b w).length > 256
      · rw [if_pos h3]; exact Ends.pos (by omega) (Ends.ret _)
      · rw [if_neg h3]; exact Ends.neg (by omega) (Ends.ret _)
    · rw [if_neg h2]; exact Ends.neg h2 (Ends.ret _)
  · rw [if_neg h1]; exact Ends.neg h1 (Ends.ret _)
end Go.Proofs.Ytcnkmdonbpgjiaa.G

namespace Go.Proofs.Ytcnkmdonbpgjiaa.G
open Go.RowKit Go.Proofs.YtcnkmdonbpgjiaaW.PrintWords Go.Proofs.YtcnkmdonbpgjiaaW.PrintLast Go.Proofs.YtcnkmdonbpgjiaaW.PrintMore
set_option linter.unusedVariables false
set_option linter.unusedSimpArgs false
theorem rnorm_ends (l : List S37) : Ends (fun k => papermillref04_Norm.f k l) (bothOf l [] 0) := by
  unfold papermillref04_Norm.f
  exact Ends.bind (both_ends l [] 0 (.inl rfl)) (Ends.ret _)
theorem rtotal_l0 (l : List S37) (e : Int) (hl : l.length ≤ 1000) (hv : ∀ s ∈ l, 0 ≤ s.f0 ∧ s.f0 ≤ s.f1 ∧ s.f1 ≤ 17179869184) : ∀ (d i : Nat) (n : Int), l.length - i = d → i ≤ l.length → 0 ≤ n → n ≤ i * 17179869184 → Ends (fun k => papermillref04_Total.l0 k l e n (i : Int)) (n + tot (l.drop i), e) := by
  intro d
  induction d with
  | zero =>
    intro i n hd hi h0 h1
    refine Ends.succ ?_
    simp only [papermillref04_Total.l0]
    rw [List.drop_of_length_le (by omega)]
    exact Ends.neg (by omega) ((Ends.ret _).congr (by simp [tot]))
  | succ d ih =>
    intro i n hd hi h0 h1
    refine Ends.succ ?_
    have hx := hv (rd_T37 l (i : Int)) (by rw [rd36 l i (by omega)]; exact List.getElem_mem _)
    rw [drop36 l i (by omega), tot_cons]
    simp only [papermillref04_Total.l0, wrap_nat i (by omega)]
    generalize rd_T37 l (i : Int) = s at *
    have e1 : wrap64 (n + s.f1) = n + s.f1 := by unfold wrap64; omega
    have e2 : wrap64 (n + s.f1 - s.f0) = n + (s.f1 - s.f0) := by unfold wrap64; omega
    simp only [e1, e2]
    exact Ends.pos (by omega) (Ends.pos (by omega) ((ih (i + 1) (n + (s.f1 - s.f0)) (by omega) (by omega) (by omega) (by omega)).congr (by rw [Int.add_assoc])))
theorem rtotal_ends (l : List S37) : Ends (fun k => papermillref04_Total.f k l) (totalOf l) := by
  unfold papermillref04_Total.f totalOf
  refine Ends.bind (rnorm_ends l) ?_
  by_cases h0 : check04 l = 0
  · rw [norm_fits h0, if_pos h0]
    obtain ⟨g0, v0⟩ := good04 h0
    have n0 := joinOf_len l (-1) (fun s hs => by have := v0 s hs; omega)
    have b0 := joinOf_bound l (-1) 17179869184 (fun s hs => by have := v0 s hs; omega)
    exact (rtotal_l0 (joinOf l) 0 (by omega) (fun s hs => by have := b0 s hs; omega) _ 0 0 rfl (by omega) (by omega) (by omega)).congr (by simp)
  · have e : bothOf l [] 0 = ([], check04 l) := by unfold bothOf; rw [if_neg h0]
    rw [e, if_neg h0]
    exact (rtotal_l0 [] (check04 l) (by simp) (by simp) _ 0 0 rfl (by simp) (by omega) (by omega)).congr (by simp [tot])
theorem same_l0 (l : List S37) (hl : l.length ≤ 1000000) : ∀ (d i : Nat), l.length - i = d → i ≤ l.length → Ends (fun k => papermillref04_Same.l0 k l l (i : Int)) true := by
  intro d
  induction d with
  | zero =>
    intro i hd hi
    refine Ends.succ ?_
    simp only [papermillref04_Same.l0]
    exact Ends.neg (by omega) (Ends.ret _)
  | succ d ih =>
    intro i hd hi
    refine Ends.succ ?_
    simp only [papermillref04_Same.l0, wrap_nat i (by omega)]
    exact Ends.pos (by omega) (Ends.pos (by omega) (Ends.pos (by omega) (Ends.neg (by simp) (ih (i + 1) (by omega) (by omega)))))
theorem same_ends (l : List S37) (hl : l.length ≤ 1000000) : Ends (fun k => papermillref04_Same.f k l l) true := by
  unfold papermillref04_Same.f
  exact Ends.pos rfl (same_l0 l hl _ 0 rfl (by omega))
end Go.Proofs.Ytcnkmdonbpgjiaa.G

namespace Go.Proofs.Ytcnkmdonbpgjiaa.G
open Go.RowKit Go.Proofs.YtcnkmdonbpgjiaaW.PrintWords Go.Proofs.YtcnkmdonbpgjiaaW.PrintLast Go.Proofs.YtcnkmdonbpgjiaaW.PrintMore
set_option linter.unusedVariables false
set_option linter.unusedSimpArgs false
theorem rgood_ends (r : S32) : Ends (fun k => papermillref13_good.f k r.f0 r.f1 r.f2) (decide (¬ badR r)) := by
  have key : ∀ z : Bool, z = decide (r.f1 < 1 ∨ r.f1 > 17179869184 ∨ r.f0 < 0 ∨ r.f0 ≥ 17179869184) → Ends (fun k => papermillref13_good.j0 k z r.f0 r.f1 r.f2) (decide (¬ badR r)) := fun z hz => by
    refine Ends.succ ?_
    simp only [papermillref13_good.j0]
    by_cases hb : r.f1 < 1 ∨ r.f1 > 17179869184 ∨ r.f0 < 0 ∨ r.f0 ≥ 17179869184
    · exact Ends.pos (by rw [hz]; simpa using hb) ((Ends.ret false).congr (by symm; rw [decide_eq_false_iff_not, Classical.not_not]; unfold badR; omega))
    · refine Ends.neg (by rw [hz]; simpa using hb) ?_
      cases hf : r.f2 with
      | true =>
        have ew : wrap64 (wrap64 (r.f0 - r.f1) + 1) = r.f0 - r.f1 + 1 := by
          have : wrap64 (r.f0 - r.f1) = r.f0 - r.f1 := by unfold wrap64; omega
          rw [this]; unfold wrap64; omega
        refine Ends.pos rfl ((Ends.ret _).congr ?_)
        rw [ew]
        unfold badR
        rw [decide_eq_decide]
        simp [hf]
        omega
      | false =>
        have ew : wrap64 (r.f0 + r.f1) = r.f0 + r.f1 := by unfold wrap64; omega
        refine Ends.neg (by simp) ((Ends.ret _).congr ?_)
        rw [ew]
        unfold badR
        rw [decide_eq_decide]
        simp [hf]
        omega
  unfold papermillref13_good.f
  by_cases c1 : r.f1 < 1
  · exact Ends.pos c1 (key true (by simp [c1]))
  · refine Ends.neg c1 ?_
    by_cases c2 : r.f1 > 17179869184
    · exact Ends.pos c2 (key true (by simp [c2]))
    · refine Ends.neg c2 ?_
      by_cases c3 : r.f0 < 0
      · exact Ends.pos c3 (key true (by simp [c3]))
      · exact Ends.neg c3 (key _ (by simp [c1, c2, c3]))
theorem rlength_l0 (l : List S32) (hl : l.length ≤ 65536) (hv : ∀ r ∈ l, 0 ≤ r.f1 ∧ r.f1 ≤ 17179869184) : ∀ (d i : Nat) (n : Int), l.length - i = d → i ≤ l.length → 0 ≤ n → n ≤ i * 17179869184 → Ends (fun k => papermillref13_length.l0 k l n (i : Int)) (n + tot13 (l.drop i)) := by
  intro d
  induction d with
  | zero =>
    intro i n hd hi h0 h1
    refine Ends.succ ?_
    simp only [papermillref13_length.l0]
    rw [List.drop_of_length_le (by omega)]
    exact Ends.neg (by omega) ((Ends.ret _).congr (by simp [tot13]))
  | succ d ih =>
    intro i n hd hi h0 h1
    refine Ends.succ ?_
    have hx := hv (rd_T32 l (i : Int)) (by rw [rdR l i (by omega)]; exact List.getElem_mem _)
    rw [dropR l i (by omega), tot13_cons]
    simp only [papermillref13_length.l0, wrap_nat i (by omega)]
    generalize rd_T32 l (i : Int) = r at *
    have ew : wrap64 (n + r.f1) = n + r.f1 := by unfold wrap64; omega
    rw [ew]
    exact Ends.pos (by omega) (Ends.pos (by omega) ((ih (i + 1) (n + r.f1) (by omega) (by omega) (by omega) (by omega)).congr (by rw [Int.add_assoc])))
theorem rlength_ends (l : List S32) (hl : l.length ≤ 65536) (hv : ∀ r ∈ l, 0 ≤ r.f1 ∧ r.f1 ≤ 17179869184) : Ends (fun k => papermillref13_length.f k l) (tot13 l) := by
  unfold papermillref13_length.f
  exact (rlength_l0 l hl hv _ 0 0 rfl (by omega) (by omega) (by omega)).congr (by simp)
theorem rcheck_l0 (l : List S32) (hl : l.length ≤ 256) : ∀ (d i : Nat), l.length - i = d → i ≤ l.length → anyBad (l.take i) = false → Ends (fun k => papermillref13_Check.l0 k l (i : Int)) (if anyBad l = true then 1 else if tot13 l > 17179869184 then 21 else 0) := by
  intro d
  induction d with
  | zero =>
    intro i hd hi hn
    refine Ends.succ ?_
    simp only [papermillref13_Check.l0]
    rw [List.take_of_length_le (by omega)] at hn
    have hg : ∀ r ∈ l, ¬ badR r := fun r hr hb => by
      have : anyBad l = true := List.any_eq_true.mpr ⟨r, hr, by simpa using hb⟩
      rw [hn] at this; cases this
    refine Ends.neg (by omega) (Ends.bind (rlength_ends l (by omega) (fun r hr => by have := fit_of (hg r hr); unfold fitR at this; omega)) ?_)
    by_cases h : tot13 l > 17179869184
    · exact Ends.pos h ((Ends.ret 21).congr (by rw [hn, if_neg (by simp), if_pos h]))
    · exact Ends.neg h ((Ends.ret 0).congr (by rw [hn, if_neg (by simp), if_neg h]))
  | succ d ih =>
    intro i hd hi hn
    refine Ends.succ ?_
    simp only [papermillref13_Check.l0, wrap_nat i (by omega)]
    have hmem : rd_T32 l (i : Int) ∈ l := by rw [rdR l i (by omega)]; exact List.getElem_mem _
    have htk : l.take (i + 1) = l.take i ++ [rd_T32 l (i : Int)] := by rw [List.take_succ_eq_append_getElem (by omega : i < l.length), rdR l i (by omega)]
    generalize rd_T32 l (i : Int) = r at *
    refine Ends.pos (by omega) (Ends.pos (by omega) (Ends.bind (rgood_ends r) ?_))
    by_cases hb : badR r
    · have : anyBad l = true := List.any_eq_true.mpr ⟨r, hmem, by simpa using hb⟩
      rw [if_pos this]
      exact Ends.neg (by simpa using hb) (Ends.ret _)
    · exact Ends.pos (by simpa using hb) (ih (i + 1) (by omega) (by omega) (by rw [htk]; simp only [anyBad, List.any_append] at hn ⊢; rw [hn]; simpa using hb))
theorem rcheck_ends (l : List S32) : Ends (fun k => papermillref13_Check.f k l) (check13 l) := by
  unfold papermillref13_Check.f check13
  by_cases h : l.length > 256
  · rw [if_pos h]; exact Ends.pos (by omega) (Ends.ret _)
  · rw [if_neg h]
    exact Ends.neg (by omega) (rcheck_l0 l (by omega) _ 0 rfl (by omega) (by simp [anyBad]))
theorem rimg_is {r : S32} (h : ¬ badR r) : papermillref13_image.f r.f0 r.f1 r.f2 (wrap64 (r.f1 - 1)) = some (img r (r.f1 - 1)) := by
  have hf := fit_of h
  unfold fitR at hf
  have e : wrap64 (r.f1 - 1) = r.f1 - 1 := by unfold wrap64; omega
  have := image_is r (r.f1 - 1) ⟨by omega, by omega, by omega⟩ (by omega) (by omega)
  rw [e]
  exact this
theorem rimage_l0 (l : List S32) (hl : l.length ≤ 256) (hg : ∀ r ∈ l, ¬ badR r) : ∀ (d i : Nat) (o : List S37), l.length - i = d → i ≤ l.length → o.length ≤ i → Ends (fun k => papermillref13_Image.l0 k l o (i : Int)) (bothOf (o ++ (l.drop i).map imgS) [] 0) := by
  intro d
  induction d with
  | zero =>
    intro i o hd hi ho
    refine Ends.succ ?_
    simp only [papermillref13_Image.l0]
    rw [List.drop_of_length_le (by omega), List.map_nil, List.append_nil]
    exact Ends.neg (by omega) (Ends.bind (rnorm_ends o) (Ends.ret _))
  | succ d ih =>
    intro i o hd hi ho
    refine Ends.succ ?_
    have hx := hg (rd_T32 l (i : Int)) (by rw [rdR l i (by omega)]; exact List.getElem_mem _)
    rw [dropR l i (by omega)]
    simp only [papermillref13_Image.l0, wrap_nat i (by omega)]
    generalize rd_T32 l (i : Int) = r at *
    have hi2 := imgS_in hx
    have h1 : (imgS r).f1 = mx r.f0 (img r (r.f1 - 1)) + 1 := rfl
    have e2 : wrap64 (mx r.f0 (img r (r.f1 - 1)) + 1) = mx r.f0 (img r (r.f1 - 1)) + 1 := by unfold wrap64; omega
    refine Ends.pos (by omega) (Ends.pos (by omega) (Ends.bind (Ends.const (rimg_is hx)) (Ends.pos (by omega) ?_)))
    rw [e2]
    refine (ih (i + 1) (o ++ [imgS r]) (by omega) (by omega) (by simp; omega)).congr ?_
    rw [List.append_assoc]
    rfl
theorem rimage_ends (l : List S32) : Ends (fun k => papermillref13_Image.f k l) (image13 l) := by
  unfold papermillref13_Image.f image13
  refine Ends.bind (rcheck_ends l) ?_
  by_cases h : check13 l = 0
  · rw [if_pos h]
    obtain ⟨hl, hg, _⟩ := check13_zero h
    exact Ends.pos h ((rimage_l0 l hl hg _ 0 [] rfl (by omega) (by simp)).congr (by simp))
  · rw [if_neg h]
    exact Ends.neg h (Ends.ret _)
theorem image_fine {l : List S32} (h : check13 l = 0) : (image13 l).2 = 0 := by
  obtain ⟨hl, hg, _⟩ := check13_zero h
  have hc : check04 (l.map imgS) = 0 := by
    unfold check04
    rw [if_neg (by rw [List.length_map]; omega), if_neg]
    rintro ⟨s, hs, hb⟩
    obtain ⟨r, hr, rfl⟩ := List.mem_map.mp hs
    have := imgS_in (hg r hr)
    unfold badS at hb
    omega
  unfold image13
  rw [if_pos h, norm_fits hc]
theorem rsingle_ends (l : List S32) : Ends (fun k => papermillref13_Single.f k l) (single13 l) := by
  unfold papermillref13_Single.f single13
  refine Ends.bind (rcheck_ends l) ?_
  by_cases h : check13 l = 0
  · obtain ⟨hl, hg, _⟩ := check13_zero h
    rw [if_pos (image_fine h)]
    refine Ends.pos h (Ends.bind (rimage_ends l) (Ends.bind (rtotal_ends _) ?_))
    by_cases h2 : (totalOf (image13 l).1).2 = 0
    · rw [if_pos h2]
      exact Ends.pos h2 (Ends.bind (rlength_ends l (by omega) (fun r hr => by have := fit_of (hg r hr); unfold fitR at this; omega)) (Ends.ret _))
    · rw [if_neg h2]
      exact Ends.neg h2 (Ends.ret _)
  · have : (image13 l).2 = check13 l := by unfold image13; rw [if_neg h]
    rw [this, if_neg h]
    exact Ends.neg h (Ends.ret _)
end Go.Proofs.Ytcnkmdonbpgjiaa.G
