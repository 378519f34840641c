import Derived.Test.YtlfcaoniclnimaaM1
import Derived.Test.YtlfcaoniclnimaaM3
import Derived.Test.YtlfcaoniclnimaaM2
import Derived.RangeFuncRecord
import Derived.Deep.Slices
import Derived.Deep.Fields
import Derived.ChangeSame
import Derived.ChangeArms
import Derived.WalkKit
import Derived.Shelf.Abstract
import Derived.Deep.LoopGhost
namespace Go.Proofs.Ytlfcaoniclnimaa.G
open Go.RowKit Go.Proofs.YtlfcaoniclnimaaW.PrintWords Go.Proofs.YtlfcaoniclnimaaW.PrintLast Go.Proofs.YtlfcaoniclnimaaW.PrintMore
attribute [local go_sem] max2_int min2_int max_two min_two max_three min_three max_four min_four   -- for this text's walks alone
set_option linter.unusedVariables false
set_option linter.unusedSimpArgs false

/-! ### span_Total: function 16 -/
def span_Total.l0 : Nat → Int → List (S35) → Int → Int → Option (Int × Int)
  | 0, _, _, _, _ => none
  | k + 1, x5, x14, x15, x16 => if x16 < x15 then (if 0 ≤ x16 then (if x16 < (x14.length : Int) then (span_Total.l0 k (wrap64 (x5 + (wrap64 (((rd_T35 x14 x16).f1) - ((rd_T35 x14 x16).f0))))) x14 x15 (wrap64 (x16 + 1))) else (none)) else (none)) else (some (x5, 0))
def span_Total.f (k : Nat) (l0 : List (S35)) : Option (Int × Int) := (span_Check.f k l0).bind fun t17001 => (if t17001 = 0 then ((span_joined.f l0).bind fun t17002 => (span_Total.l0 k 0 t17002 (t17002.length : Int) 0)) else (some (0, t17001)))
theorem span_Total.mono_l : ∀ k, (∀ y0 y1 y2 y3, LeO (span_Total.l0 k y0 y1 y2 y3) (span_Total.l0 (k + 1) y0 y1 y2 y3))
  | 0 => fun _ _ _ _ r h => by simp [span_Total.l0] at h
  | k + 1 => by
    have ih0 := span_Total.mono_l k
    · intro y0 y1 y2 y3
      unfold span_Total.l0
      repeat' first
      | (with_reducible exact ih0 _ _ _ _)
      | (with_reducible exact span_Check.mono _ _)
      | (with_reducible exact LeO.refl _)
      | (with_reducible exact LeO.none _)
      | (with_reducible refine LeO.ite ?_ ?_)
      | (with_reducible refine LeO.bind ?_ (fun _ => ?_))
      | exact ih0 _ _ _ _
      | exact span_Check.mono _ _
      | exact LeO.none _
      | refine LeO.ite ?_ ?_
      | refine LeO.bind ?_ (fun _ => ?_)
theorem span_Total.mono : ∀ a0 k, LeO (span_Total.f k a0) (span_Total.f (k + 1) a0) := by
  intro a0 k
  have ih0 := span_Total.mono_l k
  unfold span_Total.f
  repeat' first
      | (with_reducible exact ih0 _ _ _ _)
      | (with_reducible exact span_Check.mono _ _)
      | (with_reducible exact LeO.refl _)
      | (with_reducible exact LeO.none _)
      | (with_reducible refine LeO.ite ?_ ?_)
      | (with_reducible refine LeO.bind ?_ (fun _ => ?_))
      | exact ih0 _ _ _ _
      | exact span_Check.mono _ _
      | exact LeO.none _
      | refine LeO.ite ?_ ?_
      | refine LeO.bind ?_ (fun _ => ?_)
set_option maxHeartbeats 8000000 in
set_option maxRecDepth 100000 in
theorem span_Total.calls (k : Nat) (A0 : Option Addr) (c0 : Nat) (l0 : List (S35)) (r1 : Int) (r2 : Int) (w : World) (hr0 : Kd.C k35 w A0 l0.length l0) (hc0 : l0.length ≤ c0) (h : span_Total.f k l0 = some (r1, r2)) :
    Calls Try.prog 16 #[.slice A0 l0.length c0] w fun e w' => e = .returned (.tuple #[.int .i64 r1, .int .i64 r2]) ∧ Below w.heap.size w w' := by
  have hu35 := Try.underlying35
  have HR0 := Aside0.mk hr0
  have HC0 := Aside0.mk hc0
  clear hr0 hc0
  have HB := Aside0.mk (Below.refl w.heap.size w)
  have H : ((span_Check.f k l0).bind fun t17001 => (if t17001 = 0 then ((span_joined.f l0).bind fun t17002 => (span_Total.l0 k 0 t17002 (t17002.length : Int) 0)) else (some (0, t17001)))) = some (r1, r2) := h
  clear h
  replace H := Option.bind_eq_some_iff.mp H
  obtain ⟨t17001, A20, H⟩ := H
  replace H : (if t17001 = 0 then ((span_joined.f l0).bind fun t17002 => (span_Total.l0 k 0 t17002 (t17002.length : Int) 0)) else (some (0, t17001))) = some (r1, r2) := H
  have A2 := Aside0.mk A20
  clear A20
  by_cases c3 : t17001 = 0
  · rw [if_pos c3] at H
    have c3b0 : (t17001 == 0) = true := beq_iff_eq.mpr c3
    have c3b1 : (t17001 != 0) = false := bne_eq_false_iff_eq.mpr c3
    clear c3
    replace H := Option.bind_eq_some_iff.mp H
    obtain ⟨t17002, A40, H⟩ := H
    replace H : (span_Total.l0 k 0 t17002 (t17002.length : Int) 0) = some (r1, r2) := H
    have A4 := Aside0.mk A40
    clear A40
    have H' := Aside0.mk H
    clear H
    go_enter Try.func16, Try.ntmps16
    go_wp2_with (first | ((with_reducible refine gate_callee (f := 27) rfl ?_); refine goesL_ (some 9) rfl rfl Try.func27 (by kernel_rfl) rfl #[.slice A0 l0.length c0] rfl (by (try simp only [List.map_toArray, List.map_cons, List.map_nil]); first | done | rfl | (simp only [List.length_drop, List.length_take]; rfl)) ?_; (with_reducible refine (span_Check.calls k _ _ l0 t17001 _ ?side1 ?side2 A2.out).mono ?_); (case side1 => repeat (first | exact HR0.out | (with_reducible refine Kd.C_alloc ?_ _) | (with_reducible refine Kd.C_drewN ?_ _) | (with_reducible refine Kd.C_drew ?_))); (case side2 => exact HC0.out); rintro e w5 ⟨rfl, hb⟩; refine ⟨_, rfl, ?_⟩; have n0_ := Aside0.mk (below_step (by repeat (first | (with_reducible first | exact HB.out | apply below_alloc | apply pw_below_drewN | apply below_drew1) | exact HB.out)) hb); clear HB; have HB := n0_; clear n0_; (try clear hb); (try clear hb2); (try clear hk); (try clear hi)) | ((with_reducible refine gate_callee (f := 34) rfl ?_); refine goesL_ (some 14) rfl rfl Try.func34 (by kernel_rfl) rfl #[.slice A0 l0.length c0] rfl (by (try simp only [List.map_toArray, List.map_cons, List.map_nil]); first | done | rfl | (simp only [List.length_drop, List.length_take]; rfl)) ?_; (with_reducible refine (span_joined.calls _ _ l0 t17002 _ ?side1 ?side2 A4.out).mono ?_); (case side1 => repeat (first | exact (Kd.C_below HR0.out HB.out) | (with_reducible refine Kd.C_alloc ?_ _) | (with_reducible refine Kd.C_drewN ?_ _) | (with_reducible refine Kd.C_drew ?_))); (case side2 => exact HC0.out); rintro e w6 ⟨v17003, rfl, ho0, hb⟩; refine ⟨_, rfl, ?_⟩; have n0_ := Aside0.mk (Kd.R_lower ho0 (below_size (by repeat (first | (with_reducible first | exact HB.out | apply below_alloc | apply pw_below_drewN | apply below_drew1) | exact HB.out)))); have n1_ := Aside0.mk (below_step (by repeat (first | (with_reducible first | exact HB.out | apply below_alloc | apply pw_below_drewN | apply below_drew1) | exact HB.out)) hb); clear HB; have HO17004 := n0_; have HB := n1_; clear n0_ n1_; (try clear hb); (try clear hb2); (try clear hk); (try clear hi); (try clear ho0); obtain ⟨Ao7, co7, eo7⟩ := Kd.R_slice HO17004.out; subst eo7))
    go_loopg [5, 16] k (fun kq v5 v16 w' => ∃ (x5_1 : Int) (x16_1 : Int), v5 = .int .i64 x5_1 ∧ v16 = .int .i64 x16_1 ∧ Aside0 (span_Total.l0 kq x5_1 t17002 (t17002.length : Int) x16_1 = some (r1, r2)) ∧ Aside0 (kq ≤ k) ∧ Aside0 (Kd.R k35 35 w' w.heap.size (fun _ => True) (.slice Ao7 t17002.length co7) t17002) ∧ Aside0 (Below w.heap.size w w'))
    case atStart => exact ⟨(0), (0), (by first | rfl | (simp; done) | (simp [*]; done)), (by first | rfl | (simp; done) | (simp [*]; done)), H', ⟨Nat.le_refl _⟩, ⟨by (with_reducible repeat (first | apply Kd.R_alloc | apply Kd.R_drewN | apply Kd.R_drew)); exact HO17004.out⟩, ⟨by repeat (first | (with_reducible first | exact HB.out | apply below_alloc | apply pw_below_drewN | apply below_drew1) | exact HB.out)⟩⟩
    case round =>
      clear H'
      try clear c1
      try clear c2
      try clear p2
      try clear c3
      try clear c3b0
      try clear c3b1
      obtain ⟨x5_1, x16_1, rfl, rfl, HA, HK1, HO_14, HB⟩ := hrel
      cases gk with
      | zero => exact absurd HA.out (by simp [span_Total.l0])
      | succ k1 =>
        have H := HA.out
        clear HA
        simp only [span_Total.l0] at H
        by_cases c8 : x16_1 < (t17002.length : Int)
        · rw [if_pos c8] at H
          have c8b0 : decide (x16_1 < (t17002.length : Int)) = true := decide_eq_true c8
          clear c8
          by_cases c9 : 0 ≤ x16_1
          · rw [if_pos c9] at H
            have c9b0 : decide (0 ≤ x16_1) = true := decide_eq_true c9
            clear c9
            by_cases c10 : x16_1 < (t17002.length : Int)
            · rw [if_pos c10] at H
              have c10b0 : decide (x16_1 < (t17002.length : Int)) = true := decide_eq_true c10
              clear c10
              have H' := Aside0.mk H
              clear H
              have p17005 : 0 ≤ (x16_1 : Int) := of_decide_eq_true (by first | (with_reducible assumption) | assumption)
              have q17005 : x16_1 < (t17002.length : Int) := of_decide_eq_true (by first | (with_reducible assumption) | assumption)
              obtain ⟨ad17005, e17005, hx17005_0, hx17005_1⟩ := at_T35 (Kd.R_reads' HO_14.out).2.2 x16_1 p17005 q17005
              cases e17005
              replace p17005 := eq_true p17005
              replace q17005 := eq_true q17005
              go_wp2_with (first | ((with_reducible refine gate_dst (N := 7) rfl ?_); refine box_event ?hg (N := 7) ?hd (cs := #[.int .i64 0, .int .i64 0]) (t := 35) ?hr ?_; (case hd => rfl); (case hg => rfl); (case hr => first | (go_simp; done) | (go_simp; rfl)); intro gb17006 hg w11 hbox hb; have n0_ := Aside0.mk (Kd.R_below (Kd.R_elderB (by (with_reducible repeat (first | apply Kd.R_alloc | apply Kd.R_drewN | apply Kd.R_drew)); exact HO_14.out) gb17006 (Nat.le_of_eq hg.symm)) hb); have n1_ := Aside0.mk (below_step (by repeat (first | (with_reducible first | exact HB.out | apply below_alloc | apply pw_below_drewN | apply below_drew1) | exact HB.out)) hb); have n2_ := Aside0.mk (hbox); have n3_ := Aside0.mk ((by rw [hg]; exact (below_size (by repeat (first | (with_reducible first | exact HB.out | apply below_alloc | apply pw_below_drewN | apply below_drew1) | exact HB.out))) : w.heap.size ≤ gb17006)); have n4_ := Aside0.mk ((by rw [hg]; exact (below_size (by repeat (first | (with_reducible first | exact HB.out | apply below_alloc | apply pw_below_drewN | apply below_drew1) | exact HB.out))) : w.heap.size ≤ gb17006)); clear HO_14; clear HB; have HO_14 := n0_; have HB := n1_; have BK17006 := n2_; have GW17006 := n3_; have GE17006 := n4_; clear n0_ n1_ n2_ n3_ n4_; clear hb hbox hg; have hcz12_0 : w11.cell? ⟨gb17006, 0, none⟩ = some (.int .i64 0) := (blk_cell BK17006.out 0).trans rfl; have hcz12_1 : w11.cell? ⟨gb17006, 1, none⟩ = some (.int .i64 0) := (blk_cell BK17006.out 1).trans rfl; have hfz12_0 := blk_frozen BK17006.out 0; have hfz12_1 := blk_frozen BK17006.out 1))
              go_roundg k1
              case measure => have := HK1.out; omega
              case rel => exact ⟨(wrap64 (x5_1 + (wrap64 (((rd_T35 t17002 x16_1).f1) - ((rd_T35 t17002 x16_1).f0))))), (wrap64 (x16_1 + 1)), (by first | rfl | (simp; done) | (simp [*]; done)), (by first | rfl | (simp; done) | (simp [*]; done)), H', ⟨by have := HK1.out; omega⟩, ⟨by (with_reducible repeat (first | apply Kd.R_alloc | apply Kd.R_drewN | apply Kd.R_drew)); exact Kd.R_mono (Kd.R_far (p := ⟨gb17006, 1, none⟩) (Kd.R_far (p := ⟨gb17006, 0, none⟩) (Kd.R_mono HO_14.out (fun k_ hk => (⟨hk, hk.2⟩ : _ ∧ k_ ≠ gb17006))) (fun _ hk => hk.2) (.int .i64 ((rd_T35 t17002 x16_1).f0))) (fun _ hk => hk.2) (.int .i64 ((rd_T35 t17002 x16_1).f1))) (fun _ hk => trivial)⟩, ⟨by repeat (first | (with_reducible first | exact HB.out | apply below_alloc | apply pw_below_drewN | apply below_drew1 | refine below_set ?_ GE17006.out) | exact HB.out)⟩⟩
            · rw [if_neg c10] at H
              exact absurd H (by simp)
          · rw [if_neg c9] at H
            exact absurd H (by simp)
        · rw [if_neg c8] at H
          have c8b0 : decide (x16_1 < (t17002.length : Int)) = false := decide_eq_false c8
          clear c8
          simp only [Option.some.injEq, Prod.mk.injEq] at H
          obtain ⟨rfl, rfl⟩ := H
          go_wp2
          go_ret2
          exact ⟨by first | rfl | (simp [errW_none, errW_some] <;> rfl) | (simp [*, errW_none, errW_some] <;> rfl), by repeat (first | (with_reducible first | exact HB.out | apply below_alloc | apply pw_below_drewN | apply below_drew1) | exact HB.out)⟩
  · rw [if_neg c3] at H
    have c3b0 : (t17001 == 0) = false := beq_eq_false_iff_ne.mpr c3
    have c3b1 : (t17001 != 0) = true := bne_iff_ne.mpr c3
    simp only [Option.some.injEq, Prod.mk.injEq] at H
    obtain ⟨rfl, rfl⟩ := H
    go_enter Try.func16, Try.ntmps16
    go_wp2_with (first | ((with_reducible refine gate_callee (f := 27) rfl ?_); refine goesL_ (some 9) rfl rfl Try.func27 (by kernel_rfl) rfl #[.slice A0 l0.length c0] rfl (by (try simp only [List.map_toArray, List.map_cons, List.map_nil]); first | done | rfl | (simp only [List.length_drop, List.length_take]; rfl)) ?_; (with_reducible refine (span_Check.calls k _ _ l0 t17001 _ ?side1 ?side2 A2.out).mono ?_); (case side1 => repeat (first | exact HR0.out | (with_reducible refine Kd.C_alloc ?_ _) | (with_reducible refine Kd.C_drewN ?_ _) | (with_reducible refine Kd.C_drew ?_))); (case side2 => exact HC0.out); rintro e w13 ⟨rfl, hb⟩; refine ⟨_, rfl, ?_⟩; have n0_ := Aside0.mk (below_step (by repeat (first | (with_reducible first | exact HB.out | apply below_alloc | apply pw_below_drewN | apply below_drew1) | exact HB.out)) hb); clear HB; have HB := n0_; clear n0_; (try clear hb); (try clear hb2); (try clear hk); (try clear hi)))
    go_ret2
    exact ⟨by first | rfl | (simp [errW_none, errW_some] <;> rfl) | (simp [*, errW_none, errW_some] <;> rfl), by repeat (first | (with_reducible first | exact HB.out | apply below_alloc | apply pw_below_drewN | apply below_drew1) | exact HB.out)⟩

end Go.Proofs.Ytlfcaoniclnimaa.G

namespace Go.Proofs.Ytlfcaoniclnimaa.G
open Go.RowKit Go.Proofs.YtlfcaoniclnimaaW.PrintWords Go.Proofs.YtlfcaoniclnimaaW.PrintLast Go.Proofs.YtlfcaoniclnimaaW.PrintMore
attribute [local go_sem] max2_int min2_int max_two min_two max_three min_three max_four min_four   -- for this text's walks alone
set_option linter.unusedVariables false
set_option linter.unusedSimpArgs false

/-! ### papermillref04_Total: function 17 -/
def papermillref04_Total.l0 : Nat → List (S35) → Int → Int → Int → Option (Int × Int)
  | 0, _, _, _, _ => none
  | k + 1, x4, x5, x6, x7 => if x7 < (x4.length : Int) then (if 0 ≤ x7 then (papermillref04_Total.l0 k x4 x5 (wrap64 ((wrap64 (x6 + ((rd_T35 x4 x7).f1))) - ((rd_T35 x4 x7).f0))) (wrap64 (x7 + 1))) else (none)) else (some (x6, x5))
def papermillref04_Total.f (k : Nat) (l0 : List (S35)) : Option (Int × Int) := (papermillref04_Norm.f k l0).bind fun bt18001 => (papermillref04_Total.l0 k bt18001.1 bt18001.2 0 0)
theorem papermillref04_Total.mono_l : ∀ k, (∀ y0 y1 y2 y3, LeO (papermillref04_Total.l0 k y0 y1 y2 y3) (papermillref04_Total.l0 (k + 1) y0 y1 y2 y3))
  | 0 => fun _ _ _ _ r h => by simp [papermillref04_Total.l0] at h
  | k + 1 => by
    have ih0 := papermillref04_Total.mono_l k
    · intro y0 y1 y2 y3
      unfold papermillref04_Total.l0
      repeat' first
      | (with_reducible exact ih0 _ _ _ _)
      | (with_reducible exact papermillref04_Norm.mono _ _)
      | (with_reducible exact LeO.refl _)
      | (with_reducible exact LeO.none _)
      | (with_reducible refine LeO.ite ?_ ?_)
      | (with_reducible refine LeO.bind ?_ (fun _ => ?_))
      | exact ih0 _ _ _ _
      | exact papermillref04_Norm.mono _ _
      | exact LeO.none _
      | refine LeO.ite ?_ ?_
      | refine LeO.bind ?_ (fun _ => ?_)
theorem papermillref04_Total.mono : ∀ a0 k, LeO (papermillref04_Total.f k a0) (papermillref04_Total.f (k + 1) a0) := by
  intro a0 k
  have ih0 := papermillref04_Total.mono_l k
  unfold papermillref04_Total.f
  repeat' first
      | (with_reducible exact ih0 _ _ _ _)
      | (with_reducible exact papermillref04_Norm.mono _ _)
      | (with_reducible exact LeO.refl _)
      | (with_reducible exact LeO.none _)
      | (with_reducible refine LeO.ite ?_ ?_)
      | (with_reducible refine LeO.bind ?_ (fun _ => ?_))
      | exact ih0 _ _ _ _
      | exact papermillref04_Norm.mono _ _
      | exact LeO.none _
      | refine LeO.ite ?_ ?_
      | refine LeO.bind ?_ (fun _ => ?_)
set_option maxHeartbeats 8000000 in
set_option maxRecDepth 100000 in
theorem papermillref04_Total.calls (k : Nat) (A0 : Option Addr) (c0 : Nat) (l0 : List (S35)) (r1 : Int) (r2 : Int) (w : World) (hr0 : Kd.C k35 w A0 l0.length l0) (hc0 : l0.length ≤ c0) (h : papermillref04_Total.f k l0 = some (r1, r2)) :
    Calls Try.prog 17 #[.slice A0 l0.length c0] w fun e w' => e = .returned (.tuple #[.int .i64 r1, .int .i64 r2]) ∧ Below w.heap.size w w' := by
  have HR0 := Aside0.mk hr0
  have HC0 := Aside0.mk hc0
  clear hr0 hc0
  have HB := Aside0.mk (Below.refl w.heap.size w)
  have H : ((papermillref04_Norm.f k l0).bind fun bt18001 => (papermillref04_Total.l0 k bt18001.1 bt18001.2 0 0)) = some (r1, r2) := h
  clear h
  replace H := Option.bind_eq_some_iff.mp H
  obtain ⟨⟨t18001, t18002⟩, A20, H⟩ := H
  replace H : (papermillref04_Total.l0 k t18001 t18002 0 0) = some (r1, r2) := H
  have A2 := Aside0.mk A20
  clear A20
  have H' := Aside0.mk H
  clear H
  go_enter Try.func17, Try.ntmps17
  go_wp2_with (first | (go_at_call 15; (with_reducible refine (papermillref04_Norm.calls k _ _ l0 t18001 t18002 _ ?side1 ?side2 A2.out).mono ?_); (case side1 => repeat (first | exact HR0.out | (with_reducible refine Kd.C_alloc ?_ _) | (with_reducible refine Kd.C_drewN ?_ _) | (with_reducible refine Kd.C_drew ?_))); (case side2 => exact HC0.out); rintro e w3 ⟨v18003, rfl, ho0, hb⟩; have n0_ := Aside0.mk (Kd.R_lower ho0 (below_size (by repeat (first | (with_reducible first | exact HB.out | apply below_alloc | apply pw_below_drewN | apply below_drew1) | exact HB.out)))); have n1_ := Aside0.mk (below_step (by repeat (first | (with_reducible first | exact HB.out | apply below_alloc | apply pw_below_drewN | apply below_drew1) | exact HB.out)) hb); clear HB; have HO18004 := n0_; have HB := n1_; clear n0_ n1_; (try clear hb); (try clear hb2); (try clear hk); (try clear hi); (try clear ho0)))
  repeat (go_quiet (first | (go_at_call 15; (with_reducible refine (papermillref04_Norm.calls k _ _ l0 t18001 t18002 _ ?side1 ?side2 A2.out).mono ?_); (case side1 => repeat (first | exact HR0.out | (with_reducible refine Kd.C_alloc ?_ _) | (with_reducible refine Kd.C_drewN ?_ _) | (with_reducible refine Kd.C_drew ?_))); (case side2 => exact HC0.out); rintro e w3 ⟨v18003, rfl, ho0, hb⟩; have n0_ := Aside0.mk (Kd.R_lower ho0 (below_size (by repeat (first | (with_reducible first | exact HB.out | apply below_alloc | apply pw_below_drewN | apply below_drew1) | exact HB.out)))); have n1_ := Aside0.mk (below_step (by repeat (first | (with_reducible first | exact HB.out | apply below_alloc | apply pw_below_drewN | apply below_drew1) | exact HB.out)) hb); clear HB; have HO18004 := n0_; have HB := n1_; clear n0_ n1_; (try clear hb); (try clear hb2); (try clear hk); (try clear hi); (try clear ho0))); try go_wp2_with (first | (go_at_call 15; (with_reducible refine (papermillref04_Norm.calls k _ _ l0 t18001 t18002 _ ?side1 ?side2 A2.out).mono ?_); (case side1 => repeat (first | exact HR0.out | (with_reducible refine Kd.C_alloc ?_ _) | (with_reducible refine Kd.C_drewN ?_ _) | (with_reducible refine Kd.C_drew ?_))); (case side2 => exact HC0.out); rintro e w3 ⟨v18003, rfl, ho0, hb⟩; have n0_ := Aside0.mk (Kd.R_lower ho0 (below_size (by repeat (first | (with_reducible first | exact HB.out | apply below_alloc | apply pw_below_drewN | apply below_drew1) | exact HB.out)))); have n1_ := Aside0.mk (below_step (by repeat (first | (with_reducible first | exact HB.out | apply below_alloc | apply pw_below_drewN | apply below_drew1) | exact HB.out)) hb); clear HB; have HO18004 := n0_; have HB := n1_; clear n0_ n1_; (try clear hb); (try clear hb2); (try clear hk); (try clear hi); (try clear ho0))))
  go_loopg [6, 7] k (fun kq v6 v7 w' => ∃ (x6_1 : Int) (x7_1 : Int), v6 = .int .i64 x6_1 ∧ v7 = .int .i64 x7_1 ∧ Aside0 (papermillref04_Total.l0 kq t18001 t18002 x6_1 x7_1 = some (r1, r2)) ∧ Aside0 (kq ≤ k) ∧ Aside0 (Kd.R k35 35 w' w.heap.size (fun _ => True) v18003 t18001) ∧ Aside0 (Below w.heap.size w w'))
  case atStart => exact ⟨(0), (0), (by first | rfl | (simp; done) | (simp [*]; done)), (by first | rfl | (simp; done) | (simp [*]; done)), H', ⟨Nat.le_refl _⟩, ⟨by (with_reducible repeat (first | apply Kd.R_alloc | apply Kd.R_drewN | apply Kd.R_drew)); exact HO18004.out⟩, ⟨by repeat (first | (with_reducible first | exact HB.out | apply below_alloc | apply pw_below_drewN | apply below_drew1) | exact HB.out)⟩⟩
  case round =>
    clear H'
    try clear c1
    try clear p2
    obtain ⟨x6_1, x7_1, rfl, rfl, HA, HK1, HO_4, HB⟩ := hrel
    cases gk with
    | zero => exact absurd HA.out (by simp [papermillref04_Total.l0])
    | succ k1 =>
      have H := HA.out
      clear HA
      simp only [papermillref04_Total.l0] at H
      by_cases c4 : x7_1 < (t18001.length : Int)
      · rw [if_pos c4] at H
        have c4b0 : decide (x7_1 < (t18001.length : Int)) = true := decide_eq_true c4
        clear c4
        by_cases c5 : 0 ≤ x7_1
        · rw [if_pos c5] at H
          have c5b0 : decide (0 ≤ x7_1) = true := decide_eq_true c5
          clear c5
          have H' := Aside0.mk H
          clear H
          obtain ⟨Ao6, co6, eo6⟩ := Kd.R_slice HO_4.out
          subst eo6
          have p18005 : 0 ≤ (x7_1 : Int) := of_decide_eq_true (by first | (with_reducible assumption) | assumption)
          have q18005 : x7_1 < (t18001.length : Int) := of_decide_eq_true (by first | (with_reducible assumption) | assumption)
          obtain ⟨ad18005, e18005, hx18005_0, hx18005_1⟩ := at_T35 (Kd.R_reads' HO_4.out).2.2 x7_1 p18005 q18005
          cases e18005
          replace p18005 := eq_true p18005
          replace q18005 := eq_true q18005
          have p18006 : 0 ≤ (x7_1 : Int) := of_decide_eq_true (by first | (with_reducible assumption) | assumption)
          have q18006 : x7_1 < (t18001.length : Int) := of_decide_eq_true (by first | (with_reducible assumption) | assumption)
          obtain ⟨ad18006, e18006, hx18006_0, hx18006_1⟩ := at_T35 (Kd.R_reads' HO_4.out).2.2 x7_1 p18006 q18006
          obtain rfl : ad18005 = ad18006 := (by injection e18006)
          replace p18006 := eq_true p18006
          replace q18006 := eq_true q18006
          go_wp2
          repeat (go_quiet (fail); try go_wp2)
          go_roundg k1
          case measure => have := HK1.out; omega
          case rel => exact ⟨(wrap64 ((wrap64 (x6_1 + ((rd_T35 t18001 x7_1).f1))) - ((rd_T35 t18001 x7_1).f0))), (wrap64 (x7_1 + 1)), (by first | rfl | (simp; done) | (simp [*]; done)), (by first | rfl | (simp; done) | (simp [*]; done)), H', ⟨by have := HK1.out; omega⟩, ⟨by (with_reducible repeat (first | apply Kd.R_alloc | apply Kd.R_drewN | apply Kd.R_drew)); exact HO_4.out⟩, ⟨by repeat (first | (with_reducible first | exact HB.out | apply below_alloc | apply pw_below_drewN | apply below_drew1) | exact HB.out)⟩⟩
        · rw [if_neg c5] at H
          exact absurd H (by simp)
      · rw [if_neg c4] at H
        have c4b0 : decide (x7_1 < (t18001.length : Int)) = false := decide_eq_false c4
        clear c4
        simp only [Option.some.injEq, Prod.mk.injEq] at H
        obtain ⟨rfl, rfl⟩ := H
        obtain ⟨Ao7, co7, eo7⟩ := Kd.R_slice HO_4.out
        subst eo7
        go_wp2
        repeat (go_quiet (fail); try go_wp2)
        go_ret2
        exact ⟨by first | rfl | (simp [errW_none, errW_some] <;> rfl) | (simp [*, errW_none, errW_some] <;> rfl), by repeat (first | (with_reducible first | exact HB.out | apply below_alloc | apply pw_below_drewN | apply below_drew1) | exact HB.out)⟩

end Go.Proofs.Ytlfcaoniclnimaa.G

namespace Go.Proofs.Ytlfcaoniclnimaa.G
open Go.RowKit Go.Proofs.YtlfcaoniclnimaaW.PrintWords Go.Proofs.YtlfcaoniclnimaaW.PrintLast Go.Proofs.YtlfcaoniclnimaaW.PrintMore
attribute [local go_sem] max2_int min2_int max_two min_two max_three min_three max_four min_four   -- for this text's walks alone
set_option linter.unusedVariables false
set_option linter.unusedSimpArgs false

attribute [local go_sem high] eqA35
/-! ### papermillref04_Same: function 18 -/
def papermillref04_Same.l0 : Nat → List (S35) → List (S35) → Int → Option (Bool)
  | 0, _, _, _ => none
  | k + 1, x0, x1, x5 => if x5 < (x0.length : Int) then (if 0 ≤ x5 then (if x5 < (x1.length : Int) then (if (!(((rd_T35 x0 x5).f0) == ((rd_T35 x1 x5).f0)) || (!(((rd_T35 x0 x5).f1) == ((rd_T35 x1 x5).f1)))) = true then (some false) else (papermillref04_Same.l0 k x0 x1 (wrap64 (x5 + 1)))) else (none)) else (none)) else (some true)
def papermillref04_Same.f (k : Nat) (l0 : List (S35)) (l1 : List (S35)) : Option (Bool) := if (l0.length : Int) = (l1.length : Int) then (papermillref04_Same.l0 k l0 l1 0) else (some false)
theorem papermillref04_Same.mono_l : ∀ k, (∀ y0 y1 y2, LeO (papermillref04_Same.l0 k y0 y1 y2) (papermillref04_Same.l0 (k + 1) y0 y1 y2))
  | 0 => fun _ _ _ r h => by simp [papermillref04_Same.l0] at h
  | k + 1 => by
    have ih0 := papermillref04_Same.mono_l k
    · intro y0 y1 y2
      unfold papermillref04_Same.l0
      repeat' first
      | (with_reducible exact ih0 _ _ _)
      | (with_reducible exact LeO.refl _)
      | (with_reducible exact LeO.none _)
      | (with_reducible refine LeO.ite ?_ ?_)
      | (with_reducible refine LeO.bind ?_ (fun _ => ?_))
      | exact ih0 _ _ _
      | exact LeO.none _
      | refine LeO.ite ?_ ?_
      | refine LeO.bind ?_ (fun _ => ?_)
theorem papermillref04_Same.mono : ∀ a0 a1 k, LeO (papermillref04_Same.f k a0 a1) (papermillref04_Same.f (k + 1) a0 a1) := by
  intro a0 a1 k
  have ih0 := papermillref04_Same.mono_l k
  unfold papermillref04_Same.f
  repeat' first
      | (with_reducible exact ih0 _ _ _)
      | (with_reducible exact LeO.refl _)
      | (with_reducible exact LeO.none _)
      | (with_reducible refine LeO.ite ?_ ?_)
      | (with_reducible refine LeO.bind ?_ (fun _ => ?_))
      | exact ih0 _ _ _
      | exact LeO.none _
      | refine LeO.ite ?_ ?_
      | refine LeO.bind ?_ (fun _ => ?_)
set_option maxHeartbeats 8000000 in
set_option maxRecDepth 100000 in
theorem papermillref04_Same.calls (k : Nat) (A0 : Option Addr) (c0 : Nat) (l0 : List (S35)) (A1 : Option Addr) (c1 : Nat) (l1 : List (S35)) (r : Bool) (w : World) (hr0 : Kd.C k35 w A0 l0.length l0) (hc0 : l0.length ≤ c0) (hr1 : Kd.C k35 w A1 l1.length l1) (hc1 : l1.length ≤ c1) (h : papermillref04_Same.f k l0 l1 = some r) :
    Calls Try.prog 18 #[.slice A0 l0.length c0, .slice A1 l1.length c1] w fun e w' => e = .returned (.bool r) ∧ Drawn0 w w' := by
  have hu35 := Try.underlying35
  have HR0 := Aside0.mk hr0
  have HC0 := Aside0.mk hc0
  clear hr0 hc0
  have HR1 := Aside0.mk hr1
  have HC1 := Aside0.mk hc1
  clear hr1 hc1
  have H : (if (l0.length : Int) = (l1.length : Int) then (papermillref04_Same.l0 k l0 l1 0) else (some false)) = some r := h
  clear h
  by_cases c3 : (l0.length : Int) = (l1.length : Int)
  · rw [if_pos c3] at H
    have c3b0 : ((l0.length : Int) == (l1.length : Int)) = true := beq_iff_eq.mpr c3
    have c3b1 : ((l0.length : Int) != (l1.length : Int)) = false := bne_eq_false_iff_eq.mpr c3
    have c3b2 : (l0.length == l1.length) = true := by first | simpa using c3 | (simp at c3 ⊢; omega)
    clear c3
    have H' := Aside0.mk H
    clear H
    go_enter Try.func18, Try.ntmps18
    go_wp2
    repeat (go_quiet (fail); try go_wp2)
    go_loopg [5] k (fun kq v5 w' => ∃ (x5_1 : Int), v5 = .int .i64 x5_1 ∧ Aside0 (papermillref04_Same.l0 kq l0 l1 x5_1 = some r) ∧ Aside0 (kq ≤ k) ∧ Drawn0 w w')
    case atStart => exact ⟨(0), (by first | rfl | (simp; done) | (simp [*]; done)), H', ⟨Nat.le_refl _⟩, by repeat (first | exact Drawn0.refl _ | apply Drawn0.step)⟩
    case round =>
      clear H'
      try clear c1
      try clear p2
      try clear c3
      try clear c3b0
      try clear c3b1
      try clear c3b2
      obtain ⟨x5_1, rfl, HA, HK1, ⟨m1, rfl⟩⟩ := hrel
      cases gk with
      | zero => exact absurd HA.out (by simp [papermillref04_Same.l0])
      | succ k1 =>
        have H := HA.out
        clear HA
        simp only [papermillref04_Same.l0] at H
        by_cases c4 : x5_1 < (l0.length : Int)
        · rw [if_pos c4] at H
          have c4b0 : decide (x5_1 < (l0.length : Int)) = true := decide_eq_true c4
          clear c4
          by_cases c5 : 0 ≤ x5_1
          · rw [if_pos c5] at H
            have c5b0 : decide (0 ≤ x5_1) = true := decide_eq_true c5
            clear c5
            by_cases c6 : x5_1 < (l1.length : Int)
            · rw [if_pos c6] at H
              have c6b0 : decide (x5_1 < (l1.length : Int)) = true := decide_eq_true c6
              clear c6
              by_cases c7 : (!(((rd_T35 l0 x5_1).f0) == ((rd_T35 l1 x5_1).f0)) || (!(((rd_T35 l0 x5_1).f1) == ((rd_T35 l1 x5_1).f1)))) = true
              · rw [if_pos c7] at H
                have c7b0 : (!(((rd_T35 l0 x5_1).f0) == ((rd_T35 l1 x5_1).f0)) || (!(((rd_T35 l0 x5_1).f1) == ((rd_T35 l1 x5_1).f1)))) = true := c7
                clear c7
                obtain rfl := Option.some.inj H
                have p19001 : 0 ≤ (x5_1 : Int) := of_decide_eq_true (by first | (with_reducible assumption) | assumption)
                have q19001 : x5_1 < (l0.length : Int) := of_decide_eq_true (by first | (with_reducible assumption) | assumption)
                obtain ⟨ad19001, e19001, hx19001_0, hx19001_1⟩ := at_T35 HR0.out x5_1 p19001 q19001
                cases e19001
                replace p19001 := eq_true p19001
                replace q19001 := eq_true q19001
                have p19002 : 0 ≤ (x5_1 : Int) := of_decide_eq_true (by first | (with_reducible assumption) | assumption)
                have q19002 : x5_1 < (l1.length : Int) := of_decide_eq_true (by first | (with_reducible assumption) | assumption)
                obtain ⟨ad19002, e19002, hx19002_0, hx19002_1⟩ := at_T35 HR1.out x5_1 p19002 q19002
                cases e19002
                replace p19002 := eq_true p19002
                replace q19002 := eq_true q19002
                go_wp2
                repeat (go_quiet (fail); try go_wp2)
                go_ret
                exact ⟨by first | rfl | (simp; done) | (simp [*]; done), by repeat (first | exact Drawn0.refl _ | apply Drawn0.step)⟩
              · rw [if_neg c7] at H
                have c7b0 : (!(((rd_T35 l0 x5_1).f0) == ((rd_T35 l1 x5_1).f0)) || (!(((rd_T35 l0 x5_1).f1) == ((rd_T35 l1 x5_1).f1)))) = false := by simpa using c7
                clear c7
                have H' := Aside0.mk H
                clear H
                have p19001 : 0 ≤ (x5_1 : Int) := of_decide_eq_true (by first | (with_reducible assumption) | assumption)
                have q19001 : x5_1 < (l0.length : Int) := of_decide_eq_true (by first | (with_reducible assumption) | assumption)
                obtain ⟨ad19001, e19001, hx19001_0, hx19001_1⟩ := at_T35 HR0.out x5_1 p19001 q19001
                cases e19001
                replace p19001 := eq_true p19001
                replace q19001 := eq_true q19001
                have p19002 : 0 ≤ (x5_1 : Int) := of_decide_eq_true (by first | (with_reducible assumption) | assumption)
                have q19002 : x5_1 < (l1.length : Int) := of_decide_eq_true (by first | (with_reducible assumption) | assumption)
                obtain ⟨ad19002, e19002, hx19002_0, hx19002_1⟩ := at_T35 HR1.out x5_1 p19002 q19002
                cases e19002
                replace p19002 := eq_true p19002
                replace q19002 := eq_true q19002
                go_wp2
                repeat (go_quiet (fail); try go_wp2)
                go_roundg k1
                case measure => have := HK1.out; omega
                case rel => exact ⟨(wrap64 (x5_1 + 1)), (by first | rfl | (simp; done) | (simp [*]; done)), H', ⟨by have := HK1.out; omega⟩, by repeat (first | exact Drawn0.refl _ | apply Drawn0.step)⟩
            · rw [if_neg c6] at H
              exact absurd H (by simp)
          · rw [if_neg c5] at H
            exact absurd H (by simp)
        · rw [if_neg c4] at H
          have c4b0 : decide (x5_1 < (l0.length : Int)) = false := decide_eq_false c4
          clear c4
          obtain rfl := Option.some.inj H
          go_wp2
          repeat (go_quiet (fail); try go_wp2)
          go_ret
          exact ⟨by first | rfl | (simp; done) | (simp [*]; done), by repeat (first | exact Drawn0.refl _ | apply Drawn0.step)⟩
  · rw [if_neg c3] at H
    have c3b0 : ((l0.length : Int) == (l1.length : Int)) = false := beq_eq_false_iff_ne.mpr c3
    have c3b1 : ((l0.length : Int) != (l1.length : Int)) = true := bne_iff_ne.mpr c3
    have c3b2 : (l0.length == l1.length) = false := by first | simpa using c3 | (simp at c3 ⊢; omega)
    obtain rfl := Option.some.inj H
    go_enter Try.func18, Try.ntmps18
    go_wp2
    repeat (go_quiet (fail); try go_wp2)
    go_ret
    exact ⟨by first | rfl | (simp; done) | (simp [*]; done), by repeat (first | exact Drawn0.refl _ | apply Drawn0.step)⟩

end Go.Proofs.Ytlfcaoniclnimaa.G

namespace Go.Proofs.Ytlfcaoniclnimaa.G
open Go.RowKit Go.Proofs.YtlfcaoniclnimaaW.PrintWords Go.Proofs.YtlfcaoniclnimaaW.PrintLast Go.Proofs.YtlfcaoniclnimaaW.PrintMore
set_option linter.unusedVariables false
set_option linter.unusedSimpArgs false
theorem flat_get {α : Type} (enc : α → List Value) (sz : Nat) (hs : ∀ x, (enc x).length = sz) : ∀ (xs : List α) (j i : Nat) (p : α), xs[j]? = some p → i < sz → (xs.flatMap enc)[j * sz + i]? = (enc p)[i]?
  | [], j, i, p, h, _ => by simp at h
  | x :: xs, 0, i, p, h, hi => by
    simp at h; subst h
    rw [List.flatMap_cons, Nat.zero_mul, Nat.zero_add, List.getElem?_append_left (by rw [hs]; exact hi)]
  | x :: xs, j + 1, i, p, h, hi => by
    rw [List.flatMap_cons, List.getElem?_append_right (by rw [hs, Nat.add_mul]; omega), hs, show (j + 1) * sz + i - sz = j * sz + i by rw [Nat.add_mul]; omega]
    exact flat_get enc sz hs xs j i p (by simpa using h) hi
/-- A block that was just laid, as a slice that is read. -/
theorem C_block {α : Type} (d : Kd α) {W : World} {g e : Nat} {cells : Array Value} (xs : List α) (enc : α → List Value) (hK : ∀ x, d.K W x (enc x)) (hb : W.heap[g]? = some (.cells cells e (0, 0))) (hc : cells.toList = xs.flatMap enc) (hl : xs.length ≤ 9223372036854775807) :
    Kd.C d W (some ⟨g, 0, none⟩) xs.length xs :=
  ⟨rfl, hl, fun _ => ⟨_, rfl, fun j p hj => ⟨enc p, d.K_len (hK p), hK p, fun i u hu => by
    rw [add_plain, blk_cell hb]
    have hi : i < d.sz := by rw [← d.K_len (hK p)]; exact (List.getElem?_eq_some_iff.1 hu).1
    have := flat_get enc d.sz (fun x => d.K_len (hK x)) xs j i p hj hi
    rw [← hc, Array.getElem?_toList] at this
    rw [this]; exact hu⟩⟩⟩
theorem CI_block {W : World} {g : Nat} {cells : Array Value} (xs : List Int) (hb : W.heap[g]? = some (.cells cells 3 (0, 0))) (hc : cells.toList = xs.flatMap fun x => [.int .i64 x]) (hl : xs.length ≤ 1000) : Kd.C (Kd.int .i64) W (some ⟨g, 0, none⟩) xs.length xs :=
  C_block (Kd.int .i64) xs _ (fun x => rfl) hb hc (by omega)
end Go.Proofs.Ytlfcaoniclnimaa.G

namespace Go.Proofs.Ytlfcaoniclnimaa.G
open Go.RowKit Go.Proofs.YtlfcaoniclnimaaW.PrintWords Go.Proofs.YtlfcaoniclnimaaW.PrintLast Go.Proofs.YtlfcaoniclnimaaW.PrintMore
set_option linter.unusedVariables false
set_option linter.unusedSimpArgs false
theorem C35_block {W : World} {g : Nat} {cells : Array Value} (xs : List S35) (hb : W.heap[g]? = some (.cells cells 35 (0, 0))) (hc : cells.toList = xs.flatMap fun x => [.int .i64 x.f0, .int .i64 x.f1]) (hl : xs.length ≤ 1000) : Kd.C k35 W (some ⟨g, 0, none⟩) xs.length xs :=
  C_block k35 xs _ (fun x => k35_mk W x) hb hc (by omega)
end Go.Proofs.Ytlfcaoniclnimaa.G

namespace Go.Proofs.Ytlfcaoniclnimaa.G
open Go.RowKit Go.Proofs.YtlfcaoniclnimaaW.PrintWords Go.Proofs.YtlfcaoniclnimaaW.PrintLast Go.Proofs.YtlfcaoniclnimaaW.PrintMore
set_option linter.unusedVariables false
set_option linter.unusedSimpArgs false
/-- From some number of rounds on, the answer is r. -/
def Ends {α : Type} (g : Nat → Option α) (r : α) : Prop := ∃ n, ∀ k, n ≤ k → g k = some r
theorem Ends.const {α : Type} {a : Option α} {r : α} (h : a = some r) : Ends (fun _ => a) r := ⟨0, fun _ _ => h⟩
theorem Ends.ret {α : Type} (r : α) : Ends (fun _ => some r) r := ⟨0, fun _ _ => rfl⟩
theorem Ends.bind {α β : Type} {g : Nat → Option α} {f : Nat → α → Option β} {r : α} {q : β} (h : Ends g r) (k : Ends (fun k => f k r) q) : Ends (fun k => (g k).bind (f k)) q := by
  obtain ⟨n, h⟩ := h
  obtain ⟨m, k⟩ := k
  exact ⟨n + m, fun j hj => by show (g j).bind (f j) = _; rw [h j (by omega)]; exact k j (by omega)⟩
theorem Ends.pos {α : Type} {c : Prop} [Decidable c] {a b : Nat → Option α} {r : α} (hc : c) (h : Ends a r) : Ends (fun k => if c then a k else b k) r := by simpa only [if_pos hc] using h
theorem Ends.neg {α : Type} {c : Prop} [Decidable c] {a b : Nat → Option α} {r : α} (hc : ¬ c) (h : Ends b r) : Ends (fun k => if c then a k else b k) r := by simpa only [if_neg hc] using h
theorem Ends.succ {α : Type} {g : Nat → Option α} {r : α} (h : Ends (fun k => g (k + 1)) r) : Ends g r := by
  obtain ⟨n, h⟩ := h
  exact ⟨n + 1, fun k hk => by obtain ⟨j, rfl⟩ : ∃ j, k = j + 1 := ⟨k - 1, by omega⟩; exact h j (by omega)⟩
theorem Ends.get {α : Type} {g : Nat → Option α} {r : α} (h : Ends g r) : ∃ k, g k = some r := by obtain ⟨n, h⟩ := h; exact ⟨n, h n (Nat.le_refl _)⟩
theorem wrap_nat (i : Nat) (h : i < 4000000000000000000) : wrap64 ((i : Int) + 1) = ((i + 1 : Nat) : Int) := by unfold wrap64; omega
theorem wrap_pred (i : Nat) (h : i < 4000000000000000000) (h1 : 1 ≤ i) : wrap64 ((i : Int) - 1) = ((i - 1 : Nat) : Int) := by unfold wrap64; omega
theorem rdI (l : List Int) (i : Nat) (h : i < l.length) : rd l i = l[i] := by simp [rd, List.getD_eq_getElem?_getD, List.getElem?_eq_getElem h]
theorem Ends.at_ {α : Type} {g : Nat → Option α} {r : α} {k : Nat} (hg : ∀ k, LeO (g k) (g (k + 1))) (h : g k = some r) : Ends g r := ⟨k, fun j hj => at_rounds hg hj h⟩
theorem Ends.uniq {α : Type} {g : Nat → Option α} {r q : α} (h : Ends g r) (h2 : Ends g q) : r = q := by
  obtain ⟨n, h⟩ := h
  obtain ⟨m, h2⟩ := h2
  have e1 := h (n + m) (by omega)
  have e2 := h2 (n + m) (by omega)
  exact Option.some.inj (e1.symm.trans e2)
theorem Ends.congr {α : Type} {g : Nat → Option α} {r q : α} (h : Ends g r) (e : r = q) : Ends g q := e ▸ h
end Go.Proofs.Ytlfcaoniclnimaa.G

namespace Go.Proofs.Ytlfcaoniclnimaa.G
open Go.RowKit Go.Proofs.YtlfcaoniclnimaaW.PrintWords Go.Proofs.YtlfcaoniclnimaaW.PrintLast Go.Proofs.YtlfcaoniclnimaaW.PrintMore
set_option linter.unusedVariables false
set_option linter.unusedSimpArgs false
/-! ### the reference of layer 4: what its functions answer -/
theorem rd36 (l : List S35) (i : Nat) (h : i < l.length) : rd_T35 l i = l[i] := by simp [rd_T35, List.getD_eq_getElem?_getD, List.getElem?_eq_getElem h]
theorem drop36 (l : List S35) (i : Nat) (h : i < l.length) : l.drop i = rd_T35 l i :: l.drop (i + 1) := by rw [rd36 l i h]; exact List.drop_eq_getElem_cons h
theorem dropI (l : List Int) (i : Nat) (h : i < l.length) : l.drop i = rd l i :: l.drop (i + 1) := by rw [rdI l i h]; exact List.drop_eq_getElem_cons h

theorem with_l0 (l : List Int) (n : Int) (hl : l.length < 1000000) : ∀ (d i : Nat), l.length - i = d → i ≤ l.length → Ends (fun k => papermillref04_with.l0 k l n (i : Int)) (l.take i ++ withOf (l.drop i) n) := by
  intro d
  induction d with
  | zero =>
    intro i hd hi
    rw [List.drop_of_length_le (by omega)]
    refine Ends.succ ?_
    simp only [papermillref04_with.l0, Option.bind_some, Int.toNat_natCast, List.nil_append]
    refine Ends.neg (by omega) (Ends.pos (by omega) (Ends.pos (by omega) (Ends.pos (by simp only [List.length_nil, List.length_take]; omega) (Ends.pos (by simp only [List.length_append, List.length_take]; omega) (Ends.pos (by simp only [List.length_append, List.length_take, List.length_drop, List.length_cons, List.length_nil]; omega) ?_)))))
    rw [List.drop_of_length_le (l := l) (i := i) (by omega)]
    simpa [withOf] using Ends.ret _
  | succ d ih =>
    intro i hd hi
    have hlen := List.length_drop (i := i) (l := l)
    rw [dropI l i (by omega)] at hlen
    rw [dropI l i (by omega)]
    refine Ends.succ ?_
    simp only [papermillref04_with.l0, Option.bind_some, Int.toNat_natCast, List.nil_append, wrap_nat i (by omega)]
    refine Ends.pos (by omega) (Ends.pos (by omega) ?_)
    by_cases h1 : rd l i < n
    · refine Ends.pos h1 ?_
      have := ih (i + 1) (by omega) (by omega)
      rw [List.take_succ_eq_append_getElem (by omega), ← rdI l i (by omega)] at this
      simpa [withOf, h1] using this
    · refine Ends.neg h1 ?_
      by_cases h2 : rd l i = n
      · refine Ends.pos h2 ?_
        have e : l.take i ++ withOf (rd l i :: l.drop (i + 1)) n = l := by
          rw [withOf, if_neg h1, if_pos h2, ← dropI l i (by omega), List.take_append_drop]
        rw [e]; exact Ends.ret _
      · refine Ends.neg h2 (Ends.pos (by omega) (Ends.pos (by simp only [List.length_nil, List.length_take]; omega) (Ends.pos (by simp only [List.length_take]; omega) (Ends.pos (by simp only [List.length_append, List.length_take, List.length_drop, List.length_cons, List.length_nil]; omega) ?_))))
        rw [withOf, if_neg h1, if_neg h2, ← dropI l i (by omega)]
        simpa using Ends.ret _
theorem with_ends (l : List Int) (n : Int) (hl : l.length < 1000000) : Ends (fun k => papermillref04_with.f k l n) (withOf l n) := by
  simpa [papermillref04_with.f] using with_l0 l n hl l.length 0 rfl (Nat.zero_le _)
theorem ends_l1 (b : List S35) (hb : b.length ≤ 256) : ∀ (d i : Nat) (o : List Int), b.length - i = d → i ≤ b.length → o.length + 2 * d < 1000000 → Ends (fun k => papermillref04_ends.l1 k b o (i : Int)) ((b.drop i).foldl endStep o) := by
  intro d
  induction d with
  | zero =>
    intro i o hd hi ho
    rw [List.drop_of_length_le (by omega)]
    refine Ends.succ ?_
    simp only [papermillref04_ends.l1]
    exact Ends.neg (by omega) (Ends.ret _)
  | succ d ih =>
    intro i o hd hi ho
    rw [drop36 b i (by omega), List.foldl_cons]
    refine Ends.succ ?_
    simp only [papermillref04_ends.l1, wrap_nat i (by omega)]
    have h1 := withOf_len o (rd_T35 b i).f0
    have h2 := endStep_len o (rd_T35 b i)
    exact Ends.pos (by omega) (Ends.pos (by omega) (Ends.bind (with_ends _ _ (by omega)) (Ends.bind (with_ends _ _ (by omega)) (ih (i + 1) _ (by omega) (by omega) (by show (endStep o (rd_T35 b i)).length + _ < _; omega)))))
theorem ends_l0 (a b : List S35) (ha : a.length ≤ 256) (hb : b.length ≤ 256) : ∀ (d i : Nat) (o : List Int), a.length - i = d → i ≤ a.length → o.length + 2 * d < 900000 → Ends (fun k => papermillref04_ends.l0 k a b o (i : Int)) (b.foldl endStep ((a.drop i).foldl endStep o)) := by
  intro d
  induction d with
  | zero =>
    intro i o hd hi ho
    rw [List.drop_of_length_le (by omega)]
    refine Ends.succ ?_
    simp only [papermillref04_ends.l0]
    exact Ends.neg (by omega) (by simpa using ends_l1 b hb b.length 0 o rfl (Nat.zero_le _) (by omega))
  | succ d ih =>
    intro i o hd hi ho
    rw [drop36 a i (by omega), List.foldl_cons]
    refine Ends.succ ?_
    simp only [papermillref04_ends.l0, wrap_nat i (by omega)]
    have h1 := withOf_len o (rd_T35 a i).f0
    have h2 := endStep_len o (rd_T35 a i)
    exact Ends.pos (by omega) (Ends.pos (by omega) (Ends.bind (with_ends _ _ (by omega)) (Ends.bind (with_ends _ _ (by omega)) (ih (i + 1) _ (by omega) (by omega) (by show (endStep o (rd_T35 a i)).length + _ < _; omega)))))
theorem ends_ends (a b : List S35) (ha : a.length ≤ 256) (hb : b.length ≤ 256) : Ends (fun k => papermillref04_ends.f k a b) (endsOf a b) := by
  simpa [papermillref04_ends.f, endsOf] using ends_l0 a b ha hb a.length 0 [] rfl (Nat.zero_le _) (by simp; omega)
theorem has_l0 (l : List S35) (x : Int) (hl : l.length < 1000000) : ∀ (d i : Nat), l.length - i = d → i ≤ l.length → Ends (fun k => papermillref04_Has.l0 k l x (i : Int)) (hasOf (l.drop i) x) := by
  intro d
  induction d with
  | zero =>
    intro i hd hi
    rw [List.drop_of_length_le (by omega)]
    refine Ends.succ ?_
    simp only [papermillref04_Has.l0]
    exact Ends.neg (by omega) (Ends.ret _)
  | succ d ih =>
    intro i hd hi
    have := ih (i + 1) (by omega) (by omega)
    rw [drop36 l i (by omega)]
    refine Ends.succ ?_
    simp only [papermillref04_Has.l0, wrap_nat i (by omega)]
    refine Ends.pos (by omega) (Ends.pos (by omega) ?_)
    by_cases h1 : (rd_T35 l i).f0 ≤ x
    · refine Ends.pos h1 ?_
      by_cases h2 : x < (rd_T35 l i).f1
      · refine Ends.pos h2 ?_
        simpa [hasOf, h1, h2] using Ends.ret true
      · refine Ends.neg h2 ?_
        simpa [hasOf, h1, h2] using this
    · refine Ends.neg h1 ?_
      simpa [hasOf, h1] using this
theorem has_ends (l : List S35) (x : Int) (hl : l.length < 1000000) : Ends (fun k => papermillref04_Has.f k l x) (hasOf l x) := by
  simpa [papermillref04_Has.f] using has_l0 l x hl l.length 0 rfl (Nat.zero_le _)

theorem getLast_rd (out : List S35) (h : out.length ≠ 0) : out.getLast? = some (rd_T35 out ((out.length - 1 : Nat) : Int)) := by
  rw [List.getLast?_eq_getElem?, rd36 _ _ (by omega), List.getElem?_eq_getElem (by omega)]
theorem dropLast_set (out : List S35) (h : out.length ≠ 0) (y : S35) : out.set (out.length - 1) y = out.dropLast ++ [y] := by
  obtain ⟨d, x, rfl⟩ : ∃ d x, out = d ++ [x] := ⟨out.dropLast, out.getLast (fun e => h (by rw [e]; rfl)), (List.dropLast_concat_getLast _).symm⟩
  rw [List.dropLast_concat, List.length_append]
  simp
theorem comb_j1 (a b : List S35) (w : Int) (cuts : List Int) (i : Nat) (out : List S35) (hi : i + 1 < cuts.length) (hc : cuts.length < 1000000) (ho : out.length < 1000000) (sk : Bool) (r : List S35)
    (h : Ends (fun k => papermillref04_combine.l0 k a b w cuts (if sk = true then out else push out (rd cuts i) (rd cuts (i + 1 : Nat))) ((i + 1 : Nat) : Int)) r) :
    Ends (fun k => papermillref04_combine.j1 k a b w cuts out (i : Int) sk) r := by
  refine Ends.succ ?_
  simp only [papermillref04_combine.j1, wrap_nat i (by omega)]
  cases sk with
  | true => exact Ends.pos rfl (by simpa using h)
  | false =>
    refine Ends.neg (by simp) ?_
    simp only [Bool.false_eq_true, if_false] at h
    by_cases h0 : out.length = 0
    · have e : out = [] := List.length_eq_zero_iff.1 h0
      subst e
      have e2 : push [] (rd cuts i) (rd cuts (i + 1 : Nat)) = [⟨rd cuts i, rd cuts (i + 1 : Nat)⟩] := rfl
      rw [e2] at h
      exact Ends.neg (by simp [wrap64]) (Ends.pos (by omega) (Ends.pos (by omega) (Ends.pos (by omega) (Ends.pos (by omega) (Ends.pos (by omega) h)))))
    · have hw : wrap64 ((out.length : Int) - 1) = ((out.length - 1 : Nat) : Int) := by unfold wrap64; omega
      have hl := getLast_rd out h0
      simp only [hw, Int.toNat_natCast]
      refine Ends.pos (by omega) (Ends.pos (by omega) (Ends.pos (by omega) (Ends.pos (by omega) (Ends.pos (by omega) ?_))))
      by_cases h1 : (rd_T35 out ((out.length - 1 : Nat) : Int)).f1 = rd cuts i
      · refine Ends.pos h1 (Ends.pos (by omega) (Ends.pos (by omega) ?_))
        rw [dropLast_set out h0]
        simpa [push, hl, h1] using h
      · refine Ends.neg h1 (Ends.pos (by omega) (Ends.pos (by omega) (Ends.pos (by omega) ?_)))
        simpa [push, hl, h1] using h
theorem comb_l0 (a b : List S35) (ha : a.length ≤ 256) (hb : b.length ≤ 256) (w : Int) (hw : w = 0 ∨ w = 1 ∨ w = 2) (cuts : List Int) (hc : cuts.length < 10000) : ∀ (d i : Nat) (out : List S35), cuts.length - i = d → i ≤ cuts.length → out.length + d < 900000 → Ends (fun k => papermillref04_combine.l0 k a b w cuts out (i : Int)) (combGo a b w out (cuts.drop i)) := by
  intro d
  induction d with
  | zero =>
    intro i out hd hi ho
    rw [List.drop_of_length_le (by omega)]
    refine Ends.succ ?_
    simp only [papermillref04_combine.l0, wrap_nat i (by omega)]
    exact Ends.neg (by omega) (Ends.ret _)
  | succ d ih =>
    intro i out hd hi ho
    by_cases h1 : i + 1 < cuts.length
    · rw [dropI cuts i (by omega), dropI cuts (i + 1) h1]
      refine Ends.succ ?_
      simp only [papermillref04_combine.l0, wrap_nat i (by omega)]
      refine Ends.pos (by omega) (Ends.pos (by omega) (Ends.pos (by omega) (Ends.bind (has_ends a _ (by omega)) (Ends.bind (has_ends b _ (by omega)) ?_))))
      have hp := push_len out (rd cuts i) (rd cuts (i + 1 : Nat))
      have hj := comb_j1 a b w cuts i out h1 (by omega) (by omega) (skips w (hasOf a (rd cuts i)) (hasOf b (rd cuts i))) _ (ih (i + 1) _ (by omega) (by omega) (by split <;> omega))
      rw [dropI cuts (i + 1) h1] at hj
      rw [combGo]
      revert hj
      generalize hasOf a (rd cuts i) = p
      generalize hasOf b (rd cuts i) = q
      intro hj
      rcases hw with rfl | rfl | rfl <;> cases p <;> cases q <;> simpa [skips] using hj
    · refine Ends.succ ?_
      simp only [papermillref04_combine.l0, wrap_nat i (by omega)]
      rw [dropI cuts i (by omega), List.drop_of_length_le (l := cuts) (i := i + 1) (by omega)]
      exact Ends.neg (by omega) (Ends.ret _)
theorem comb_ends (a b : List S35) (ha : a.length ≤ 256) (hb : b.length ≤ 256) (w : Int) (hw : w = 0 ∨ w = 1 ∨ w = 2) : Ends (fun k => papermillref04_combine.f k a b w) (combOf a b w) := by
  have h := endsOf_len a b
  unfold papermillref04_combine.f combOf
  exact Ends.bind (ends_ends a b ha hb) (by simpa using comb_l0 a b ha hb w hw (endsOf a b) (by omega) (endsOf a b).length 0 [] rfl (Nat.zero_le _) (by simp; omega))
def badS (s : S35) : Prop := s.f0 < 0 ∨ s.f0 > s.f1 ∨ s.f1 > 17179869184
instance (s : S35) : Decidable (badS s) := by unfold badS; infer_instance
def check04 (l : List S35) : Int := if l.length > 256 then 8 else if ∃ s ∈ l, badS s then 1 else 0
theorem check_l0 (l : List S35) (hl : l.length ≤ 256) : ∀ (d i : Nat), l.length - i = d → i ≤ l.length → Ends (fun k => papermillref04_Check.l0 k l (i : Int)) (if ∃ s ∈ l.drop i, badS s then 1 else 0) := by
  intro d
  induction d with
  | zero =>
    intro i hd hi
    rw [List.drop_of_length_le (by omega)]
    refine Ends.succ ?_
    simp only [papermillref04_Check.l0]
    exact Ends.neg (by omega) (by simpa using Ends.ret (0 : Int))
  | succ d ih =>
    intro i hd hi
    have := ih (i + 1) (by omega) (by omega)
    rw [drop36 l i (by omega)]
    refine Ends.succ ?_
    simp only [papermillref04_Check.l0, wrap_nat i (by omega)]
    refine Ends.pos (by omega) (Ends.pos (by omega) ?_)
    by_cases hb : badS (rd_T35 l i)
    · rw [if_pos ⟨_, by simp, hb⟩]
      unfold badS at hb
      by_cases h1 : (rd_T35 l i).f0 < 0
      · exact Ends.pos h1 (Ends.ret _)
      · refine Ends.neg h1 ?_
        by_cases h2 : (rd_T35 l i).f0 > (rd_T35 l i).f1
        · exact Ends.pos h2 (Ends.ret _)
        · exact Ends.neg h2 (Ends.pos (by omega) (Ends.ret _))
    · have e : (∃ s ∈ rd_T35 l i :: l.drop (i + 1), badS s) ↔ ∃ s ∈ l.drop (i + 1), badS s := by
        constructor
        · rintro ⟨s, hs, k⟩
          rcases List.mem_cons.1 hs with rfl | hs
          · exact absurd k hb
          · exact ⟨s, hs, k⟩
        · rintro ⟨s, hs, k⟩; exact ⟨s, by simp [hs], k⟩
      simp only [e]
      unfold badS at hb
      exact Ends.neg (by omega) (Ends.neg (by omega) (Ends.neg (by omega) this))
theorem check04_ends (l : List S35) : Ends (fun k => papermillref04_Check.f k l) (check04 l) := by
  simp only [papermillref04_Check.f, check04]
  by_cases h : l.length > 256
  · rw [if_pos h]; exact Ends.pos (by omega) (Ends.ret _)
  · rw [if_neg h]; exact Ends.neg (by omega) (by simpa using check_l0 l (by omega) l.length 0 rfl (Nat.zero_le _))
theorem check04_zero {l : List S35} (h : check04 l = 0) : l.length ≤ 256 ∧ ∀ s ∈ l, ¬ badS s := by
  unfold check04 at h
  split at h
  · cases h
  · split at h
    · cases h
    · rename_i h1 h2; exact ⟨by omega, fun s hs k => h2 ⟨s, hs, k⟩⟩
def bothOf (a b : List S35) (w : Int) : List S35 × Int := if check04 a = 0 then (if check04 b = 0 then (if (combOf a b w).length > 256 then ([], 8) else (combOf a b w, 0)) else ([], check04 b)) else ([], check04 a)
theorem both_ends (a b : List S35) (w : Int) (hw : w = 0 ∨ w = 1 ∨ w = 2) : Ends (fun k => papermillref04_both.f k a b w) (bothOf a b w) := by
  unfold papermillref04_both.f bothOf
  refine Ends.bind (check04_ends a) ?_
  by_cases h1 : check04 a = 0
  · rw [if_pos h1]; refine Ends.pos h1 (Ends.bind (check04_ends b) ?_)
    by_cases h2 : check04 b = 0
    · rw [if_pos h2]; refine Ends.pos h2 (Ends.bind (comb_ends a b (check04_zero h1).1 (check04_zero h2).1 w hw) ?_)
      by_cases h3 : (combOf a b w).length > 256
      · rw [if_pos h3]; exact Ends.pos (by omega) (Ends.ret _)
      · rw [if_neg h3]; exact Ends.neg (by omega) (Ends.ret _)
    · rw [if_neg h2]; exact Ends.neg h2 (Ends.ret _)
  · rw [if_neg h1]; exact Ends.neg h1 (Ends.ret _)
end Go.Proofs.Ytlfcaoniclnimaa.G

namespace Go.Proofs.Ytlfcaoniclnimaa.G
open Go.RowKit Go.Proofs.YtlfcaoniclnimaaW.PrintWords Go.Proofs.YtlfcaoniclnimaaW.PrintLast Go.Proofs.YtlfcaoniclnimaaW.PrintMore
set_option linter.unusedVariables false
set_option linter.unusedSimpArgs false
/-! ### span.Check -/
theorem scheck_l0 (l : List S35) (hl : l.length ≤ 256) : ∀ (d i : Nat), l.length - i = d → i ≤ l.length → Ends (fun k => span_Check.l0 k l (l.length : Int) (i : Int)) (if ∃ s ∈ l.drop i, badS s then 1 else 0) := by
  intro d
  induction d with
  | zero =>
    intro i hd hi
    refine Ends.succ ?_
    simp only [span_Check.l0]
    refine Ends.neg (by omega) ?_
    rw [List.drop_of_length_le (by omega), if_neg (by simp)]
    exact Ends.ret _
  | succ d ih =>
    intro i hd hi
    refine Ends.succ ?_
    simp only [span_Check.l0, wrap_nat i (by omega)]
    refine Ends.pos (by omega) (Ends.pos (by omega) (Ends.pos (by omega) ?_))
    rw [drop36 l i (by omega)]
    generalize rd_T35 l (i : Int) = x
    by_cases h : badS x
    · rw [if_pos ⟨x, by simp, h⟩]
      unfold badS at h
      by_cases h1 : x.f0 < 0
      · exact Ends.pos h1 (Ends.ret _)
      · refine Ends.neg h1 ?_
        by_cases h2 : x.f0 > x.f1
        · exact Ends.pos h2 (Ends.ret _)
        · exact Ends.neg h2 (Ends.pos (by omega) (Ends.ret _))
    · have e : (∃ s ∈ x :: l.drop (i + 1), badS s) ↔ ∃ s ∈ l.drop (i + 1), badS s := by simp [h]
      simp only [e]
      unfold badS at h
      exact Ends.neg (by omega) (Ends.neg (by omega) (Ends.neg (by omega) (ih (i + 1) (by omega) (by omega))))
theorem scheck_ends (l : List S35) : Ends (fun k => span_Check.f k l) (check04 l) := by
  unfold span_Check.f check04
  by_cases h : l.length > 256
  · rw [if_pos h]
    exact Ends.pos (by omega) (Ends.ret _)
  · rw [if_neg h]
    exact Ends.neg (by omega) (scheck_l0 l (by omega) _ 0 rfl (by omega))
/-! ### span.sets -/
def idx (a : List S35) (x : Int) : Nat := (a.takeWhile fun s => decide (s.f1 ≤ x)).length
theorem idx_le (a : List S35) (x : Int) : idx a x ≤ a.length := by unfold idx; exact (List.takeWhile_sublist _).length_le
theorem idx_cons (s : S35) (a : List S35) (x : Int) : idx (s :: a) x = if s.f1 ≤ x then idx a x + 1 else 0 := by
  unfold idx
  by_cases h : s.f1 ≤ x <;> simp [List.takeWhile_cons, h]
theorem idx_lt : ∀ (a : List S35) (x : Int) (i : Nat), i < idx a x → (rd_T35 a (i : Int)).f1 ≤ x
  | [], x, i, h => by simp [idx] at h
  | s :: a, x, i, h => by
    rw [idx_cons] at h
    split at h
    · cases i with
      | zero => simpa [rd_T35]
      | succ i => have := idx_lt a x i (by omega); simpa [rd_T35] using this
    · omega
theorem idx_at : ∀ (a : List S35) (x : Int), idx a x < a.length → x < (rd_T35 a (idx a x : Int)).f1
  | [], x, h => by simp at h
  | s :: a, x, h => by
    rw [idx_cons] at h ⊢
    split at h
    · rename_i h1
      rw [if_pos h1]
      have := idx_at a x (by simp at h; omega)
      simpa [rd_T35] using this
    · rename_i h1
      rw [if_neg h1]
      simp [rd_T35]; omega
theorem idx_mono (x y : Int) (h : x ≤ y) : ∀ (a : List S35), idx a x ≤ idx a y
  | [] => Nat.le_refl _
  | s :: a => by
    rw [idx_cons, idx_cons]
    have := idx_mono x y h a
    split
    · rw [if_pos (by omega)]; omega
    · omega
theorem hasOf_cons (s : S35) (a : List S35) (x : Int) : hasOf (s :: a) x = (decide (s.f0 ≤ x ∧ x < s.f1) || hasOf a x) := rfl
theorem sep_has {a : List S35} {e x : Int} (h : sep e a) (hx : x ≤ e) : hasOf a x = false := by
  cases hh : hasOf a x with
  | false => rfl
  | true => have := sep_mem h ((hasOf_iff a x).1 hh); omega
theorem has_idx : ∀ (a : List S35) (e x : Int), sep e a → hasOf a x = (decide (idx a x < a.length) && decide ((rd_T35 a (idx a x : Int)).f0 ≤ x))
  | [], e, x, _ => by simp [hasOf]
  | s :: a, e, x, h => by
    rw [hasOf_cons, idx_cons]
    by_cases h1 : s.f1 ≤ x
    · rw [if_pos h1, has_idx a s.f1 x h.2.2]
      have e1 : decide (s.f0 ≤ x ∧ x < s.f1) = false := by simp; omega
      rw [e1]
      simp [rd_T35]
    · rw [if_neg h1, sep_has h.2.2 (by omega)]
      have e1 : (s.f0 ≤ x ∧ x < s.f1) ↔ s.f0 ≤ x := by omega
      simp [e1, rd_T35]
section
variable (kf : Bool → Bool → Option Bool) (kp : Bool → Bool → Bool) (hk : ∀ p q, kf p q = some (kp p q))
variable (a b : List S35) (E : List Int)
theorem sets_l2 (out : List S35) (j x n : Int) (r : List S35 × Int) (ha : a.length < 1000000) (h : Ends (fun k => span_sets.j3 kf k a b E out (idx a x) j n x E (E.length : Int) n) r) :
    ∀ (d i : Nat), idx a x - i = d → i ≤ idx a x → Ends (fun k => span_sets.l2 kf k a b E out (i : Int) j n x E (E.length : Int) n) r := by
  have hle := idx_le a x
  intro d
  induction d with
  | zero =>
    intro i hd hi
    obtain rfl : i = idx a x := by omega
    refine Ends.succ ?_
    simp only [span_sets.l2, wrap_nat (idx a x) (by omega)]
    by_cases h1 : idx a x < a.length
    · exact Ends.pos (by omega) (Ends.pos (by omega) (Ends.neg (by have := idx_at a x h1; omega) h))
    · exact Ends.neg (by omega) h
  | succ d ih =>
    intro i hd hi
    refine Ends.succ ?_
    simp only [span_sets.l2, wrap_nat i (by omega)]
    exact Ends.pos (by omega) (Ends.pos (by omega) (Ends.pos (idx_lt a x i (by omega)) (ih (i + 1) (by omega) (by omega))))
theorem sets_l3 (out : List S35) (i x n : Int) (r : List S35 × Int) (hb : b.length < 1000000) (h : Ends (fun k => span_sets.j5 kf k a b E out i (idx b x) n x E (E.length : Int) n) r) :
    ∀ (d j : Nat), idx b x - j = d → j ≤ idx b x → Ends (fun k => span_sets.l3 kf k a b E out i (j : Int) n x E (E.length : Int) n) r := by
  have hle := idx_le b x
  intro d
  induction d with
  | zero =>
    intro j hd hj
    obtain rfl : j = idx b x := by omega
    refine Ends.succ ?_
    simp only [span_sets.l3, wrap_nat (idx b x) (by omega)]
    by_cases h1 : idx b x < b.length
    · exact Ends.pos (by omega) (Ends.pos (by omega) (Ends.neg (by have := idx_at b x h1; omega) h))
    · exact Ends.neg (by omega) h
  | succ d ih =>
    intro j hd hj
    refine Ends.succ ?_
    simp only [span_sets.l3, wrap_nat j (by omega)]
    exact Ends.pos (by omega) (Ends.pos (by omega) (Ends.pos (idx_lt b x j (by omega)) (ih (j + 1) (by omega) (by omega))))
def setsFin (o : List S35) : List S35 × Int := if (joinOf o).length > 256 then ([], 8) else (joinOf o, 0)
include hk in
theorem sets_j6 (ea eb : Int) (sa : sep ea a) (sb : sep eb b) (out : List S35) (n : Nat) (x : Int) (hn : n + 1 < E.length) (hE : E.length < 1000000) (ho : out.length < 1000000) (r : List S35 × Int)
    (h : Ends (fun k => span_sets.l1 kf k a b E (out ++ if kp (hasOf a x) (hasOf b x) = true then [⟨x, rd E ((n + 1 : Nat) : Int)⟩] else []) (idx a x) (idx b x) E (E.length : Int) ((n + 1 : Nat) : Int)) r) :
    Ends (fun k => span_sets.j6 kf k a b E out (idx a x) (idx b x) (n : Int) x E (E.length : Int) (n : Int) false) r := by
  refine Ends.succ ?_
  simp only [span_sets.j6, wrap_nat n (by omega), hk, Option.bind_some]
  have ga := has_idx a ea x sa
  have gb := has_idx b eb x sb
  have fin : ∀ c : Bool, c = kp (hasOf a x) (hasOf b x) → Ends (fun k => if c = true then (if 0 ≤ ((n + 1 : Nat) : Int) then (if ((n + 1 : Nat) : Int) < (E.length : Int) then (if out.length < 8796093022208 then (span_sets.l1 kf k a b E (out ++ [(⟨x, rd E ((n + 1 : Nat) : Int)⟩ : S35)]) (idx a x) (idx b x) E (E.length : Int) ((n + 1 : Nat) : Int)) else none) else none) else none) else (span_sets.l1 kf k a b E out (idx a x) (idx b x) E (E.length : Int) ((n + 1 : Nat) : Int))) r := by
    intro c hc
    subst hc
    cases hkp : kp (hasOf a x) (hasOf b x) with
    | true => rw [hkp] at h; exact Ends.pos rfl (Ends.pos (by omega) (Ends.pos (by omega) (Ends.pos (by omega) (by simpa using h))))
    | false => rw [hkp] at h; exact Ends.neg (by simp) (by simpa using h)
  refine Ends.neg (by simp) ?_
  by_cases h1 : idx a x < a.length
  · have ea1 : hasOf a x = decide ((rd_T35 a (idx a x : Int)).f0 ≤ x) := by rw [ga]; simp [h1]
    refine Ends.pos (by omega) (Ends.pos (by omega) ?_)
    by_cases h2 : idx b x < b.length
    · have eb1 : hasOf b x = decide ((rd_T35 b (idx b x : Int)).f0 ≤ x) := by rw [gb]; simp [h2]
      exact Ends.pos (by omega) (Ends.pos (by omega) (fin _ (by rw [ea1, eb1])))
    · have eb1 : hasOf b x = false := by rw [gb]; simp [h2]
      exact Ends.neg (by omega) (fin _ (by rw [ea1, eb1]))
  · have ea1 : hasOf a x = false := by rw [ga]; simp [h1]
    refine Ends.neg (by omega) ?_
    by_cases h2 : idx b x < b.length
    · have eb1 : hasOf b x = decide ((rd_T35 b (idx b x : Int)).f0 ≤ x) := by rw [gb]; simp [h2]
      exact Ends.pos (by omega) (Ends.pos (by omega) (fin _ (by rw [ea1, eb1])))
    · have eb1 : hasOf b x = false := by rw [gb]; simp [h2]
      exact Ends.neg (by omega) (fin _ (by rw [ea1, eb1]))
theorem sweep_in : ∀ (L : List Int), L.Pairwise (· ≤ ·) → ∀ s ∈ sweep kp a b L, s.f0 ∈ L ∧ s.f1 ∈ L ∧ s.f0 ≤ s.f1
  | [], _, s, h => by simp [sweep] at h
  | [c], _, s, h => by simp [sweep] at h
  | c :: d :: r, hp, s, h => by
    rw [List.pairwise_cons] at hp
    rw [sweep, List.mem_append] at h
    rcases h with h | h
    · split at h
      · obtain rfl := List.mem_singleton.1 h
        exact ⟨by simp, by simp, hp.1 d (by simp)⟩
      · simp at h
    · obtain ⟨h1, h2, h3⟩ := sweep_in (d :: r) hp.2 s h
      exact ⟨List.mem_cons_of_mem _ h1, List.mem_cons_of_mem _ h2, h3⟩
theorem sorted_rd (hE : E.Pairwise (· ≤ ·)) (n : Nat) (h : n + 1 < E.length) : rd E (n : Int) ≤ rd E ((n + 1 : Nat) : Int) := by
  rw [rdI E n (by omega), rdI E (n + 1) h]
  exact List.pairwise_iff_getElem.1 hE n (n + 1) (by omega) h (by omega)
include hk in
theorem sets_l1 (ea eb : Int) (sa : sep ea a) (sb : sep eb b) (ha : a.length < 1000000) (hb : b.length < 1000000) (hE : E.length < 400000) (hs : E.Pairwise (· ≤ ·)) : ∀ (d n i j : Nat) (out : List S35), E.length - n = d → n ≤ E.length → (n < E.length → i ≤ idx a (rd E (n : Int)) ∧ j ≤ idx b (rd E (n : Int))) → out.length + d < 400000 → okSpans (out ++ sweep kp a b (E.drop n)) = true →
    Ends (fun k => span_sets.l1 kf k a b E out (i : Int) (j : Int) E (E.length : Int) (n : Int)) (setsFin (out ++ sweep kp a b (E.drop n))) := by
  intro d
  induction d with
  | zero =>
    intro n i j out hd hn hij ho hok
    refine Ends.succ ?_
    simp only [span_sets.l1]
    refine Ends.neg (by omega) ?_
    rw [List.drop_of_length_le (by omega)] at hok ⊢
    rw [show sweep kp a b ([] : List Int) = [] from rfl, List.append_nil] at hok ⊢
    have e : span_joined.f out = some (joinOf out) := by unfold span_joined.f; rw [if_pos hok]
    simp only [e, Option.bind_some]
    unfold setsFin
    by_cases h : (joinOf out).length > 256
    · rw [if_pos h]; exact Ends.pos (by omega) (Ends.ret _)
    · rw [if_neg h]; exact Ends.neg (by omega) (Ends.ret _)
  | succ d ih =>
    intro n i j out hd hn hij ho hok
    refine Ends.succ ?_
    simp only [span_sets.l1, wrap_nat n (by omega)]
    refine Ends.pos (by omega) (Ends.pos (by omega) (Ends.pos (by omega) ?_))
    obtain ⟨hi, hj⟩ := hij (by omega)
    refine sets_l2 kf a b E out j _ n _ ha ?_ _ i rfl hi
    refine Ends.succ ?_
    simp only [span_sets.j3]
    refine sets_l3 kf a b E out _ _ n _ hb ?_ _ j rfl hj
    refine Ends.succ ?_
    simp only [span_sets.j5, wrap_nat n (by omega)]
    have next : ∀ (out' : List S35), out'.length + d < 400000 → out' ++ sweep kp a b (E.drop (n + 1)) = out ++ sweep kp a b (E.drop n) → Ends (fun k => span_sets.l1 kf k a b E out' (idx a (rd E (n : Int)) : Int) (idx b (rd E (n : Int)) : Int) E (E.length : Int) ((n + 1 : Nat) : Int)) (setsFin (out ++ sweep kp a b (E.drop n))) := by
      intro out' ho' he
      rw [← he]
      refine ih (n + 1) _ _ out' (by omega) (by omega) (fun h => ?_) ho' (by rw [he]; exact hok)
      exact ⟨idx_mono _ _ (sorted_rd E hs n h) a, idx_mono _ _ (sorted_rd E hs n h) b⟩
    by_cases hl : n + 1 = E.length
    · refine Ends.pos (by omega) (Ends.succ ?_)
      simp only [span_sets.j6, wrap_nat n (by omega)]
      refine Ends.pos trivial (next out (by omega) ?_)
      rw [dropI E n (by omega), List.drop_of_length_le (by omega)]
      simp [sweep]
    · refine Ends.neg (by omega) (Ends.pos (by omega) (Ends.pos (by omega) ?_))
      have e1 := dropI E n (by omega)
      have e2 := dropI E (n + 1) (by omega)
      by_cases hx : rd E ((n + 1 : Nat) : Int) = rd E (n : Int)
      · have hb : (rd E ((n + 1 : Nat) : Int) == rd E (n : Int)) = true := by simpa using hx
        simp only [hb]
        refine Ends.succ ?_
        simp only [span_sets.j6, wrap_nat n (by omega)]
        refine Ends.pos trivial (next out (by omega) ?_)
        rw [e1, e2, sweep, ← e2, hx]
        simp
      · have hb : (rd E ((n + 1 : Nat) : Int) == rd E (n : Int)) = false := by simpa using hx
        simp only [hb]
        refine sets_j6 kf kp hk a b E ea eb sa sb out n _ (by omega) (by omega) (by omega) _ (next _ ?_ ?_)
        · rw [List.length_append]; split <;> simp <;> omega
        · rw [e1, e2, sweep, ← e2, List.append_assoc]
          congr 2
          have hx' : rd E (n : Int) ≠ rd E ((n + 1 : Nat) : Int) := fun h => hx h.symm
          simp only [hx', ne_eq, not_false_eq_true, true_and]
include hk in
theorem sets_l0 (ea eb : Int) (sa : sep ea a) (sb : sep eb b) (ha : a.length ≤ 100000) (hb : b.length ≤ 100000) (c : List S35) (hc : c.length ≤ 200000) (hv : ∀ s ∈ c, (0 ≤ s.f0 ∧ s.f0 ≤ 17179869184) ∧ 0 ≤ s.f1 ∧ s.f1 ≤ 17179869184) (he : c.length ≤ 10000) : ∀ (d i : Nat) (o : List Int), c.length - i = d → i ≤ c.length → o.length + 2 * d ≤ 100000 → (∀ x ∈ o, 0 ≤ x ∧ x ≤ 17179869184) →
    Ends (fun k => span_sets.l0 kf k a b o c (c.length : Int) (i : Int)) (setsFin (sweep kp a b (sortI (o ++ (c.drop i).flatMap fun s => [s.f0, s.f1])))) := by
  intro d
  induction d with
  | zero =>
    intro i o hd hi ho hv1
    refine Ends.succ ?_
    simp only [span_sets.l0]
    refine Ends.neg (by omega) ?_
    rw [List.drop_of_length_le (by omega)]
    simp only [List.flatMap_nil, List.append_nil]
    have e : slices_Sort_int_int.f o = some (sortI o) := by unfold slices_Sort_int_int.f; rw [if_pos (by omega)]
    have hl : (sortI o).length = o.length := List.length_mergeSort _
    have hs : (sortI o).Pairwise (· ≤ ·) := by
      have := List.pairwise_mergeSort (le := fun a b : Int => decide (a ≤ b)) (by intro a b c h1 h2; simp at *; omega) (by intro a b; simp; omega) o
      exact this.imp (by intro a b h; simpa using h)
    simp only [e, Option.bind_some]
    rw [show (o.length : Int) = ((sortI o).length : Int) by rw [hl]]
    refine (sets_l1 kf kp hk a b (sortI o) ea eb sa sb (by omega) (by omega) (by omega) hs _ 0 0 0 [] rfl (by omega) (fun _ => ⟨Nat.zero_le _, Nat.zero_le _⟩) (by simp; omega) ?_).congr (by simp)
    rw [okSpans_iff]
    refine ⟨by have := sweep_len kp a b (sortI o); simp; omega, fun s h => ?_⟩
    have hm : ∀ x, x ∈ sortI o → x ∈ o := fun x hx => List.mem_mergeSort.1 hx
    obtain ⟨h1, h2, h3⟩ := sweep_in kp a b (sortI o) hs s (by simpa using h)
    have := hv1 _ (hm _ h1); have := hv1 _ (hm _ h2)
    exact ⟨by omega, h3, by omega⟩
  | succ d ih =>
    intro i o hd hi ho hv1
    refine Ends.succ ?_
    simp only [span_sets.l0, wrap_nat i (by omega), Option.bind_some]
    refine Ends.pos (by omega) (Ends.pos (by omega) (Ends.pos (by omega) (Ends.pos (by simp; omega) ?_)))
    rw [drop36 c i (by omega)]
    have hx := hv (rd_T35 c (i : Int)) (by rw [rd36 c i (by omega)]; exact List.getElem_mem _)
    refine (ih (i + 1) (o ++ [(rd_T35 c (i : Int)).f0, (rd_T35 c (i : Int)).f1]) (by omega) (by omega) (by simp; omega) ?_).congr (by simp)
    intro x h
    rcases List.mem_append.1 h with h | h
    · exact hv1 x h
    · simp at h; rcases h with rfl | rfl
      · exact hx.1
      · exact hx.2
theorem sweep_congr (kq : Bool → Bool → Bool) (h : ∀ x, kp (hasOf a x) (hasOf b x) = kq (hasOf a x) (hasOf b x)) : ∀ (L : List Int), sweep kp a b L = sweep kq a b L
  | [] => rfl
  | [c] => rfl
  | c :: d :: r => by rw [sweep, sweep, h, sweep_congr kq h (d :: r)]
theorem sortI_sorted (o : List Int) : (sortI o).Pairwise (· ≤ ·) := by
  have := List.pairwise_mergeSort (le := fun a b : Int => decide (a ≤ b)) (by intro a b c h1 h2; simp at *; omega) (by intro a b; simp; omega) o
  exact this.imp (by intro a b h; simpa using h)
theorem good04 {l : List S35} (h : check04 l = 0) : l.length ≤ 256 ∧ ∀ s ∈ l, 0 ≤ s.f0 ∧ s.f0 ≤ s.f1 ∧ s.f1 ≤ 17179869184 := by
  obtain ⟨h1, h2⟩ := check04_zero h
  exact ⟨h1, fun s hs => by have := h2 s hs; unfold badS at this; omega⟩
theorem okSpans_good {l : List S35} (h : check04 l = 0) : okSpans l = true := by
  obtain ⟨h1, h2⟩ := good04 h
  exact (okSpans_iff l).2 ⟨by omega, h2⟩
include hk in
theorem sets_ends (l0 l1 : List S35) (c : Bool) (w : Int) (hw : w = 0 ∨ w = 1 ∨ w = 2) (hkw : ∀ x, kp (hasOf (joinOf l0) x) (hasOf (joinOf l1) x) = wayOf w (hasOf (joinOf l0) x) (hasOf (joinOf l1) x)) : Ends (fun k => span_sets.f kf k l0 l1 c) (bothOf l0 l1 w) := by
  unfold span_sets.f bothOf
  refine Ends.bind (scheck_ends l0) ?_
  by_cases h0 : check04 l0 = 0
  · rw [if_pos h0]
    refine Ends.pos h0 (Ends.bind (scheck_ends l1) ?_)
    by_cases h1 : check04 l1 = 0
    · rw [if_pos h1]
      refine Ends.pos h1 ?_
      obtain ⟨g0, v0⟩ := good04 h0
      obtain ⟨g1, v1⟩ := good04 h1
      have u0 : ∀ s ∈ l0, -1 < s.f0 ∧ s.f0 ≤ s.f1 := fun s hs => by have := v0 s hs; omega
      have u1 : ∀ s ∈ l1, -1 < s.f0 ∧ s.f0 ≤ s.f1 := fun s hs => by have := v1 s hs; omega
      have n0 := joinOf_len l0 (-1) u0
      have n1 := joinOf_len l1 (-1) u1
      have b0 := joinOf_bound l0 (-1) 17179869184 (fun s hs => by have := v0 s hs; omega)
      have b1 := joinOf_bound l1 (-1) 17179869184 (fun s hs => by have := v1 s hs; omega)
      have e0 : span_joined.f l0 = some (joinOf l0) := by unfold span_joined.f; rw [if_pos (okSpans_good h0)]
      have e1 : span_joined.f l1 = some (joinOf l1) := by unfold span_joined.f; rw [if_pos (okSpans_good h1)]
      have e2 : slices_Concat_api_Span_api_Span_2.f (joinOf l0) (joinOf l1) = some (joinOf l0 ++ joinOf l1) := by unfold slices_Concat_api_Span_api_Span_2.f; rw [if_pos ⟨by omega, by omega⟩]
      simp only [e0, e1, e2, Option.bind_some]
      have hvv : ∀ s ∈ joinOf l0 ++ joinOf l1, (0 ≤ s.f0 ∧ s.f0 ≤ 17179869184) ∧ 0 ≤ s.f1 ∧ s.f1 ≤ 17179869184 := by
        intro s hs
        rcases List.mem_append.1 hs with hs | hs
        · have := b0 s hs; omega
        · have := b1 s hs; omega
      refine (sets_l0 kf kp hk (joinOf l0) (joinOf l1) (-1) (-1) (joinOf_ok l0 (-1) u0).1 (joinOf_ok l1 (-1) u1).1 (by omega) (by omega) (joinOf l0 ++ joinOf l1) (by simp; omega) hvv (by simp; omega) _ 0 [] rfl (by omega) (by simp; omega) (by simp)).congr ?_
      unfold setsFin
      rw [sweep_congr kp (joinOf l0) (joinOf l1) (wayOf w) hkw]
      rw [sets_comb l0 l1 w hw u0 u1 _ (sortI_sorted _) (fun x => by
        unfold sortI
        rw [List.mem_mergeSort]
        simp only [List.nil_append, List.drop_zero, List.mem_flatMap, List.mem_append, List.mem_cons, List.not_mem_nil, or_false])]
    · rw [if_neg h1]
      exact Ends.neg h1 (Ends.ret _)
  · rw [if_neg h0]
    exact Ends.neg h0 (Ends.ret _)
end
theorem wayOf_0 (p q : Bool) : wayOf 0 p q = (p || q) := by cases p <;> cases q <;> rfl
theorem wayOf_1 (p q : Bool) : wayOf 1 p q = (p && q) := by cases p <;> cases q <;> rfl
theorem wayOf_2 (p q : Bool) : wayOf 2 p q = (p && !q) := by cases p <;> cases q <;> rfl
end Go.Proofs.Ytlfcaoniclnimaa.G

namespace Go.Proofs.Ytlfcaoniclnimaa.G
open Go.RowKit Go.Proofs.YtlfcaoniclnimaaW.PrintWords Go.Proofs.YtlfcaoniclnimaaW.PrintLast Go.Proofs.YtlfcaoniclnimaaW.PrintMore
attribute [local go_sem] max2_int min2_int max_two min_two max_three min_three max_four min_four   -- for this text's walks alone
set_option linter.unusedVariables false
set_option linter.unusedSimpArgs false

/-! ### span_Union_1: function 35 -/
def span_Union_1.f (a0 : Bool) (a1 : Bool) : Option (Bool) := if a0 = true then (some true) else (some a1)
set_option maxHeartbeats 8000000 in
set_option maxRecDepth 100000 in
theorem span_Union_1.calls (a0 : Bool) (a1 : Bool) (r : Bool) (w : World) (h : span_Union_1.f a0 a1 = some r) :
    Calls Try.prog 35 #[.bool a0, .bool a1] w fun e w' => e = .returned (.bool r) ∧ Drawn0 w w' := by
  have H : (if a0 = true then (some true) else (some a1)) = some r := h
  clear h
  by_cases c3 : a0 = true
  · subst c3
    have H1 : (some true) = some r := by rw [if_pos rfl] at H; exact H
    clear H
    have H := H1
    clear H1
    obtain rfl := Option.some.inj H
    go_enter Try.func35, Try.ntmps35
    go_wp2
    go_ret
    exact ⟨by first | rfl | (simp; done) | (simp [*]; done), by repeat (first | exact Drawn0.refl _ | apply Drawn0.step)⟩
  · replace c3 := Bool.eq_false_iff.mpr c3
    subst c3
    have H1 : (some a1) = some r := by rw [if_neg (show ¬ (false = true) by decide)] at H; exact H
    clear H
    have H := H1
    clear H1
    obtain rfl := Option.some.inj H
    go_enter Try.func35, Try.ntmps35
    go_wp2
    go_ret
    exact ⟨by first | rfl | (simp; done) | (simp [*]; done), by repeat (first | exact Drawn0.refl _ | apply Drawn0.step)⟩

end Go.Proofs.Ytlfcaoniclnimaa.G

namespace Go.Proofs.Ytlfcaoniclnimaa.G
open Go.RowKit Go.Proofs.YtlfcaoniclnimaaW.PrintWords Go.Proofs.YtlfcaoniclnimaaW.PrintLast Go.Proofs.YtlfcaoniclnimaaW.PrintMore
attribute [local go_sem] max2_int min2_int max_two min_two max_three min_three max_four min_four   -- for this text's walks alone
set_option linter.unusedVariables false
set_option linter.unusedSimpArgs false

/-! ### span_sets_Union: function 31 -/
def span_sets_Union.f (k : Nat) (l0 : List (S35)) (l1 : List (S35)) (a2 : Bool) : Option ((List (S35)) × Int) := span_sets.f span_Union_1.f k l0 l1 a2
theorem span_sets_Union.mono : ∀ a0 a1 a2 k, LeO (span_sets_Union.f k a0 a1 a2) (span_sets_Union.f (k + 1) a0 a1 a2) := span_sets.mono span_Union_1.f
theorem span_sets_Union.calls (k : Nat) (A0 : Option Addr) (c0 : Nat) (l0 : List (S35)) (A1 : Option Addr) (c1 : Nat) (l1 : List (S35)) (a2 : Bool) (r1 : List (S35)) (r2 : Int) (w : World) (hr0 : Kd.C k35 w A0 l0.length l0) (hc0 : l0.length ≤ c0) (hr1 : Kd.C k35 w A1 l1.length l1) (hc1 : l1.length ≤ c1) (h : span_sets_Union.f k l0 l1 a2 = some (r1, r2)) :
    Calls Try.prog 31 #[.slice A0 l0.length c0, .slice A1 l1.length c1, .func (.func 35) #[] #[]] w fun e w' => ∃ v0_ : Value, e = .returned (.tuple #[v0_, .int .i64 r2]) ∧ Kd.R k35 35 w' w.heap.size (fun _ => True) v0_ r1 ∧ Below w.heap.size w w' :=
  span_sets.calls span_Union_1.f 35 (enters_of Try.func35 (by kernel_rfl) rfl) (fun a0 a1 r w h => span_Union_1.calls a0 a1 r w h) k A0 c0 l0 A1 c1 l1 a2 r1 r2 w hr0 hc0 hr1 hc1 h
end Go.Proofs.Ytlfcaoniclnimaa.G

namespace Go.Proofs.Ytlfcaoniclnimaa.G
open Go.RowKit Go.Proofs.YtlfcaoniclnimaaW.PrintWords Go.Proofs.YtlfcaoniclnimaaW.PrintLast Go.Proofs.YtlfcaoniclnimaaW.PrintMore
attribute [local go_sem] max2_int min2_int max_two min_two max_three min_three max_four min_four   -- for this text's walks alone
set_option linter.unusedVariables false
set_option linter.unusedSimpArgs false

/-! ### span_Union: function 21 -/
def span_Union.f (k : Nat) (l0 : List (S35)) (l1 : List (S35)) : Option ((List (S35)) × Int) := (span_sets_Union.f k l0 l1 true).bind fun bt22001 => (some (bt22001.1, bt22001.2))
theorem span_Union.mono : ∀ a0 a1 k, LeO (span_Union.f k a0 a1) (span_Union.f (k + 1) a0 a1) := by
  intro a0 a1 k
  unfold span_Union.f
  repeat' first
      | (with_reducible exact span_sets_Union.mono _ _ _ _)
      | (with_reducible exact LeO.refl _)
      | (with_reducible exact LeO.none _)
      | (with_reducible refine LeO.ite ?_ ?_)
      | (with_reducible refine LeO.bind ?_ (fun _ => ?_))
      | exact span_sets_Union.mono _ _ _ _
      | exact LeO.none _
      | refine LeO.ite ?_ ?_
      | refine LeO.bind ?_ (fun _ => ?_)
set_option maxHeartbeats 8000000 in
set_option maxRecDepth 100000 in
theorem span_Union.calls (k : Nat) (A0 : Option Addr) (c0 : Nat) (l0 : List (S35)) (A1 : Option Addr) (c1 : Nat) (l1 : List (S35)) (r1 : List (S35)) (r2 : Int) (w : World) (hr0 : Kd.C k35 w A0 l0.length l0) (hc0 : l0.length ≤ c0) (hr1 : Kd.C k35 w A1 l1.length l1) (hc1 : l1.length ≤ c1) (h : span_Union.f k l0 l1 = some (r1, r2)) :
    Calls Try.prog 21 #[.slice A0 l0.length c0, .slice A1 l1.length c1] w fun e w' => ∃ v0_ : Value, e = .returned (.tuple #[v0_, .int .i64 r2]) ∧ Kd.R k35 35 w' w.heap.size (fun _ => True) v0_ r1 ∧ Below w.heap.size w w' := by
  have HR0 := Aside0.mk hr0
  have HC0 := Aside0.mk hc0
  clear hr0 hc0
  have HR1 := Aside0.mk hr1
  have HC1 := Aside0.mk hc1
  clear hr1 hc1
  have HB := Aside0.mk (Below.refl w.heap.size w)
  have H : ((span_sets_Union.f k l0 l1 true).bind fun bt22001 => (some (bt22001.1, bt22001.2))) = some (r1, r2) := h
  clear h
  replace H := Option.bind_eq_some_iff.mp H
  obtain ⟨⟨t22001, t22002⟩, A30, H⟩ := H
  replace H : (some (t22001, t22002)) = some (r1, r2) := H
  have A3 := Aside0.mk A30
  clear A30
  simp only [Option.some.injEq, Prod.mk.injEq] at H
  obtain ⟨rfl, rfl⟩ := H
  go_enter Try.func21, Try.ntmps21
  go_wp2_with (first | ((with_reducible refine gate_callee (f := 31) rfl ?_); refine goesL_ (some 8) rfl rfl Try.func31 (by kernel_rfl) rfl #[.slice A0 l0.length c0, .slice A1 l1.length c1, .func (.func 35) #[] #[]] rfl (by (try simp only [List.map_toArray, List.map_cons, List.map_nil]); first | done | rfl | (simp only [List.length_drop, List.length_take]; rfl)) ?_; (with_reducible refine (span_sets_Union.calls k _ _ l0 _ _ l1 true t22001 t22002 _ ?side1 ?side2 ?side3 ?side4 A3.out).mono ?_); (case side1 => repeat (first | exact HR0.out | (with_reducible refine Kd.C_alloc ?_ _) | (with_reducible refine Kd.C_drewN ?_ _) | (with_reducible refine Kd.C_drew ?_))); (case side2 => exact HC0.out); (case side3 => repeat (first | exact HR1.out | (with_reducible refine Kd.C_alloc ?_ _) | (with_reducible refine Kd.C_drewN ?_ _) | (with_reducible refine Kd.C_drew ?_))); (case side4 => exact HC1.out); rintro e w4 ⟨v22003, rfl, ho0, hb⟩; refine ⟨_, rfl, ?_⟩; have n0_ := Aside0.mk (Kd.R_lower ho0 (below_size (by repeat (first | (with_reducible first | exact HB.out | apply below_alloc | apply pw_below_drewN | apply below_drew1) | exact HB.out)))); have n1_ := Aside0.mk (below_step (by repeat (first | (with_reducible first | exact HB.out | apply below_alloc | apply pw_below_drewN | apply below_drew1) | exact HB.out)) hb); clear HB; have HO22004 := n0_; have HB := n1_; clear n0_ n1_; (try clear hb); (try clear hb2); (try clear hk); (try clear hi); (try clear ho0)))
  go_ret2
  exact ⟨_, by first | rfl | (simp [errW_none, errW_some] <;> rfl) | (simp [*, errW_none, errW_some] <;> rfl), by (with_reducible repeat (first | apply Kd.R_alloc | apply Kd.R_drewN | apply Kd.R_drew)); exact HO22004.out, by repeat (first | (with_reducible first | exact HB.out | apply below_alloc | apply pw_below_drewN | apply below_drew1) | exact HB.out)⟩

end Go.Proofs.Ytlfcaoniclnimaa.G

namespace Go.Proofs.Ytlfcaoniclnimaa.G
open Go.RowKit Go.Proofs.YtlfcaoniclnimaaW.PrintWords Go.Proofs.YtlfcaoniclnimaaW.PrintLast Go.Proofs.YtlfcaoniclnimaaW.PrintMore
attribute [local go_sem] max2_int min2_int max_two min_two max_three min_three max_four min_four   -- for this text's walks alone
set_option linter.unusedVariables false
set_option linter.unusedSimpArgs false

/-! ### span_Common_1: function 36 -/
def span_Common_1.f (a0 : Bool) (a1 : Bool) : Option (Bool) := if a0 = true then (some a1) else (some false)
set_option maxHeartbeats 8000000 in
set_option maxRecDepth 100000 in
theorem span_Common_1.calls (a0 : Bool) (a1 : Bool) (r : Bool) (w : World) (h : span_Common_1.f a0 a1 = some r) :
    Calls Try.prog 36 #[.bool a0, .bool a1] w fun e w' => e = .returned (.bool r) ∧ Drawn0 w w' := by
  have H : (if a0 = true then (some a1) else (some false)) = some r := h
  clear h
  by_cases c3 : a0 = true
  · subst c3
    have H1 : (some a1) = some r := by rw [if_pos rfl] at H; exact H
    clear H
    have H := H1
    clear H1
    obtain rfl := Option.some.inj H
    go_enter Try.func36, Try.ntmps36
    go_wp2
    go_ret
    exact ⟨by first | rfl | (simp; done) | (simp [*]; done), by repeat (first | exact Drawn0.refl _ | apply Drawn0.step)⟩
  · replace c3 := Bool.eq_false_iff.mpr c3
    subst c3
    have H1 : (some false) = some r := by rw [if_neg (show ¬ (false = true) by decide)] at H; exact H
    clear H
    have H := H1
    clear H1
    obtain rfl := Option.some.inj H
    go_enter Try.func36, Try.ntmps36
    go_wp2
    go_ret
    exact ⟨by first | rfl | (simp; done) | (simp [*]; done), by repeat (first | exact Drawn0.refl _ | apply Drawn0.step)⟩

end Go.Proofs.Ytlfcaoniclnimaa.G

namespace Go.Proofs.Ytlfcaoniclnimaa.G
open Go.RowKit Go.Proofs.YtlfcaoniclnimaaW.PrintWords Go.Proofs.YtlfcaoniclnimaaW.PrintLast Go.Proofs.YtlfcaoniclnimaaW.PrintMore
attribute [local go_sem] max2_int min2_int max_two min_two max_three min_three max_four min_four   -- for this text's walks alone
set_option linter.unusedVariables false
set_option linter.unusedSimpArgs false

/-! ### span_sets_Common: function 31 -/
def span_sets_Common.f (k : Nat) (l0 : List (S35)) (l1 : List (S35)) (a2 : Bool) : Option ((List (S35)) × Int) := span_sets.f span_Common_1.f k l0 l1 a2
theorem span_sets_Common.mono : ∀ a0 a1 a2 k, LeO (span_sets_Common.f k a0 a1 a2) (span_sets_Common.f (k + 1) a0 a1 a2) := span_sets.mono span_Common_1.f
theorem span_sets_Common.calls (k : Nat) (A0 : Option Addr) (c0 : Nat) (l0 : List (S35)) (A1 : Option Addr) (c1 : Nat) (l1 : List (S35)) (a2 : Bool) (r1 : List (S35)) (r2 : Int) (w : World) (hr0 : Kd.C k35 w A0 l0.length l0) (hc0 : l0.length ≤ c0) (hr1 : Kd.C k35 w A1 l1.length l1) (hc1 : l1.length ≤ c1) (h : span_sets_Common.f k l0 l1 a2 = some (r1, r2)) :
    Calls Try.prog 31 #[.slice A0 l0.length c0, .slice A1 l1.length c1, .func (.func 36) #[] #[]] w fun e w' => ∃ v0_ : Value, e = .returned (.tuple #[v0_, .int .i64 r2]) ∧ Kd.R k35 35 w' w.heap.size (fun _ => True) v0_ r1 ∧ Below w.heap.size w w' :=
  span_sets.calls span_Common_1.f 36 (enters_of Try.func36 (by kernel_rfl) rfl) (fun a0 a1 r w h => span_Common_1.calls a0 a1 r w h) k A0 c0 l0 A1 c1 l1 a2 r1 r2 w hr0 hc0 hr1 hc1 h
end Go.Proofs.Ytlfcaoniclnimaa.G

namespace Go.Proofs.Ytlfcaoniclnimaa.G
open Go.RowKit Go.Proofs.YtlfcaoniclnimaaW.PrintWords Go.Proofs.YtlfcaoniclnimaaW.PrintLast Go.Proofs.YtlfcaoniclnimaaW.PrintMore
attribute [local go_sem] max2_int min2_int max_two min_two max_three min_three max_four min_four   -- for this text's walks alone
set_option linter.unusedVariables false
set_option linter.unusedSimpArgs false

/-! ### span_Common: function 23 -/
def span_Common.f (k : Nat) (l0 : List (S35)) (l1 : List (S35)) : Option ((List (S35)) × Int) := (span_sets_Common.f k l0 l1 true).bind fun bt24001 => (some (bt24001.1, bt24001.2))
theorem span_Common.mono : ∀ a0 a1 k, LeO (span_Common.f k a0 a1) (span_Common.f (k + 1) a0 a1) := by
  intro a0 a1 k
  unfold span_Common.f
  repeat' first
      | (with_reducible exact span_sets_Common.mono _ _ _ _)
      | (with_reducible exact LeO.refl _)
      | (with_reducible exact LeO.none _)
      | (with_reducible refine LeO.ite ?_ ?_)
      | (with_reducible refine LeO.bind ?_ (fun _ => ?_))
      | exact span_sets_Common.mono _ _ _ _
      | exact LeO.none _
      | refine LeO.ite ?_ ?_
      | refine LeO.bind ?_ (fun _ => ?_)
set_option maxHeartbeats 8000000 in
set_option maxRecDepth 100000 in
theorem span_Common.calls (k : Nat) (A0 : Option Addr) (c0 : Nat) (l0 : List (S35)) (A1 : Option Addr) (c1 : Nat) (l1 : List (S35)) (r1 : List (S35)) (r2 : Int) (w : World) (hr0 : Kd.C k35 w A0 l0.length l0) (hc0 : l0.length ≤ c0) (hr1 : Kd.C k35 w A1 l1.length l1) (hc1 : l1.length ≤ c1) (h : span_Common.f k l0 l1 = some (r1, r2)) :
    Calls Try.prog 23 #[.slice A0 l0.length c0, .slice A1 l1.length c1] w fun e w' => ∃ v0_ : Value, e = .returned (.tuple #[v0_, .int .i64 r2]) ∧ Kd.R k35 35 w' w.heap.size (fun _ => True) v0_ r1 ∧ Below w.heap.size w w' := by
  have HR0 := Aside0.mk hr0
  have HC0 := Aside0.mk hc0
  clear hr0 hc0
  have HR1 := Aside0.mk hr1
  have HC1 := Aside0.mk hc1
  clear hr1 hc1
  have HB := Aside0.mk (Below.refl w.heap.size w)
  have H : ((span_sets_Common.f k l0 l1 true).bind fun bt24001 => (some (bt24001.1, bt24001.2))) = some (r1, r2) := h
  clear h
  replace H := Option.bind_eq_some_iff.mp H
  obtain ⟨⟨t24001, t24002⟩, A30, H⟩ := H
  replace H : (some (t24001, t24002)) = some (r1, r2) := H
  have A3 := Aside0.mk A30
  clear A30
  simp only [Option.some.injEq, Prod.mk.injEq] at H
  obtain ⟨rfl, rfl⟩ := H
  go_enter Try.func23, Try.ntmps23
  go_wp2_with (first | ((with_reducible refine gate_callee (f := 31) rfl ?_); refine goesL_ (some 8) rfl rfl Try.func31 (by kernel_rfl) rfl #[.slice A0 l0.length c0, .slice A1 l1.length c1, .func (.func 36) #[] #[]] rfl (by (try simp only [List.map_toArray, List.map_cons, List.map_nil]); first | done | rfl | (simp only [List.length_drop, List.length_take]; rfl)) ?_; (with_reducible refine (span_sets_Common.calls k _ _ l0 _ _ l1 true t24001 t24002 _ ?side1 ?side2 ?side3 ?side4 A3.out).mono ?_); (case side1 => repeat (first | exact HR0.out | (with_reducible refine Kd.C_alloc ?_ _) | (with_reducible refine Kd.C_drewN ?_ _) | (with_reducible refine Kd.C_drew ?_))); (case side2 => exact HC0.out); (case side3 => repeat (first | exact HR1.out | (with_reducible refine Kd.C_alloc ?_ _) | (with_reducible refine Kd.C_drewN ?_ _) | (with_reducible refine Kd.C_drew ?_))); (case side4 => exact HC1.out); rintro e w4 ⟨v24003, rfl, ho0, hb⟩; refine ⟨_, rfl, ?_⟩; have n0_ := Aside0.mk (Kd.R_lower ho0 (below_size (by repeat (first | (with_reducible first | exact HB.out | apply below_alloc | apply pw_below_drewN | apply below_drew1) | exact HB.out)))); have n1_ := Aside0.mk (below_step (by repeat (first | (with_reducible first | exact HB.out | apply below_alloc | apply pw_below_drewN | apply below_drew1) | exact HB.out)) hb); clear HB; have HO24004 := n0_; have HB := n1_; clear n0_ n1_; (try clear hb); (try clear hb2); (try clear hk); (try clear hi); (try clear ho0)))
  go_ret2
  exact ⟨_, by first | rfl | (simp [errW_none, errW_some] <;> rfl) | (simp [*, errW_none, errW_some] <;> rfl), by (with_reducible repeat (first | apply Kd.R_alloc | apply Kd.R_drewN | apply Kd.R_drew)); exact HO24004.out, by repeat (first | (with_reducible first | exact HB.out | apply below_alloc | apply pw_below_drewN | apply below_drew1) | exact HB.out)⟩

end Go.Proofs.Ytlfcaoniclnimaa.G

namespace Go.Proofs.Ytlfcaoniclnimaa.G
open Go.RowKit Go.Proofs.YtlfcaoniclnimaaW.PrintWords Go.Proofs.YtlfcaoniclnimaaW.PrintLast Go.Proofs.YtlfcaoniclnimaaW.PrintMore
attribute [local go_sem] max2_int min2_int max_two min_two max_three min_three max_four min_four   -- for this text's walks alone
set_option linter.unusedVariables false
set_option linter.unusedSimpArgs false

/-! ### span_Minus_1: function 37 -/
def span_Minus_1.f (a0 : Bool) (a1 : Bool) : Option (Bool) := if a0 = true then (some (!a1)) else (some false)
set_option maxHeartbeats 8000000 in
set_option maxRecDepth 100000 in
theorem span_Minus_1.calls (a0 : Bool) (a1 : Bool) (r : Bool) (w : World) (h : span_Minus_1.f a0 a1 = some r) :
    Calls Try.prog 37 #[.bool a0, .bool a1] w fun e w' => e = .returned (.bool r) ∧ Drawn0 w w' := by
  have H : (if a0 = true then (some (!a1)) else (some false)) = some r := h
  clear h
  by_cases c3 : a0 = true
  · subst c3
    have H1 : (some (!a1)) = some r := by rw [if_pos rfl] at H; exact H
    clear H
    have H := H1
    clear H1
    obtain rfl := Option.some.inj H
    go_enter Try.func37, Try.ntmps37
    go_wp2
    go_ret
    exact ⟨by first | rfl | (simp; done) | (simp [*]; done), by repeat (first | exact Drawn0.refl _ | apply Drawn0.step)⟩
  · replace c3 := Bool.eq_false_iff.mpr c3
    subst c3
    have H1 : (some false) = some r := by rw [if_neg (show ¬ (false = true) by decide)] at H; exact H
    clear H
    have H := H1
    clear H1
    obtain rfl := Option.some.inj H
    go_enter Try.func37, Try.ntmps37
    go_wp2
    go_ret
    exact ⟨by first | rfl | (simp; done) | (simp [*]; done), by repeat (first | exact Drawn0.refl _ | apply Drawn0.step)⟩

end Go.Proofs.Ytlfcaoniclnimaa.G

namespace Go.Proofs.Ytlfcaoniclnimaa.G
open Go.RowKit Go.Proofs.YtlfcaoniclnimaaW.PrintWords Go.Proofs.YtlfcaoniclnimaaW.PrintLast Go.Proofs.YtlfcaoniclnimaaW.PrintMore
attribute [local go_sem] max2_int min2_int max_two min_two max_three min_three max_four min_four   -- for this text's walks alone
set_option linter.unusedVariables false
set_option linter.unusedSimpArgs false

/-! ### span_sets_Minus: function 31 -/
def span_sets_Minus.f (k : Nat) (l0 : List (S35)) (l1 : List (S35)) (a2 : Bool) : Option ((List (S35)) × Int) := span_sets.f span_Minus_1.f k l0 l1 a2
theorem span_sets_Minus.mono : ∀ a0 a1 a2 k, LeO (span_sets_Minus.f k a0 a1 a2) (span_sets_Minus.f (k + 1) a0 a1 a2) := span_sets.mono span_Minus_1.f
theorem span_sets_Minus.calls (k : Nat) (A0 : Option Addr) (c0 : Nat) (l0 : List (S35)) (A1 : Option Addr) (c1 : Nat) (l1 : List (S35)) (a2 : Bool) (r1 : List (S35)) (r2 : Int) (w : World) (hr0 : Kd.C k35 w A0 l0.length l0) (hc0 : l0.length ≤ c0) (hr1 : Kd.C k35 w A1 l1.length l1) (hc1 : l1.length ≤ c1) (h : span_sets_Minus.f k l0 l1 a2 = some (r1, r2)) :
    Calls Try.prog 31 #[.slice A0 l0.length c0, .slice A1 l1.length c1, .func (.func 37) #[] #[]] w fun e w' => ∃ v0_ : Value, e = .returned (.tuple #[v0_, .int .i64 r2]) ∧ Kd.R k35 35 w' w.heap.size (fun _ => True) v0_ r1 ∧ Below w.heap.size w w' :=
  span_sets.calls span_Minus_1.f 37 (enters_of Try.func37 (by kernel_rfl) rfl) (fun a0 a1 r w h => span_Minus_1.calls a0 a1 r w h) k A0 c0 l0 A1 c1 l1 a2 r1 r2 w hr0 hc0 hr1 hc1 h
end Go.Proofs.Ytlfcaoniclnimaa.G

namespace Go.Proofs.Ytlfcaoniclnimaa.G
open Go.RowKit Go.Proofs.YtlfcaoniclnimaaW.PrintWords Go.Proofs.YtlfcaoniclnimaaW.PrintLast Go.Proofs.YtlfcaoniclnimaaW.PrintMore
attribute [local go_sem] max2_int min2_int max_two min_two max_three min_three max_four min_four   -- for this text's walks alone
set_option linter.unusedVariables false
set_option linter.unusedSimpArgs false

/-! ### span_Minus: function 25 -/
def span_Minus.f (k : Nat) (l0 : List (S35)) (l1 : List (S35)) : Option ((List (S35)) × Int) := (span_sets_Minus.f k l0 l1 true).bind fun bt26001 => (some (bt26001.1, bt26001.2))
theorem span_Minus.mono : ∀ a0 a1 k, LeO (span_Minus.f k a0 a1) (span_Minus.f (k + 1) a0 a1) := by
  intro a0 a1 k
  unfold span_Minus.f
  repeat' first
      | (with_reducible exact span_sets_Minus.mono _ _ _ _)
      | (with_reducible exact LeO.refl _)
      | (with_reducible exact LeO.none _)
      | (with_reducible refine LeO.ite ?_ ?_)
      | (with_reducible refine LeO.bind ?_ (fun _ => ?_))
      | exact span_sets_Minus.mono _ _ _ _
      | exact LeO.none _
      | refine LeO.ite ?_ ?_
      | refine LeO.bind ?_ (fun _ => ?_)
set_option maxHeartbeats 8000000 in
set_option maxRecDepth 100000 in
theorem span_Minus.calls (k : Nat) (A0 : Option Addr) (c0 : Nat) (l0 : List (S35)) (A1 : Option Addr) (c1 : Nat) (l1 : List (S35)) (r1 : List (S35)) (r2 : Int) (w : World) (hr0 : Kd.C k35 w A0 l0.length l0) (hc0 : l0.length ≤ c0) (hr1 : Kd.C k35 w A1 l1.length l1) (hc1 : l1.length ≤ c1) (h : span_Minus.f k l0 l1 = some (r1, r2)) :
    Calls Try.prog 25 #[.slice A0 l0.length c0, .slice A1 l1.length c1] w fun e w' => ∃ v0_ : Value, e = .returned (.tuple #[v0_, .int .i64 r2]) ∧ Kd.R k35 35 w' w.heap.size (fun _ => True) v0_ r1 ∧ Below w.heap.size w w' := by
  have HR0 := Aside0.mk hr0
  have HC0 := Aside0.mk hc0
  clear hr0 hc0
  have HR1 := Aside0.mk hr1
  have HC1 := Aside0.mk hc1
  clear hr1 hc1
  have HB := Aside0.mk (Below.refl w.heap.size w)
  have H : ((span_sets_Minus.f k l0 l1 true).bind fun bt26001 => (some (bt26001.1, bt26001.2))) = some (r1, r2) := h
  clear h
  replace H := Option.bind_eq_some_iff.mp H
  obtain ⟨⟨t26001, t26002⟩, A30, H⟩ := H
  replace H : (some (t26001, t26002)) = some (r1, r2) := H
  have A3 := Aside0.mk A30
  clear A30
  simp only [Option.some.injEq, Prod.mk.injEq] at H
  obtain ⟨rfl, rfl⟩ := H
  go_enter Try.func25, Try.ntmps25
  go_wp2_with (first | ((with_reducible refine gate_callee (f := 31) rfl ?_); refine goesL_ (some 8) rfl rfl Try.func31 (by kernel_rfl) rfl #[.slice A0 l0.length c0, .slice A1 l1.length c1, .func (.func 37) #[] #[]] rfl (by (try simp only [List.map_toArray, List.map_cons, List.map_nil]); first | done | rfl | (simp only [List.length_drop, List.length_take]; rfl)) ?_; (with_reducible refine (span_sets_Minus.calls k _ _ l0 _ _ l1 true t26001 t26002 _ ?side1 ?side2 ?side3 ?side4 A3.out).mono ?_); (case side1 => repeat (first | exact HR0.out | (with_reducible refine Kd.C_alloc ?_ _) | (with_reducible refine Kd.C_drewN ?_ _) | (with_reducible refine Kd.C_drew ?_))); (case side2 => exact HC0.out); (case side3 => repeat (first | exact HR1.out | (with_reducible refine Kd.C_alloc ?_ _) | (with_reducible refine Kd.C_drewN ?_ _) | (with_reducible refine Kd.C_drew ?_))); (case side4 => exact HC1.out); rintro e w4 ⟨v26003, rfl, ho0, hb⟩; refine ⟨_, rfl, ?_⟩; have n0_ := Aside0.mk (Kd.R_lower ho0 (below_size (by repeat (first | (with_reducible first | exact HB.out | apply below_alloc | apply pw_below_drewN | apply below_drew1) | exact HB.out)))); have n1_ := Aside0.mk (below_step (by repeat (first | (with_reducible first | exact HB.out | apply below_alloc | apply pw_below_drewN | apply below_drew1) | exact HB.out)) hb); clear HB; have HO26004 := n0_; have HB := n1_; clear n0_ n1_; (try clear hb); (try clear hb2); (try clear hk); (try clear hi); (try clear ho0)))
  go_ret2
  exact ⟨_, by first | rfl | (simp [errW_none, errW_some] <;> rfl) | (simp [*, errW_none, errW_some] <;> rfl), by (with_reducible repeat (first | apply Kd.R_alloc | apply Kd.R_drewN | apply Kd.R_drew)); exact HO26004.out, by repeat (first | (with_reducible first | exact HB.out | apply below_alloc | apply pw_below_drewN | apply below_drew1) | exact HB.out)⟩

end Go.Proofs.Ytlfcaoniclnimaa.G

namespace Go.Proofs.Ytlfcaoniclnimaa.G
open Go.RowKit Go.Proofs.YtlfcaoniclnimaaW.PrintWords Go.Proofs.YtlfcaoniclnimaaW.PrintLast Go.Proofs.YtlfcaoniclnimaaW.PrintMore
attribute [local go_sem] max2_int min2_int max_two min_two max_three min_three max_four min_four   -- for this text's walks alone
set_option linter.unusedVariables false
set_option linter.unusedSimpArgs false

/-! ### span_Move: function 19 -/
def span_Move.l0 : Nat → Int → List (S35) → List (S35) → Int → Int → Option ((List (S35)) × Int)
  | 0, _, _, _, _, _ => none
  | k + 1, x1, x7, x15, x16, x17 => if x17 < x16 then (if 0 ≤ x17 then (if x17 < (x15.length : Int) then (if x1 < (wrap64 (-((rd_T35 x15 x17).f0))) then (some (([] : List (S35)), 1)) else (if x1 > (wrap64 (17179869184 - ((rd_T35 x15 x17).f1))) then (some (([] : List (S35)), 1)) else (if x7.length < 8796093022208 then (span_Move.l0 k x1 (x7 ++ [(⟨wrap64 (((rd_T35 x15 x17).f0) + x1), wrap64 (((rd_T35 x15 x17).f1) + x1)⟩ : S35)]) x15 x16 (wrap64 (x17 + 1))) else (none)))) else (none)) else (none)) else (some (x7, 0))
def span_Move.f (k : Nat) (l0 : List (S35)) (a1 : Int) : Option ((List (S35)) × Int) := (span_Check.f k l0).bind fun t20001 => (if t20001 = 0 then (span_Move.l0 k a1 ([] : List (S35)) l0 (l0.length : Int) 0) else (some (([] : List (S35)), t20001)))
theorem span_Move.mono_l : ∀ k, (∀ y0 y1 y2 y3 y4, LeO (span_Move.l0 k y0 y1 y2 y3 y4) (span_Move.l0 (k + 1) y0 y1 y2 y3 y4))
  | 0 => fun _ _ _ _ _ r h => by simp [span_Move.l0] at h
  | k + 1 => by
    have ih0 := span_Move.mono_l k
    · intro y0 y1 y2 y3 y4
      unfold span_Move.l0
      repeat' first
      | (with_reducible exact ih0 _ _ _ _ _)
      | (with_reducible exact span_Check.mono _ _)
      | (with_reducible exact LeO.refl _)
      | (with_reducible exact LeO.none _)
      | (with_reducible refine LeO.ite ?_ ?_)
      | (with_reducible refine LeO.bind ?_ (fun _ => ?_))
      | exact ih0 _ _ _ _ _
      | exact span_Check.mono _ _
      | exact LeO.none _
      | refine LeO.ite ?_ ?_
      | refine LeO.bind ?_ (fun _ => ?_)
theorem span_Move.mono : ∀ a0 a1 k, LeO (span_Move.f k a0 a1) (span_Move.f (k + 1) a0 a1) := by
  intro a0 a1 k
  have ih0 := span_Move.mono_l k
  unfold span_Move.f
  repeat' first
      | (with_reducible exact ih0 _ _ _ _ _)
      | (with_reducible exact span_Check.mono _ _)
      | (with_reducible exact LeO.refl _)
      | (with_reducible exact LeO.none _)
      | (with_reducible refine LeO.ite ?_ ?_)
      | (with_reducible refine LeO.bind ?_ (fun _ => ?_))
      | exact ih0 _ _ _ _ _
      | exact span_Check.mono _ _
      | exact LeO.none _
      | refine LeO.ite ?_ ?_
      | refine LeO.bind ?_ (fun _ => ?_)
set_option maxHeartbeats 8000000 in
set_option maxRecDepth 100000 in
theorem span_Move.calls (k : Nat) (A0 : Option Addr) (c0 : Nat) (l0 : List (S35)) (a1 : Int) (r1 : List (S35)) (r2 : Int) (w : World) (hr0 : Kd.C k35 w A0 l0.length l0) (hc0 : l0.length ≤ c0) (h : span_Move.f k l0 a1 = some (r1, r2)) :
    Calls Try.prog 19 #[.slice A0 l0.length c0, .int .i64 a1] w fun e w' => ∃ v0_ : Value, e = .returned (.tuple #[v0_, .int .i64 r2]) ∧ Kd.R k35 35 w' w.heap.size (fun _ => True) v0_ r1 ∧ Below w.heap.size w w' := by
  have hu35 := Try.underlying35
  have HR0 := Aside0.mk hr0
  have HC0 := Aside0.mk hc0
  clear hr0 hc0
  have HB := Aside0.mk (Below.refl w.heap.size w)
  have H : ((span_Check.f k l0).bind fun t20001 => (if t20001 = 0 then (span_Move.l0 k a1 ([] : List (S35)) l0 (l0.length : Int) 0) else (some (([] : List (S35)), t20001)))) = some (r1, r2) := h
  clear h
  replace H := Option.bind_eq_some_iff.mp H
  obtain ⟨t20001, A30, H⟩ := H
  replace H : (if t20001 = 0 then (span_Move.l0 k a1 ([] : List (S35)) l0 (l0.length : Int) 0) else (some (([] : List (S35)), t20001))) = some (r1, r2) := H
  have A3 := Aside0.mk A30
  clear A30
  by_cases c4 : t20001 = 0
  · rw [if_pos c4] at H
    have c4b0 : (t20001 == 0) = true := beq_iff_eq.mpr c4
    have c4b1 : (t20001 != 0) = false := bne_eq_false_iff_eq.mpr c4
    clear c4
    have H' := Aside0.mk H
    clear H
    go_enter Try.func19, Try.ntmps19
    go_wp2_with (first | ((with_reducible refine gate_callee (f := 27) rfl ?_); refine goesL_ (some 11) rfl rfl Try.func27 (by kernel_rfl) rfl #[.slice A0 l0.length c0] rfl (by (try simp only [List.map_toArray, List.map_cons, List.map_nil]); first | done | rfl | (simp only [List.length_drop, List.length_take]; rfl)) ?_; (with_reducible refine (span_Check.calls k _ _ l0 t20001 _ ?side1 ?side2 A3.out).mono ?_); (case side1 => repeat (first | exact HR0.out | (with_reducible refine Kd.C_alloc ?_ _) | (with_reducible refine Kd.C_drewN ?_ _) | (with_reducible refine Kd.C_drew ?_))); (case side2 => exact HC0.out); rintro e w5 ⟨rfl, hb⟩; refine ⟨_, rfl, ?_⟩; have n0_ := Aside0.mk (below_step (by repeat (first | (with_reducible first | exact HB.out | apply below_alloc | apply pw_below_drewN | apply below_drew1) | exact HB.out)) hb); clear HB; have HB := n0_; clear n0_; (try clear hb); (try clear hb2); (try clear hk); (try clear hi)))
    go_loopg [7, 17] k (fun kq v7 v17 w' => ∃ (x7_1 : List (S35)) (x17_1 : Int), v17 = .int .i64 x17_1 ∧ Aside0 (span_Move.l0 kq a1 x7_1 l0 (l0.length : Int) x17_1 = some (r1, r2)) ∧ Aside0 (kq ≤ k) ∧ Aside0 (Kd.R k35 35 w' w.heap.size (fun _ => True) v7 x7_1) ∧ Aside0 (Below w.heap.size w w'))
    case atStart => exact ⟨(([] : List (S35))), (0), (by first | rfl | (simp; done) | (simp [*]; done)), H', ⟨Nat.le_refl _⟩, ⟨by first | exact Kd.R_nil _ _ _ _ _ | exact Kd.N_nil _ _ _ _ _ | exact Kd.V_nil _ _ _ _ _ | exact Kd.Q_nil _ _ _ _ _ | exact Kd.S_nil _ _ _ _ _⟩, ⟨by repeat (first | (with_reducible first | exact HB.out | apply below_alloc | apply pw_below_drewN | apply below_drew1) | exact HB.out)⟩⟩
    case round =>
      clear H'
      try clear c1
      try clear c2
      try clear p2
      try clear c4
      try clear c4b0
      try clear c4b1
      obtain ⟨x7_1, x17_1, rfl, HA, HK1, HO_7, HB⟩ := hrel
      cases gk with
      | zero => exact absurd HA.out (by simp [span_Move.l0])
      | succ k1 =>
        have H := HA.out
        clear HA
        simp only [span_Move.l0] at H
        by_cases c6 : x17_1 < (l0.length : Int)
        · rw [if_pos c6] at H
          have c6b0 : decide (x17_1 < (l0.length : Int)) = true := decide_eq_true c6
          clear c6
          by_cases c7 : 0 ≤ x17_1
          · rw [if_pos c7] at H
            have c7b0 : decide (0 ≤ x17_1) = true := decide_eq_true c7
            clear c7
            by_cases c8 : x17_1 < (l0.length : Int)
            · rw [if_pos c8] at H
              have c8b0 : decide (x17_1 < (l0.length : Int)) = true := decide_eq_true c8
              clear c8
              by_cases c9 : a1 < (wrap64 (-((rd_T35 l0 x17_1).f0)))
              · rw [if_pos c9] at H
                have c9b0 : decide (a1 < (wrap64 (-((rd_T35 l0 x17_1).f0)))) = true := decide_eq_true c9
                clear c9
                simp only [Option.some.injEq, Prod.mk.injEq] at H
                obtain ⟨rfl, rfl⟩ := H
                have p20002 : 0 ≤ (x17_1 : Int) := of_decide_eq_true (by first | (with_reducible assumption) | assumption)
                have q20002 : x17_1 < (l0.length : Int) := of_decide_eq_true (by first | (with_reducible assumption) | assumption)
                obtain ⟨ad20002, e20002, hx20002_0, hx20002_1⟩ := at_T35 HR0.out x17_1 p20002 q20002
                cases e20002
                replace hx20002_0 := (HB.out.cell (World.block_lt_of_cell? w _ hx20002_0)).trans hx20002_0
                replace hx20002_1 := (HB.out.cell (World.block_lt_of_cell? w _ hx20002_1)).trans hx20002_1
                replace p20002 := eq_true p20002
                replace q20002 := eq_true q20002
                go_wp2_with (first | ((with_reducible refine gate_dst (N := 9) rfl ?_); refine box_event ?hg (N := 9) ?hd (cs := #[.int .i64 0, .int .i64 0]) (t := 35) ?hr ?_; (case hd => rfl); (case hg => rfl); (case hr => first | (go_simp; done) | (go_simp; rfl)); intro gb20003 hg w10 hbox hb; have n0_ := Aside0.mk (Kd.R_below (Kd.R_elderB (by (with_reducible repeat (first | apply Kd.R_alloc | apply Kd.R_drewN | apply Kd.R_drew)); exact HO_7.out) gb20003 (Nat.le_of_eq hg.symm)) hb); have n1_ := Aside0.mk (below_step (by repeat (first | (with_reducible first | exact HB.out | apply below_alloc | apply pw_below_drewN | apply below_drew1) | exact HB.out)) hb); have n2_ := Aside0.mk (hbox); have n3_ := Aside0.mk ((by rw [hg]; exact (below_size (by repeat (first | (with_reducible first | exact HB.out | apply below_alloc | apply pw_below_drewN | apply below_drew1) | exact HB.out))) : w.heap.size ≤ gb20003)); have n4_ := Aside0.mk ((by rw [hg]; exact (below_size (by repeat (first | (with_reducible first | exact HB.out | apply below_alloc | apply pw_below_drewN | apply below_drew1) | exact HB.out))) : w.heap.size ≤ gb20003)); clear HO_7; clear HB; have HO_7 := n0_; have HB := n1_; have BK20003 := n2_; have GW20003 := n3_; have GE20003 := n4_; clear n0_ n1_ n2_ n3_ n4_; clear hb hbox hg; have hcz11_0 : w10.cell? ⟨gb20003, 0, none⟩ = some (.int .i64 0) := (blk_cell BK20003.out 0).trans rfl; have hcz11_1 : w10.cell? ⟨gb20003, 1, none⟩ = some (.int .i64 0) := (blk_cell BK20003.out 1).trans rfl; have hfz11_0 := blk_frozen BK20003.out 0; have hfz11_1 := blk_frozen BK20003.out 1))
                go_ret2
                exact ⟨_, by first | rfl | (simp [errW_none, errW_some] <;> rfl) | (simp [*, errW_none, errW_some] <;> rfl), by first | exact Kd.R_nil _ _ _ _ _ | exact Kd.N_nil _ _ _ _ _ | exact Kd.V_nil _ _ _ _ _ | exact Kd.Q_nil _ _ _ _ _ | exact Kd.S_nil _ _ _ _ _, by repeat (first | (with_reducible first | exact HB.out | apply below_alloc | apply pw_below_drewN | apply below_drew1 | refine below_set ?_ GE20003.out) | exact HB.out)⟩
              · rw [if_neg c9] at H
                have c9b0 : decide (a1 < (wrap64 (-((rd_T35 l0 x17_1).f0)))) = false := decide_eq_false c9
                clear c9
                by_cases c12 : a1 > (wrap64 (17179869184 - ((rd_T35 l0 x17_1).f1)))
                · rw [if_pos c12] at H
                  have c12b0 : decide ((wrap64 (17179869184 - ((rd_T35 l0 x17_1).f1))) < a1) = true := decide_eq_true c12
                  clear c12
                  simp only [Option.some.injEq, Prod.mk.injEq] at H
                  obtain ⟨rfl, rfl⟩ := H
                  have p20002 : 0 ≤ (x17_1 : Int) := of_decide_eq_true (by first | (with_reducible assumption) | assumption)
                  have q20002 : x17_1 < (l0.length : Int) := of_decide_eq_true (by first | (with_reducible assumption) | assumption)
                  obtain ⟨ad20002, e20002, hx20002_0, hx20002_1⟩ := at_T35 HR0.out x17_1 p20002 q20002
                  cases e20002
                  replace hx20002_0 := (HB.out.cell (World.block_lt_of_cell? w _ hx20002_0)).trans hx20002_0
                  replace hx20002_1 := (HB.out.cell (World.block_lt_of_cell? w _ hx20002_1)).trans hx20002_1
                  replace p20002 := eq_true p20002
                  replace q20002 := eq_true q20002
                  go_wp2_with (first | ((with_reducible refine gate_dst (N := 9) rfl ?_); refine box_event ?hg (N := 9) ?hd (cs := #[.int .i64 0, .int .i64 0]) (t := 35) ?hr ?_; (case hd => rfl); (case hg => rfl); (case hr => first | (go_simp; done) | (go_simp; rfl)); intro gb20003 hg w13 hbox hb; have n0_ := Aside0.mk (Kd.R_below (Kd.R_elderB (by (with_reducible repeat (first | apply Kd.R_alloc | apply Kd.R_drewN | apply Kd.R_drew)); exact HO_7.out) gb20003 (Nat.le_of_eq hg.symm)) hb); have n1_ := Aside0.mk (below_step (by repeat (first | (with_reducible first | exact HB.out | apply below_alloc | apply pw_below_drewN | apply below_drew1) | exact HB.out)) hb); have n2_ := Aside0.mk (hbox); have n3_ := Aside0.mk ((by rw [hg]; exact (below_size (by repeat (first | (with_reducible first | exact HB.out | apply below_alloc | apply pw_below_drewN | apply below_drew1) | exact HB.out))) : w.heap.size ≤ gb20003)); have n4_ := Aside0.mk ((by rw [hg]; exact (below_size (by repeat (first | (with_reducible first | exact HB.out | apply below_alloc | apply pw_below_drewN | apply below_drew1) | exact HB.out))) : w.heap.size ≤ gb20003)); clear HO_7; clear HB; have HO_7 := n0_; have HB := n1_; have BK20003 := n2_; have GW20003 := n3_; have GE20003 := n4_; clear n0_ n1_ n2_ n3_ n4_; clear hb hbox hg; have hcz14_0 : w13.cell? ⟨gb20003, 0, none⟩ = some (.int .i64 0) := (blk_cell BK20003.out 0).trans rfl; have hcz14_1 : w13.cell? ⟨gb20003, 1, none⟩ = some (.int .i64 0) := (blk_cell BK20003.out 1).trans rfl; have hfz14_0 := blk_frozen BK20003.out 0; have hfz14_1 := blk_frozen BK20003.out 1))
                  go_ret2
                  exact ⟨_, by first | rfl | (simp [errW_none, errW_some] <;> rfl) | (simp [*, errW_none, errW_some] <;> rfl), by first | exact Kd.R_nil _ _ _ _ _ | exact Kd.N_nil _ _ _ _ _ | exact Kd.V_nil _ _ _ _ _ | exact Kd.Q_nil _ _ _ _ _ | exact Kd.S_nil _ _ _ _ _, by repeat (first | (with_reducible first | exact HB.out | apply below_alloc | apply pw_below_drewN | apply below_drew1 | refine below_set ?_ GE20003.out) | exact HB.out)⟩
                · rw [if_neg c12] at H
                  have c12b0 : decide ((wrap64 (17179869184 - ((rd_T35 l0 x17_1).f1))) < a1) = false := decide_eq_false c12
                  clear c12
                  by_cases c15 : x7_1.length < 8796093022208
                  · rw [if_pos c15] at H
                    have LMc15 := Aside0.mk c15
                    clear c15
                    obtain ⟨y20004, hy20004⟩ : ∃ y_ : List (S35), y_ = (x7_1 ++ [(⟨wrap64 (((rd_T35 l0 x17_1).f0) + a1), wrap64 (((rd_T35 l0 x17_1).f1) + a1)⟩ : S35)]) := ⟨_, rfl⟩
                    replace H : (span_Move.l0 k1 a1 y20004 l0 (l0.length : Int) (wrap64 (x17_1 + 1))) = some (r1, r2) := by first | (rw [hy20004]; with_reducible exact H) | (have H2_ := (Option.bind_some _ _).symm.trans H; rw [hy20004]; with_reducible exact H2_) | (have H2_ := (Option.bind_some _ _).symm.trans H; with_reducible exact H2_) | with_reducible exact H | (rw [hy20004]; exact H) | exact H
                    have Ny20004 := Aside0.mk hy20004
                    clear hy20004
                    have H' := Aside0.mk H
                    clear H
                    have p20002 : 0 ≤ (x17_1 : Int) := of_decide_eq_true (by first | (with_reducible assumption) | assumption)
                    have q20002 : x17_1 < (l0.length : Int) := of_decide_eq_true (by first | (with_reducible assumption) | assumption)
                    obtain ⟨ad20002, e20002, hx20002_0, hx20002_1⟩ := at_T35 HR0.out x17_1 p20002 q20002
                    cases e20002
                    replace hx20002_0 := (HB.out.cell (World.block_lt_of_cell? w _ hx20002_0)).trans hx20002_0
                    replace hx20002_1 := (HB.out.cell (World.block_lt_of_cell? w _ hx20002_1)).trans hx20002_1
                    replace p20002 := eq_true p20002
                    replace q20002 := eq_true q20002
                    go_wp2_with (first | ((with_reducible refine gate_dst (N := 9) rfl ?_); refine box_event ?hg (N := 9) ?hd (cs := #[.int .i64 0, .int .i64 0]) (t := 35) ?hr ?_; (case hd => rfl); (case hg => rfl); (case hr => first | (go_simp; done) | (go_simp; rfl)); intro gb20003 hg w16 hbox hb; have n0_ := Aside0.mk (Kd.R_below (Kd.R_elderB (by (with_reducible repeat (first | apply Kd.R_alloc | apply Kd.R_drewN | apply Kd.R_drew)); exact HO_7.out) gb20003 (Nat.le_of_eq hg.symm)) hb); have n1_ := Aside0.mk (below_step (by repeat (first | (with_reducible first | exact HB.out | apply below_alloc | apply pw_below_drewN | apply below_drew1) | exact HB.out)) hb); have n2_ := Aside0.mk (hbox); have n3_ := Aside0.mk ((by rw [hg]; exact (below_size (by repeat (first | (with_reducible first | exact HB.out | apply below_alloc | apply pw_below_drewN | apply below_drew1) | exact HB.out))) : w.heap.size ≤ gb20003)); have n4_ := Aside0.mk ((by rw [hg]; exact (below_size (by repeat (first | (with_reducible first | exact HB.out | apply below_alloc | apply pw_below_drewN | apply below_drew1) | exact HB.out))) : w.heap.size ≤ gb20003)); clear HO_7; clear HB; have HO_7 := n0_; have HB := n1_; have BK20003 := n2_; have GW20003 := n3_; have GE20003 := n4_; clear n0_ n1_ n2_ n3_ n4_; clear hb hbox hg; have hcz17_0 : w16.cell? ⟨gb20003, 0, none⟩ = some (.int .i64 0) := (blk_cell BK20003.out 0).trans rfl; have hcz17_1 : w16.cell? ⟨gb20003, 1, none⟩ = some (.int .i64 0) := (blk_cell BK20003.out 1).trans rfl; have hfz17_0 := blk_frozen BK20003.out 0; have hfz17_1 := blk_frozen BK20003.out 1) | ((with_reducible refine gate_builtin (b := .append) (xs := #[.tmp 33, .tmp 43]) rfl ?_); at_builtin; refine Kd.R_append k35 (w0 := w) w.heap.size rfl (.tmp 33) (.tmp 43) 22 35 (.agg #[(.int .i64 0), (.int .i64 0)]) 16 rfl Try.underlying22 info35 rfl (by decide) (by omega) u7 x7_1 (⟨wrap64 (((rd_T35 l0 x17_1).f0) + a1), wrap64 (((rd_T35 l0 x17_1).f1) + a1)⟩ : S35) [.int .i64 (wrap64 (((rd_T35 l0 x17_1).f0) + a1)), .int .i64 (wrap64 (((rd_T35 l0 x17_1).f1) + a1))] (fun k_ => k_ ≠ gb20003) (fun _ => False) rfl (by first | (go_simp; done) | (go_simp; rfl)) ?aP (fun _ hk => hk.elim) ?aF ?aO ?aB ?aS ?aL ?_; (case aP => exact k35_mkM _ _ _ (⟨wrap64 (((rd_T35 l0 x17_1).f0) + a1), wrap64 (((rd_T35 l0 x17_1).f1) + a1)⟩ : S35)); (case aB => exact (by repeat (first | (with_reducible first | exact HB.out | apply below_alloc | apply pw_below_drewN | apply below_drew1 | refine below_set ?_ GE20003.out) | exact HB.out))); (case aF => exact (fun k_ hk => Kd.freshB (g := gb20003) (o := .cells #[.int .i64 ((rd_T35 l0 x17_1).f0), .int .i64 ((rd_T35 l0 x17_1).f1)] 35 (0, 0)) (by (with_reducible repeat (first | refine blk_drewN ?_ _ | refine blk_drew ?_ | refine blk_alloc ?_ _)); refine blk_put (cs := #[.int .i64 ((rd_T35 l0 x17_1).f0), .int .i64 0]) ?_ 1 _ rfl; (with_reducible repeat (first | refine blk_drewN ?_ _ | refine blk_drew ?_ | refine blk_alloc ?_ _)); refine blk_put (cs := #[.int .i64 0, .int .i64 0]) ?_ 0 _ rfl; (with_reducible repeat (first | refine blk_drewN ?_ _ | refine blk_drew ?_ | refine blk_alloc ?_ _)); exact BK20003.out) k_ hk)); (case aO => exact (by (with_reducible repeat (first | apply Kd.R_alloc | apply Kd.R_drewN | apply Kd.R_drew)); exact Kd.R_mono (Kd.R_far (p := ⟨gb20003, 1, none⟩) (Kd.R_far (p := ⟨gb20003, 0, none⟩) (Kd.R_mono HO_7.out (fun k_ hk => (⟨hk, hk.2⟩ : _ ∧ k_ ≠ gb20003))) (fun _ hk => hk.2) (.int .i64 ((rd_T35 l0 x17_1).f0))) (fun _ hk => hk.2) (.int .i64 ((rd_T35 l0 x17_1).f1))) (fun _ hk => hk.1.2))); (case aS => exact (below_size (by repeat (first | (with_reducible first | exact HB.out | apply below_alloc | apply pw_below_drewN | apply below_drew1 | refine below_set ?_ GE20003.out) | exact HB.out)))); (case aL => have := LMc15.out; omega); intro v20005 w18 ho hb hg hat; rw [← Ny20004.out] at ho; have n0_ := Aside0.mk (blk_grown (g := gb20003) (o := .cells #[.int .i64 ((rd_T35 l0 x17_1).f0), .int .i64 ((rd_T35 l0 x17_1).f1)] 35 (0, 0)) (by (with_reducible repeat (first | refine blk_drewN ?_ _ | refine blk_drew ?_ | refine blk_alloc ?_ _)); refine blk_put (cs := #[.int .i64 ((rd_T35 l0 x17_1).f0), .int .i64 0]) ?_ 1 _ rfl; (with_reducible repeat (first | refine blk_drewN ?_ _ | refine blk_drew ?_ | refine blk_alloc ?_ _)); refine blk_put (cs := #[.int .i64 0, .int .i64 0]) ?_ 0 _ rfl; (with_reducible repeat (first | refine blk_drewN ?_ _ | refine blk_drew ?_ | refine blk_alloc ?_ _)); exact BK20003.out) hg (Kd.R_away HO_7.out (fun _ hk => hk.2))); have n1_ := Aside0.mk (hb); have n2_ := Aside0.mk (ho); clear BK20003; clear HB; clear HO_7; have BK20003 := n0_; have HB := n1_; have HO20006 := n2_; clear n0_ n1_ n2_; clear ho hb hg hat))
                    go_roundg k1
                    case measure => have := HK1.out; omega
                    case rel => exact ⟨(y20004), (wrap64 (x17_1 + 1)), (by first | rfl | (simp; done) | (simp [*]; done)), H', ⟨by have := HK1.out; omega⟩, ⟨by (with_reducible repeat (first | apply Kd.R_alloc | apply Kd.R_drewN | apply Kd.R_drew)); exact Kd.R_mono HO20006.out (fun _ hk => trivial)⟩, ⟨by repeat (first | (with_reducible first | exact HB.out | apply below_alloc | apply pw_below_drewN | apply below_drew1 | refine below_set ?_ GE20003.out) | exact HB.out)⟩⟩
                  · rw [if_neg c15] at H
                    exact absurd H (by simp)
            · rw [if_neg c8] at H
              exact absurd H (by simp)
          · rw [if_neg c7] at H
            exact absurd H (by simp)
        · rw [if_neg c6] at H
          have c6b0 : decide (x17_1 < (l0.length : Int)) = false := decide_eq_false c6
          clear c6
          simp only [Option.some.injEq, Prod.mk.injEq] at H
          obtain ⟨rfl, rfl⟩ := H
          go_wp2
          go_ret2
          exact ⟨_, by first | rfl | (simp [errW_none, errW_some] <;> rfl) | (simp [*, errW_none, errW_some] <;> rfl), by (with_reducible repeat (first | apply Kd.R_alloc | apply Kd.R_drewN | apply Kd.R_drew)); exact HO_7.out, by repeat (first | (with_reducible first | exact HB.out | apply below_alloc | apply pw_below_drewN | apply below_drew1) | exact HB.out)⟩
  · rw [if_neg c4] at H
    have c4b0 : (t20001 == 0) = false := beq_eq_false_iff_ne.mpr c4
    have c4b1 : (t20001 != 0) = true := bne_iff_ne.mpr c4
    simp only [Option.some.injEq, Prod.mk.injEq] at H
    obtain ⟨rfl, rfl⟩ := H
    go_enter Try.func19, Try.ntmps19
    go_wp2_with (first | ((with_reducible refine gate_callee (f := 27) rfl ?_); refine goesL_ (some 11) rfl rfl Try.func27 (by kernel_rfl) rfl #[.slice A0 l0.length c0] rfl (by (try simp only [List.map_toArray, List.map_cons, List.map_nil]); first | done | rfl | (simp only [List.length_drop, List.length_take]; rfl)) ?_; (with_reducible refine (span_Check.calls k _ _ l0 t20001 _ ?side1 ?side2 A3.out).mono ?_); (case side1 => repeat (first | exact HR0.out | (with_reducible refine Kd.C_alloc ?_ _) | (with_reducible refine Kd.C_drewN ?_ _) | (with_reducible refine Kd.C_drew ?_))); (case side2 => exact HC0.out); rintro e w19 ⟨rfl, hb⟩; refine ⟨_, rfl, ?_⟩; have n0_ := Aside0.mk (below_step (by repeat (first | (with_reducible first | exact HB.out | apply below_alloc | apply pw_below_drewN | apply below_drew1) | exact HB.out)) hb); clear HB; have HB := n0_; clear n0_; (try clear hb); (try clear hb2); (try clear hk); (try clear hi)))
    go_ret2
    exact ⟨_, by first | rfl | (simp [errW_none, errW_some] <;> rfl) | (simp [*, errW_none, errW_some] <;> rfl), by first | exact Kd.R_nil _ _ _ _ _ | exact Kd.N_nil _ _ _ _ _ | exact Kd.V_nil _ _ _ _ _ | exact Kd.Q_nil _ _ _ _ _ | exact Kd.S_nil _ _ _ _ _, by repeat (first | (with_reducible first | exact HB.out | apply below_alloc | apply pw_below_drewN | apply below_drew1) | exact HB.out)⟩

end Go.Proofs.Ytlfcaoniclnimaa.G

namespace Go.Proofs.Ytlfcaoniclnimaa.G
open Go.RowKit Go.Proofs.YtlfcaoniclnimaaW.PrintWords Go.Proofs.YtlfcaoniclnimaaW.PrintLast Go.Proofs.YtlfcaoniclnimaaW.PrintMore
attribute [local go_sem] max2_int min2_int max_two min_two max_three min_three max_four min_four   -- for this text's walks alone
set_option linter.unusedVariables false
set_option linter.unusedSimpArgs false

/-! ### papermillref04_Move: function 20 -/
def papermillref04_Move.l0 : Nat → List (S35) → Int → List (S35) → Int → Option ((List (S35)) × Int)
  | 0, _, _, _, _ => none
  | k + 1, x0, x1, x7, x8 => if x8 < (x0.length : Int) then (if 0 ≤ x8 then (if x1 < (wrap64 (-((rd_T35 x0 x8).f0))) then (some (([] : List (S35)), 1)) else (if x1 > (wrap64 (17179869184 - ((rd_T35 x0 x8).f1))) then (some (([] : List (S35)), 1)) else (if x7.length < 8796093022208 then (papermillref04_Move.l0 k x0 x1 (x7 ++ [(⟨wrap64 (((rd_T35 x0 x8).f0) + x1), wrap64 (((rd_T35 x0 x8).f1) + x1)⟩ : S35)]) (wrap64 (x8 + 1))) else (none)))) else (none)) else (some (x7, 0))
def papermillref04_Move.f (k : Nat) (l0 : List (S35)) (a1 : Int) : Option ((List (S35)) × Int) := (papermillref04_Check.f k l0).bind fun t21001 => (if t21001 = 0 then (papermillref04_Move.l0 k l0 a1 ([] : List (S35)) 0) else (some (([] : List (S35)), t21001)))
theorem papermillref04_Move.mono_l : ∀ k, (∀ y0 y1 y2 y3, LeO (papermillref04_Move.l0 k y0 y1 y2 y3) (papermillref04_Move.l0 (k + 1) y0 y1 y2 y3))
  | 0 => fun _ _ _ _ r h => by simp [papermillref04_Move.l0] at h
  | k + 1 => by
    have ih0 := papermillref04_Move.mono_l k
    · intro y0 y1 y2 y3
      unfold papermillref04_Move.l0
      repeat' first
      | (with_reducible exact ih0 _ _ _ _)
      | (with_reducible exact papermillref04_Check.mono _ _)
      | (with_reducible exact LeO.refl _)
      | (with_reducible exact LeO.none _)
      | (with_reducible refine LeO.ite ?_ ?_)
      | (with_reducible refine LeO.bind ?_ (fun _ => ?_))
      | exact ih0 _ _ _ _
      | exact papermillref04_Check.mono _ _
      | exact LeO.none _
      | refine LeO.ite ?_ ?_
      | refine LeO.bind ?_ (fun _ => ?_)
theorem papermillref04_Move.mono : ∀ a0 a1 k, LeO (papermillref04_Move.f k a0 a1) (papermillref04_Move.f (k + 1) a0 a1) := by
  intro a0 a1 k
  have ih0 := papermillref04_Move.mono_l k
  unfold papermillref04_Move.f
  repeat' first
      | (with_reducible exact ih0 _ _ _ _)
      | (with_reducible exact papermillref04_Check.mono _ _)
      | (with_reducible exact LeO.refl _)
      | (with_reducible exact LeO.none _)
      | (with_reducible refine LeO.ite ?_ ?_)
      | (with_reducible refine LeO.bind ?_ (fun _ => ?_))
      | exact ih0 _ _ _ _
      | exact papermillref04_Check.mono _ _
      | exact LeO.none _
      | refine LeO.ite ?_ ?_
      | refine LeO.bind ?_ (fun _ => ?_)
def papermillref04_Move.T10 : Bool × List (List Nat × List Nat) := (true, [([], []), ([], []), ([], []), ([1, 2], [1, 2]), ([3], [3]), ([4], [4]), ([], []), ([5, 6], [5, 6]), ([], []), ([], []), ([8, 9], [8, 9]), ([10], [10]), ([11], [11]), ([], []), ([12, 13], [12, 13]), ([7, 14], [7, 14]), ([15], [15]), ([0, 16], [0, 16]), ([17, 17, 0, 1, 2, 3, 4, 5, 6, 7, 8, 9, 10, 11, 12, 13, 14, 15, 16, 17], [0, 17])])
def papermillref04_Move.B10 : List Nat := [0, 0, 0, 6, 14, 30, 0, 126, 0, 0, 768, 1792, 3840, 0, 16128, 32766, 65534, 131071, 262143]
theorem papermillref04_Move.tab10 : rtab .any (opsOf Try.f20 10) = papermillref04_Move.T10 := by kernel_rfl
theorem papermillref04_Move.bits10 : waitsOk papermillref04_Move.T10.2 papermillref04_Move.B10 = true := by kernel_rfl
set_option maxHeartbeats 8000000 in
set_option maxRecDepth 100000 in
theorem papermillref04_Move.calls (k : Nat) (A0 : Option Addr) (c0 : Nat) (l0 : List (S35)) (a1 : Int) (r1 : List (S35)) (r2 : Int) (w : World) (hr0 : Kd.C k35 w A0 l0.length l0) (hc0 : l0.length ≤ c0) (h : papermillref04_Move.f k l0 a1 = some (r1, r2)) :
    Calls Try.prog 20 #[.slice A0 l0.length c0, .int .i64 a1] w fun e w' => ∃ v0_ : Value, e = .returned (.tuple #[v0_, .int .i64 r2]) ∧ Kd.R k35 35 w' w.heap.size (fun _ => True) v0_ r1 ∧ Below w.heap.size w w' := by
  have hu35 := Try.underlying35
  have HR0 := Aside0.mk hr0
  have HC0 := Aside0.mk hc0
  clear hr0 hc0
  have HB := Aside0.mk (Below.refl w.heap.size w)
  have H : ((papermillref04_Check.f k l0).bind fun t21001 => (if t21001 = 0 then (papermillref04_Move.l0 k l0 a1 ([] : List (S35)) 0) else (some (([] : List (S35)), t21001)))) = some (r1, r2) := h
  clear h
  replace H := Option.bind_eq_some_iff.mp H
  obtain ⟨t21001, A30, H⟩ := H
  replace H : (if t21001 = 0 then (papermillref04_Move.l0 k l0 a1 ([] : List (S35)) 0) else (some (([] : List (S35)), t21001))) = some (r1, r2) := H
  have A3 := Aside0.mk A30
  clear A30
  by_cases c4 : t21001 = 0
  · rw [if_pos c4] at H
    have c4b0 : (t21001 == 0) = true := beq_iff_eq.mpr c4
    have c4b1 : (t21001 != 0) = false := bne_eq_false_iff_eq.mpr c4
    clear c4
    have H' := Aside0.mk H
    clear H
    go_enter Try.func20, Try.ntmps20
    go_wp2_with (first | ((with_reducible refine gate_callee (f := 28) rfl ?_); refine goesL_ (some 10) rfl rfl Try.func28 (by kernel_rfl) rfl #[.slice A0 l0.length c0] rfl (by (try simp only [List.map_toArray, List.map_cons, List.map_nil]); first | done | rfl | (simp only [List.length_drop, List.length_take]; rfl)) ?_; (with_reducible refine (papermillref04_Check.calls k _ _ l0 t21001 _ ?side1 ?side2 A3.out).mono ?_); (case side1 => repeat (first | exact HR0.out | (with_reducible refine Kd.C_alloc ?_ _) | (with_reducible refine Kd.C_drewN ?_ _) | (with_reducible refine Kd.C_drew ?_))); (case side2 => exact HC0.out); rintro e w' ⟨rfl, ⟨nd, rfl⟩⟩; refine ⟨_, rfl, ?_⟩))
    go_loopg [7, 8] k (fun kq v7 v8 w' => ∃ (x7_1 : List (S35)) (x8_1 : Int), v8 = .int .i64 x8_1 ∧ Aside0 (papermillref04_Move.l0 kq l0 a1 x7_1 x8_1 = some (r1, r2)) ∧ Aside0 (kq ≤ k) ∧ Aside0 (Kd.R k35 35 w' w.heap.size (fun _ => True) v7 x7_1) ∧ Aside0 (Below w.heap.size w w'))
    case atStart => exact ⟨(([] : List (S35))), (0), (by first | rfl | (simp; done) | (simp [*]; done)), H', ⟨Nat.le_refl _⟩, ⟨by first | exact Kd.R_nil _ _ _ _ _ | exact Kd.N_nil _ _ _ _ _ | exact Kd.V_nil _ _ _ _ _ | exact Kd.Q_nil _ _ _ _ _ | exact Kd.S_nil _ _ _ _ _⟩, ⟨by repeat (first | (with_reducible first | exact HB.out | apply below_alloc | apply pw_below_drewN | apply below_drew1) | exact HB.out)⟩⟩
    case round =>
      clear H'
      try clear c2
      try clear p2
      try clear c4
      try clear c4b0
      try clear c4b1
      obtain ⟨x7_1, x8_1, rfl, HA, HK1, HO_7, HB⟩ := hrel
      cases gk with
      | zero => exact absurd HA.out (by simp [papermillref04_Move.l0])
      | succ k1 =>
        have H := HA.out
        clear HA
        simp only [papermillref04_Move.l0] at H
        by_cases c5 : x8_1 < (l0.length : Int)
        · rw [if_pos c5] at H
          have c5b0 : decide (x8_1 < (l0.length : Int)) = true := decide_eq_true c5
          clear c5
          by_cases c6 : 0 ≤ x8_1
          · rw [if_pos c6] at H
            have c6b0 : decide (0 ≤ x8_1) = true := decide_eq_true c6
            clear c6
            by_cases c7 : a1 < (wrap64 (-((rd_T35 l0 x8_1).f0)))
            · rw [if_pos c7] at H
              have c7b0 : decide (a1 < (wrap64 (-((rd_T35 l0 x8_1).f0)))) = true := decide_eq_true c7
              clear c7
              simp only [Option.some.injEq, Prod.mk.injEq] at H
              obtain ⟨rfl, rfl⟩ := H
              have p21002 : 0 ≤ (x8_1 : Int) := of_decide_eq_true (by first | (with_reducible assumption) | assumption)
              have q21002 : x8_1 < (l0.length : Int) := of_decide_eq_true (by first | (with_reducible assumption) | assumption)
              obtain ⟨ad21002, e21002, hx21002_0, hx21002_1⟩ := at_T35 HR0.out x8_1 p21002 q21002
              cases e21002
              replace hx21002_0 := (HB.out.cell (World.block_lt_of_cell? w _ hx21002_0)).trans hx21002_0
              replace hx21002_1 := (HB.out.cell (World.block_lt_of_cell? w _ hx21002_1)).trans hx21002_1
              replace p21002 := eq_true p21002
              replace q21002 := eq_true q21002
              go_wp2
              go_ret2
              exact ⟨_, by first | rfl | (simp [errW_none, errW_some] <;> rfl) | (simp [*, errW_none, errW_some] <;> rfl), by first | exact Kd.R_nil _ _ _ _ _ | exact Kd.N_nil _ _ _ _ _ | exact Kd.V_nil _ _ _ _ _ | exact Kd.Q_nil _ _ _ _ _ | exact Kd.S_nil _ _ _ _ _, by repeat (first | (with_reducible first | exact HB.out | apply below_alloc | apply pw_below_drewN | apply below_drew1) | exact HB.out)⟩
            · rw [if_neg c7] at H
              have c7b0 : decide (a1 < (wrap64 (-((rd_T35 l0 x8_1).f0)))) = false := decide_eq_false c7
              clear c7
              by_cases c8 : a1 > (wrap64 (17179869184 - ((rd_T35 l0 x8_1).f1)))
              · rw [if_pos c8] at H
                have c8b0 : decide ((wrap64 (17179869184 - ((rd_T35 l0 x8_1).f1))) < a1) = true := decide_eq_true c8
                clear c8
                simp only [Option.some.injEq, Prod.mk.injEq] at H
                obtain ⟨rfl, rfl⟩ := H
                have p21002 : 0 ≤ (x8_1 : Int) := of_decide_eq_true (by first | (with_reducible assumption) | assumption)
                have q21002 : x8_1 < (l0.length : Int) := of_decide_eq_true (by first | (with_reducible assumption) | assumption)
                obtain ⟨ad21002, e21002, hx21002_0, hx21002_1⟩ := at_T35 HR0.out x8_1 p21002 q21002
                cases e21002
                replace hx21002_0 := (HB.out.cell (World.block_lt_of_cell? w _ hx21002_0)).trans hx21002_0
                replace hx21002_1 := (HB.out.cell (World.block_lt_of_cell? w _ hx21002_1)).trans hx21002_1
                replace p21002 := eq_true p21002
                replace q21002 := eq_true q21002
                have p21003 : 0 ≤ (x8_1 : Int) := of_decide_eq_true (by first | (with_reducible assumption) | assumption)
                have q21003 : x8_1 < (l0.length : Int) := of_decide_eq_true (by first | (with_reducible assumption) | assumption)
                obtain ⟨ad21003, e21003, hx21003_0, hx21003_1⟩ := at_T35 HR0.out x8_1 p21003 q21003
                obtain rfl : ad21002 = ad21003 := (by injection e21003)
                replace hx21003_0 := (HB.out.cell (World.block_lt_of_cell? w _ hx21003_0)).trans hx21003_0
                replace hx21003_1 := (HB.out.cell (World.block_lt_of_cell? w _ hx21003_1)).trans hx21003_1
                replace p21003 := eq_true p21003
                replace q21003 := eq_true q21003
                go_wp2
                go_ret2
                exact ⟨_, by first | rfl | (simp [errW_none, errW_some] <;> rfl) | (simp [*, errW_none, errW_some] <;> rfl), by first | exact Kd.R_nil _ _ _ _ _ | exact Kd.N_nil _ _ _ _ _ | exact Kd.V_nil _ _ _ _ _ | exact Kd.Q_nil _ _ _ _ _ | exact Kd.S_nil _ _ _ _ _, by repeat (first | (with_reducible first | exact HB.out | apply below_alloc | apply pw_below_drewN | apply below_drew1) | exact HB.out)⟩
              · rw [if_neg c8] at H
                have c8b0 : decide ((wrap64 (17179869184 - ((rd_T35 l0 x8_1).f1))) < a1) = false := decide_eq_false c8
                clear c8
                by_cases c9 : x7_1.length < 8796093022208
                · rw [if_pos c9] at H
                  have LMc9 := Aside0.mk c9
                  clear c9
                  obtain ⟨y21006, hy21006⟩ : ∃ y_ : List (S35), y_ = (x7_1 ++ [(⟨wrap64 (((rd_T35 l0 x8_1).f0) + a1), wrap64 (((rd_T35 l0 x8_1).f1) + a1)⟩ : S35)]) := ⟨_, rfl⟩
                  replace H : (papermillref04_Move.l0 k1 l0 a1 y21006 (wrap64 (x8_1 + 1))) = some (r1, r2) := by first | (rw [hy21006]; with_reducible exact H) | (have H2_ := (Option.bind_some _ _).symm.trans H; rw [hy21006]; with_reducible exact H2_) | (have H2_ := (Option.bind_some _ _).symm.trans H; with_reducible exact H2_) | with_reducible exact H | (rw [hy21006]; exact H) | exact H
                  have Ny21006 := Aside0.mk hy21006
                  clear hy21006
                  have H' := Aside0.mk H
                  clear H
                  have p21002 : 0 ≤ (x8_1 : Int) := of_decide_eq_true (by first | (with_reducible assumption) | assumption)
                  have q21002 : x8_1 < (l0.length : Int) := of_decide_eq_true (by first | (with_reducible assumption) | assumption)
                  obtain ⟨ad21002, e21002, hx21002_0, hx21002_1⟩ := at_T35 HR0.out x8_1 p21002 q21002
                  cases e21002
                  replace hx21002_0 := (HB.out.cell (World.block_lt_of_cell? w _ hx21002_0)).trans hx21002_0
                  replace hx21002_1 := (HB.out.cell (World.block_lt_of_cell? w _ hx21002_1)).trans hx21002_1
                  replace p21002 := eq_true p21002
                  replace q21002 := eq_true q21002
                  have p21003 : 0 ≤ (x8_1 : Int) := of_decide_eq_true (by first | (with_reducible assumption) | assumption)
                  have q21003 : x8_1 < (l0.length : Int) := of_decide_eq_true (by first | (with_reducible assumption) | assumption)
                  obtain ⟨ad21003, e21003, hx21003_0, hx21003_1⟩ := at_T35 HR0.out x8_1 p21003 q21003
                  obtain rfl : ad21002 = ad21003 := (by injection e21003)
                  replace hx21003_0 := (HB.out.cell (World.block_lt_of_cell? w _ hx21003_0)).trans hx21003_0
                  replace hx21003_1 := (HB.out.cell (World.block_lt_of_cell? w _ hx21003_1)).trans hx21003_1
                  replace p21003 := eq_true p21003
                  replace q21003 := eq_true q21003
                  try go_wp2
                  have n0_ := Aside0.mk (Kd.R_drew HO_7.out)
                  have n1_ := Aside0.mk (below_drew1 HB.out)
                  clear HO_7
                  clear HB
                  have HO_7 := n0_
                  have HB := n1_
                  clear n0_ n1_
                  have p21004 : 0 ≤ (x8_1 : Int) := of_decide_eq_true (by first | (with_reducible assumption) | assumption)
                  have q21004 : x8_1 < (l0.length : Int) := of_decide_eq_true (by first | (with_reducible assumption) | assumption)
                  obtain ⟨ad21004, e21004, hx21004_0, hx21004_1⟩ := at_T35 HR0.out x8_1 p21004 q21004
                  have hw21004_1 := hx21004_1
                  have hw21004_0 := hx21004_0
                  obtain rfl : ad21002 = ad21004 := (by injection e21004)
                  replace hx21004_0 := (HB.out.cell (World.block_lt_of_cell? w _ hx21004_0)).trans hx21004_0
                  replace hx21004_1 := (HB.out.cell (World.block_lt_of_cell? w _ hx21004_1)).trans hx21004_1
                  replace p21004 := eq_true p21004
                  replace q21004 := eq_true q21004
                  have p21005 : 0 ≤ (x8_1 : Int) := of_decide_eq_true (by first | (with_reducible assumption) | assumption)
                  have q21005 : x8_1 < (l0.length : Int) := of_decide_eq_true (by first | (with_reducible assumption) | assumption)
                  obtain ⟨ad21005, e21005, hx21005_0, hx21005_1⟩ := at_T35 HR0.out x8_1 p21005 q21005
                  have hw21005_1 := hx21005_1
                  have hw21005_0 := hx21005_0
                  obtain rfl : ad21002 = ad21005 := (by injection e21005)
                  replace hx21005_0 := (HB.out.cell (World.block_lt_of_cell? w _ hx21005_0)).trans hx21005_0
                  replace hx21005_1 := (HB.out.cell (World.block_lt_of_cell? w _ hx21005_1)).trans hx21005_1
                  replace p21005 := eq_true p21005
                  replace q21005 := eq_true q21005
                  refine start_ (n := 19) (S := fun w' => w'.cell? (ad21002.add ((x8_1).toNat * 2)) = some (.int .i64 ((rd_T35 l0 x8_1).f0)) ∧ w'.cell? ⟨(ad21002.add ((x8_1).toNat * 2)).block, (ad21002.add ((x8_1).toNat * 2)).off + 1, none⟩ = some (.int .i64 ((rd_T35 l0 x8_1).f1)) ∧ w'.cell? (ad21002.add ((x8_1).toNat * 2)) = some (.int .i64 ((rd_T35 l0 x8_1).f0)) ∧ w'.cell? ⟨(ad21002.add ((x8_1).toNat * 2)).block, (ad21002.add ((x8_1).toNat * 2)).off + 1, none⟩ = some (.int .i64 ((rd_T35 l0 x8_1).f1))) (ds := []) #[false, false, false, false, false, false, false, false, false, false, false, false, false, false, false, false, false, false, false] (by kernel_rfl) rfl rfl ⟨((HB.out.cell (World.block_lt_of_cell? w _ hw21004_0)).trans hw21004_0), ((HB.out.cell (World.block_lt_of_cell? w _ hw21004_1)).trans hw21004_1), ((HB.out.cell (World.block_lt_of_cell? w _ hw21005_0)).trans hw21005_0), ((HB.out.cell (World.block_lt_of_cell? w _ hw21005_1)).trans hw21005_1)⟩ (fun hHeld => ?_); refine with_tabW papermillref04_Move.tab10 papermillref04_Move.bits10 (fun HT_ HW_ => ?_)
                  generalize wr.drew = w10 at HO_7 HB hx21004_0 hx21004_1 hx21005_0 hx21005_1 hHeld ⊢
                  refine pure_ (i := 0) (N := some 38) (v := ?_) (a' := ?_) #[true, false, false, false, false, false, false, false, false, false, false, false, false, false, false, false, false, false, false] rfl rfl (any_of HT_.out (by kernel_rfl)) (fun _ _ _ h => h) (Or.inl ⟨by rfl, ?_⟩) ?_ ?_
                  rotate_left
                  · intro w'
                    go_simp
                    with_reducible rfl
                  rotate_left
                  · simp only [Act.put, List.setIfInBounds_toArray, List.set_cons_zero, List.set_cons_succ, i64_w, i32_w]
                    rfl
                  refine pure_ (i := 1) (N := some 39) (v := ?_) (a' := ?_) #[true, true, false, false, false, false, false, false, false, false, false, false, false, false, false, false, false, false, false] rfl rfl (any_of HT_.out (by kernel_rfl)) (fun _ _ _ h => h) (Or.inl ⟨by rfl, ?_⟩) ?_ ?_
                  rotate_left
                  · intro w'
                    go_simp
                    with_reducible rfl
                  rotate_left
                  · simp only [Act.put, List.setIfInBounds_toArray, List.set_cons_zero, List.set_cons_succ, i64_w, i32_w]
                    rfl
                  refine pure_ (i := 2) (N := some 40) (v := ?_) (a' := ?_) #[true, true, true, false, false, false, false, false, false, false, false, false, false, false, false, false, false, false, false] rfl rfl (any_of HT_.out (by kernel_rfl)) (fun _ _ _ h => h) (Or.inl ⟨by rfl, ?_⟩) ?_ ?_
                  rotate_left
                  · intro w'
                    go_simp
                    with_reducible rfl
                  rotate_left
                  · simp only [Act.put, List.setIfInBounds_toArray, List.set_cons_zero, List.set_cons_succ, i64_w, i32_w]
                    rfl
                  refine pure_ (i := 3) (N := some 41) (v := ?_) (a' := ?_) #[true, true, true, true, false, false, false, false, false, false, false, false, false, false, false, false, false, false, false] rfl rfl (any_of HT_.out (by kernel_rfl)) (fun _ _ _ h => h) (Or.inl ⟨by rfl, ?_⟩) ?_ ?_
                  rotate_left
                  · intro w'
                    go_simp
                    with_reducible rfl
                  rotate_left
                  · simp only [Act.put, List.setIfInBounds_toArray, List.set_cons_zero, List.set_cons_succ, i64_w, i32_w]
                    rfl
                  refine pure_ (i := 4) (N := some 42) (v := ?_) (a' := ?_) #[true, true, true, true, true, false, false, false, false, false, false, false, false, false, false, false, false, false, false] rfl rfl (any_of HT_.out (by kernel_rfl)) (fun _ _ _ h => h) (Or.inl ⟨by rfl, ?_⟩) ?_ ?_
                  rotate_left
                  · intro w'
                    go_simp
                    with_reducible rfl
                  rotate_left
                  · simp only [Act.put, List.setIfInBounds_toArray, List.set_cons_zero, List.set_cons_succ, i64_w, i32_w]
                    rfl
                  refine pure_ (i := 6) (N := some 44) (v := ?_) (a' := ?_) #[true, true, true, true, true, false, true, false, false, false, false, false, false, false, false, false, false, false, false] rfl rfl (any_of HT_.out (by kernel_rfl)) (fun _ _ _ h => h) (Or.inl ⟨by rfl, ?_⟩) ?_ ?_
                  rotate_left
                  · intro w'
                    go_simp
                    with_reducible rfl
                  rotate_left
                  · simp only [Act.put, List.setIfInBounds_toArray, List.set_cons_zero, List.set_cons_succ, i64_w, i32_w]
                    rfl
                  refine pure_ (i := 8) (N := some 46) (v := ?_) (a' := ?_) #[true, true, true, true, true, false, true, false, true, false, false, false, false, false, false, false, false, false, false] rfl rfl (any_of HT_.out (by kernel_rfl)) (fun _ _ _ h => h) (Or.inl ⟨by rfl, ?_⟩) ?_ ?_
                  rotate_left
                  · intro w'
                    go_simp
                    with_reducible rfl
                  rotate_left
                  · simp only [Act.put, List.setIfInBounds_toArray, List.set_cons_zero, List.set_cons_succ, i64_w, i32_w]
                    rfl
                  refine pure_ (i := 9) (N := some 47) (v := ?_) (a' := ?_) #[true, true, true, true, true, false, true, false, true, true, false, false, false, false, false, false, false, false, false] rfl rfl (any_of HT_.out (by kernel_rfl)) (fun _ _ _ h => h) (Or.inl ⟨by rfl, ?_⟩) ?_ ?_
                  rotate_left
                  · intro w'
                    go_simp
                    with_reducible rfl
                  rotate_left
                  · simp only [Act.put, List.setIfInBounds_toArray, List.set_cons_zero, List.set_cons_succ, i64_w, i32_w]
                    rfl
                  refine pure_ (i := 10) (N := some 48) (v := ?_) (a' := ?_) #[true, true, true, true, true, false, true, false, true, true, true, false, false, false, false, false, false, false, false] rfl rfl (any_of HT_.out (by kernel_rfl)) (fun _ _ _ h => h) (Or.inl ⟨by rfl, ?_⟩) ?_ ?_
                  rotate_left
                  · intro w'
                    go_simp
                    with_reducible rfl
                  rotate_left
                  · simp only [Act.put, List.setIfInBounds_toArray, List.set_cons_zero, List.set_cons_succ, i64_w, i32_w]
                    rfl
                  refine pure_ (i := 11) (N := some 49) (v := ?_) (a' := ?_) #[true, true, true, true, true, false, true, false, true, true, true, true, false, false, false, false, false, false, false] rfl rfl (any_of HT_.out (by kernel_rfl)) (fun _ _ _ h => h) (Or.inl ⟨by rfl, ?_⟩) ?_ ?_
                  rotate_left
                  · intro w'
                    go_simp
                    with_reducible rfl
                  rotate_left
                  · simp only [Act.put, List.setIfInBounds_toArray, List.set_cons_zero, List.set_cons_succ, i64_w, i32_w]
                    rfl
                  refine pure_ (i := 13) (N := some 51) (v := ?_) (a' := ?_) #[true, true, true, true, true, false, true, false, true, true, true, true, false, true, false, false, false, false, false] rfl rfl (any_of HT_.out (by kernel_rfl)) (fun _ _ _ h => h) (Or.inl ⟨by rfl, ?_⟩) ?_ ?_
                  rotate_left
                  · intro w'
                    go_simp
                    with_reducible rfl
                  rotate_left
                  · simp only [Act.put, List.setIfInBounds_toArray, List.set_cons_zero, List.set_cons_succ, i64_w, i32_w]
                    rfl
                  refine take_ (i := 5) (N := some 43) (v := ?_) (a' := ?_) #[true, true, true, true, true, true, true, false, true, true, true, true, false, true, false, false, false, false, false] rfl rfl (take_ofW HT_.out HW_.out (by kernel_rfl)) (fun _ _ _ h => h) (Or.inl ⟨by rfl, ?_⟩) hHeld ?_ ?_
                  rotate_left
                  · rintro w' ⟨s0, s1, s2, s3⟩
                    go_simp
                    with_reducible rfl
                  rotate_left
                  · simp only [Act.put, List.setIfInBounds_toArray, List.set_cons_zero, List.set_cons_succ, i64_w, i32_w]
                    rfl
                  refine pure_ (i := 7) (N := some 45) (v := ?_) (a' := ?_) #[true, true, true, true, true, true, true, true, true, true, true, true, false, true, false, false, false, false, false] rfl rfl (any_of HT_.out (by kernel_rfl)) (fun _ _ _ h => h) (Or.inl ⟨by rfl, ?_⟩) ?_ ?_
                  rotate_left
                  · intro w'
                    go_simp
                    with_reducible rfl
                  rotate_left
                  · simp only [Act.put, List.setIfInBounds_toArray, List.set_cons_zero, List.set_cons_succ, i64_w, i32_w]
                    rfl
                  refine take_ (i := 12) (N := some 50) (v := ?_) (a' := ?_) #[true, true, true, true, true, true, true, true, true, true, true, true, true, true, false, false, false, false, false] rfl rfl (take_ofW HT_.out HW_.out (by kernel_rfl)) (fun _ _ _ h => h) (Or.inl ⟨by rfl, ?_⟩) hHeld ?_ ?_
                  rotate_left
                  · rintro w' ⟨s0, s1, s2, s3⟩
                    go_simp
                    with_reducible rfl
                  rotate_left
                  · simp only [Act.put, List.setIfInBounds_toArray, List.set_cons_zero, List.set_cons_succ, i64_w, i32_w]
                    rfl
                  refine pure_ (i := 14) (N := some 52) (v := ?_) (a' := ?_) #[true, true, true, true, true, true, true, true, true, true, true, true, true, true, true, false, false, false, false] rfl rfl (any_of HT_.out (by kernel_rfl)) (fun _ _ _ h => h) (Or.inl ⟨by rfl, ?_⟩) ?_ ?_
                  rotate_left
                  · intro w'
                    go_simp
                    with_reducible rfl
                  rotate_left
                  · simp only [Act.put, List.setIfInBounds_toArray, List.set_cons_zero, List.set_cons_succ, i64_w, i32_w]
                    rfl
                  refine pure_ (i := 15) (N := some 53) (v := ?_) (a' := ?_) #[true, true, true, true, true, true, true, true, true, true, true, true, true, true, true, true, false, false, false] rfl rfl (any_of HT_.out (by kernel_rfl)) (fun _ _ _ h => h) (Or.inl ⟨by rfl, ?_⟩) ?_ ?_
                  rotate_left
                  · intro w'
                    go_simp
                    with_reducible rfl
                  rotate_left
                  · simp only [Act.put, List.setIfInBounds_toArray, List.set_cons_zero, List.set_cons_succ, i64_w, i32_w]
                    rfl
                  refine one_ (i := 16) (N := some 54) #[true, true, true, true, true, true, true, true, true, true, true, true, true, true, true, true, true, false, false] rfl rfl (one_of HT_.out (by kernel_rfl)) (by decide) (fun K hK => ?_)
                  refine value_ (w1 := ?_) (v := ?_) (by rfl) rfl ?_ ?_
                  rotate_left 2
                  · go_simp
                    constructor
                    · rfl
                    · rfl
                  refine hK.out _ _ ⟨(World.cell?_alloc_lt _ _ _ (World.block_lt_of_cell? _ _ (((HB.out.cell (World.block_lt_of_cell? w _ hw21004_0)).trans hw21004_0)))).trans (((HB.out.cell (World.block_lt_of_cell? w _ hw21004_0)).trans hw21004_0)), (World.cell?_alloc_lt _ _ _ (World.block_lt_of_cell? _ _ (((HB.out.cell (World.block_lt_of_cell? w _ hw21004_1)).trans hw21004_1)))).trans (((HB.out.cell (World.block_lt_of_cell? w _ hw21004_1)).trans hw21004_1)), (World.cell?_alloc_lt _ _ _ (World.block_lt_of_cell? _ _ (((HB.out.cell (World.block_lt_of_cell? w _ hw21005_0)).trans hw21005_0)))).trans (((HB.out.cell (World.block_lt_of_cell? w _ hw21005_0)).trans hw21005_0)), (World.cell?_alloc_lt _ _ _ (World.block_lt_of_cell? _ _ (((HB.out.cell (World.block_lt_of_cell? w _ hw21005_1)).trans hw21005_1)))).trans (((HB.out.cell (World.block_lt_of_cell? w _ hw21005_1)).trans hw21005_1))⟩ (fun hHeld => ?_)
                  clear hK K
                  refine norm_ (a' := ?_) ?_ ?_
                  rotate_left
                  · show Act.put _ (some 54) _ = _
                    simp only [Act.put, List.setIfInBounds_toArray, List.set_cons_zero, List.set_cons_succ, i64_w, i32_w]
                    rfl
                  refine one_ (i := 17) (N := some 55) #[true, true, true, true, true, true, true, true, true, true, true, true, true, true, true, true, true, true, false] rfl rfl (one_of HT_.out (by kernel_rfl)) (by decide) (fun K hK => ?_)
                  refine Kd.R_append_step k35 (w0 := w) w.heap.size (by rfl) (.tmp 38) (.tmp 54) 22 35 (.agg #[(.int .i64 0), (.int .i64 0)]) 16 rfl Try.underlying22 info35 rfl (by decide) (by omega) u7 x7_1 (⟨wrap64 (((rd_T35 l0 x8_1).f0) + a1), wrap64 (((rd_T35 l0 x8_1).f1) + a1)⟩ : S35) [.int .i64 (wrap64 (((rd_T35 l0 x8_1).f0) + a1)), .int .i64 (wrap64 (((rd_T35 l0 x8_1).f1) + a1))] (fun _ => True) (fun _ => False) rfl rfl ?aP (fun _ hk => hk.elim) ?aF ?aO ?aB ?aS ?aL ?_
                  (case aP => exact k35_mkM _ _ _ (⟨wrap64 (((rd_T35 l0 x8_1).f0) + a1), wrap64 (((rd_T35 l0 x8_1).f1) + a1)⟩ : S35))
                  (case aB => exact (by repeat (first | (with_reducible first | exact HB.out | apply below_alloc | apply pw_below_drewN | apply below_drew1) | exact HB.out)))
                  (case aF => exact (fun _ _ => trivial))
                  (case aO => exact (by (with_reducible repeat (first | apply Kd.R_alloc | apply Kd.R_drewN | apply Kd.R_drew)); exact HO_7.out))
                  (case aS => exact (below_size (by repeat (first | (with_reducible first | exact HB.out | apply below_alloc | apply pw_below_drewN | apply below_drew1) | exact HB.out))))
                  (case aL => have := LMc9.out; omega)
                  intro v21007 w11 ho hb hg hat
                  rw [← Ny21006.out] at ho
                  have n0_ := Aside0.mk (hb)
                  have n1_ := Aside0.mk (ho)
                  clear HB
                  clear HO_7
                  have HB := n0_
                  have HO21008 := n1_
                  clear n0_ n1_
                  clear ho hb hg hat
                  refine hK.out _ _ ⟨((HB.out.cell (World.block_lt_of_cell? w _ hw21004_0)).trans hw21004_0), ((HB.out.cell (World.block_lt_of_cell? w _ hw21004_1)).trans hw21004_1), ((HB.out.cell (World.block_lt_of_cell? w _ hw21005_0)).trans hw21005_0), ((HB.out.cell (World.block_lt_of_cell? w _ hw21005_1)).trans hw21005_1)⟩ (fun hHeld => ?_)
                  clear hK K
                  refine norm_ (a' := ?_) ?_ ?_
                  rotate_left
                  · show Act.put _ (some 55) _ = _
                    simp only [Act.put, List.setIfInBounds_toArray, List.set_cons_zero, List.set_cons_succ, i64_w, i32_w]
                    rfl
                  refine pure_ (i := 18) (N := some 7) (v := ?_) (a' := ?_) #[true, true, true, true, true, true, true, true, true, true, true, true, true, true, true, true, true, true, true] rfl rfl (any_of HT_.out (by kernel_rfl)) (fun _ _ _ h => h) (Or.inl ⟨by rfl, ?_⟩) ?_ ?_
                  rotate_left
                  · intro w'
                    go_simp
                    with_reducible rfl
                  rotate_left
                  · simp only [Act.put, List.setIfInBounds_toArray, List.set_cons_zero, List.set_cons_succ, i64_w, i32_w]
                    rfl
                  refine done_ (done_of HT_.out (by kernel_rfl)) ?_
                  try go_wp2
                  go_roundg k1
                  case measure => have := HK1.out; omega
                  case rel => exact ⟨(y21006), (wrap64 (x8_1 + 1)), (by first | rfl | (simp; done) | (simp [*]; done)), H', ⟨by have := HK1.out; omega⟩, ⟨by (with_reducible repeat (first | apply Kd.R_alloc | apply Kd.R_drewN | apply Kd.R_drew)); exact HO21008.out⟩, ⟨by repeat (first | (with_reducible first | exact HB.out | apply below_alloc | apply pw_below_drewN | apply below_drew1) | exact HB.out)⟩⟩
                · rw [if_neg c9] at H
                  exact absurd H (by simp)
          · rw [if_neg c6] at H
            exact absurd H (by simp)
        · rw [if_neg c5] at H
          have c5b0 : decide (x8_1 < (l0.length : Int)) = false := decide_eq_false c5
          clear c5
          simp only [Option.some.injEq, Prod.mk.injEq] at H
          obtain ⟨rfl, rfl⟩ := H
          go_wp2
          go_ret2
          exact ⟨_, by first | rfl | (simp [errW_none, errW_some] <;> rfl) | (simp [*, errW_none, errW_some] <;> rfl), by (with_reducible repeat (first | apply Kd.R_alloc | apply Kd.R_drewN | apply Kd.R_drew)); exact HO_7.out, by repeat (first | (with_reducible first | exact HB.out | apply below_alloc | apply pw_below_drewN | apply below_drew1) | exact HB.out)⟩
  · rw [if_neg c4] at H
    have c4b0 : (t21001 == 0) = false := beq_eq_false_iff_ne.mpr c4
    have c4b1 : (t21001 != 0) = true := bne_iff_ne.mpr c4
    simp only [Option.some.injEq, Prod.mk.injEq] at H
    obtain ⟨rfl, rfl⟩ := H
    go_enter Try.func20, Try.ntmps20
    go_wp2_with (first | ((with_reducible refine gate_callee (f := 28) rfl ?_); refine goesL_ (some 10) rfl rfl Try.func28 (by kernel_rfl) rfl #[.slice A0 l0.length c0] rfl (by (try simp only [List.map_toArray, List.map_cons, List.map_nil]); first | done | rfl | (simp only [List.length_drop, List.length_take]; rfl)) ?_; (with_reducible refine (papermillref04_Check.calls k _ _ l0 t21001 _ ?side1 ?side2 A3.out).mono ?_); (case side1 => repeat (first | exact HR0.out | (with_reducible refine Kd.C_alloc ?_ _) | (with_reducible refine Kd.C_drewN ?_ _) | (with_reducible refine Kd.C_drew ?_))); (case side2 => exact HC0.out); rintro e w' ⟨rfl, ⟨nd, rfl⟩⟩; refine ⟨_, rfl, ?_⟩))
    go_ret2
    exact ⟨_, by first | rfl | (simp [errW_none, errW_some] <;> rfl) | (simp [*, errW_none, errW_some] <;> rfl), by first | exact Kd.R_nil _ _ _ _ _ | exact Kd.N_nil _ _ _ _ _ | exact Kd.V_nil _ _ _ _ _ | exact Kd.Q_nil _ _ _ _ _ | exact Kd.S_nil _ _ _ _ _, by repeat (first | (with_reducible first | exact HB.out | apply below_alloc | apply pw_below_drewN | apply below_drew1) | exact HB.out)⟩

end Go.Proofs.Ytlfcaoniclnimaa.G

namespace Go.Proofs.Ytlfcaoniclnimaa.G
open Go.RowKit Go.Proofs.YtlfcaoniclnimaaW.PrintWords Go.Proofs.YtlfcaoniclnimaaW.PrintLast Go.Proofs.YtlfcaoniclnimaaW.PrintMore
attribute [local go_sem] max2_int min2_int max_two min_two max_three min_three max_four min_four   -- for this text's walks alone
set_option linter.unusedVariables false
set_option linter.unusedSimpArgs false

/-! ### papermillref04_Union: function 22 -/
def papermillref04_Union.f (k : Nat) (l0 : List (S35)) (l1 : List (S35)) : Option ((List (S35)) × Int) := (papermillref04_both.f k l0 l1 0).bind fun bt23001 => (some (bt23001.1, bt23001.2))
theorem papermillref04_Union.mono : ∀ a0 a1 k, LeO (papermillref04_Union.f k a0 a1) (papermillref04_Union.f (k + 1) a0 a1) := by
  intro a0 a1 k
  unfold papermillref04_Union.f
  repeat' first
      | (with_reducible exact papermillref04_both.mono _ _ _ _)
      | (with_reducible exact LeO.refl _)
      | (with_reducible exact LeO.none _)
      | (with_reducible refine LeO.ite ?_ ?_)
      | (with_reducible refine LeO.bind ?_ (fun _ => ?_))
      | exact papermillref04_both.mono _ _ _ _
      | exact LeO.none _
      | refine LeO.ite ?_ ?_
      | refine LeO.bind ?_ (fun _ => ?_)
set_option maxHeartbeats 8000000 in
set_option maxRecDepth 100000 in
theorem papermillref04_Union.calls (k : Nat) (A0 : Option Addr) (c0 : Nat) (l0 : List (S35)) (A1 : Option Addr) (c1 : Nat) (l1 : List (S35)) (r1 : List (S35)) (r2 : Int) (w : World) (hr0 : Kd.C k35 w A0 l0.length l0) (hc0 : l0.length ≤ c0) (hr1 : Kd.C k35 w A1 l1.length l1) (hc1 : l1.length ≤ c1) (h : papermillref04_Union.f k l0 l1 = some (r1, r2)) :
    Calls Try.prog 22 #[.slice A0 l0.length c0, .slice A1 l1.length c1] w fun e w' => ∃ v0_ : Value, e = .returned (.tuple #[v0_, .int .i64 r2]) ∧ Kd.R k35 35 w' w.heap.size (fun _ => True) v0_ r1 ∧ Below w.heap.size w w' := by
  have HR0 := Aside0.mk hr0
  have HC0 := Aside0.mk hc0
  clear hr0 hc0
  have HR1 := Aside0.mk hr1
  have HC1 := Aside0.mk hc1
  clear hr1 hc1
  have HB := Aside0.mk (Below.refl w.heap.size w)
  have H : ((papermillref04_both.f k l0 l1 0).bind fun bt23001 => (some (bt23001.1, bt23001.2))) = some (r1, r2) := h
  clear h
  replace H := Option.bind_eq_some_iff.mp H
  obtain ⟨⟨t23001, t23002⟩, A30, H⟩ := H
  replace H : (some (t23001, t23002)) = some (r1, r2) := H
  have A3 := Aside0.mk A30
  clear A30
  simp only [Option.some.injEq, Prod.mk.injEq] at H
  obtain ⟨rfl, rfl⟩ := H
  go_enter Try.func22, Try.ntmps22
  go_wp2_with (first | ((with_reducible refine gate_callee (f := 33) rfl ?_); refine goesL_ (some 8) rfl rfl Try.func33 (by kernel_rfl) rfl #[.slice A0 l0.length c0, .slice A1 l1.length c1, .int .i64 0] rfl (by (try simp only [List.map_toArray, List.map_cons, List.map_nil]); first | done | rfl | (simp only [List.length_drop, List.length_take]; rfl)) ?_; (with_reducible refine (papermillref04_both.calls k _ _ l0 _ _ l1 0 t23001 t23002 _ ?side1 ?side2 ?side3 ?side4 A3.out).mono ?_); (case side1 => repeat (first | exact HR0.out | (with_reducible refine Kd.C_alloc ?_ _) | (with_reducible refine Kd.C_drewN ?_ _) | (with_reducible refine Kd.C_drew ?_))); (case side2 => exact HC0.out); (case side3 => repeat (first | exact HR1.out | (with_reducible refine Kd.C_alloc ?_ _) | (with_reducible refine Kd.C_drewN ?_ _) | (with_reducible refine Kd.C_drew ?_))); (case side4 => exact HC1.out); rintro e w4 ⟨v23003, rfl, ho0, hb⟩; refine ⟨_, rfl, ?_⟩; have n0_ := Aside0.mk (Kd.R_lower ho0 (below_size (by repeat (first | (with_reducible first | exact HB.out | apply below_alloc | apply pw_below_drewN | apply below_drew1) | exact HB.out)))); have n1_ := Aside0.mk (below_step (by repeat (first | (with_reducible first | exact HB.out | apply below_alloc | apply pw_below_drewN | apply below_drew1) | exact HB.out)) hb); clear HB; have HO23004 := n0_; have HB := n1_; clear n0_ n1_; (try clear hb); (try clear hb2); (try clear hk); (try clear hi); (try clear ho0)))
  go_ret2
  exact ⟨_, by first | rfl | (simp [errW_none, errW_some] <;> rfl) | (simp [*, errW_none, errW_some] <;> rfl), by (with_reducible repeat (first | apply Kd.R_alloc | apply Kd.R_drewN | apply Kd.R_drew)); exact HO23004.out, by repeat (first | (with_reducible first | exact HB.out | apply below_alloc | apply pw_below_drewN | apply below_drew1) | exact HB.out)⟩

end Go.Proofs.Ytlfcaoniclnimaa.G

namespace Go.Proofs.Ytlfcaoniclnimaa.G
open Go.RowKit Go.Proofs.YtlfcaoniclnimaaW.PrintWords Go.Proofs.YtlfcaoniclnimaaW.PrintLast Go.Proofs.YtlfcaoniclnimaaW.PrintMore
attribute [local go_sem] max2_int min2_int max_two min_two max_three min_three max_four min_four   -- for this text's walks alone
set_option linter.unusedVariables false
set_option linter.unusedSimpArgs false

/-! ### papermillref04_Common: function 24 -/
def papermillref04_Common.f (k : Nat) (l0 : List (S35)) (l1 : List (S35)) : Option ((List (S35)) × Int) := (papermillref04_both.f k l0 l1 1).bind fun bt25001 => (some (bt25001.1, bt25001.2))
theorem papermillref04_Common.mono : ∀ a0 a1 k, LeO (papermillref04_Common.f k a0 a1) (papermillref04_Common.f (k + 1) a0 a1) := by
  intro a0 a1 k
  unfold papermillref04_Common.f
  repeat' first
      | (with_reducible exact papermillref04_both.mono _ _ _ _)
      | (with_reducible exact LeO.refl _)
      | (with_reducible exact LeO.none _)
      | (with_reducible refine LeO.ite ?_ ?_)
      | (with_reducible refine LeO.bind ?_ (fun _ => ?_))
      | exact papermillref04_both.mono _ _ _ _
      | exact LeO.none _
      | refine LeO.ite ?_ ?_
      | refine LeO.bind ?_ (fun _ => ?_)
set_option maxHeartbeats 8000000 in
set_option maxRecDepth 100000 in
theorem papermillref04_Common.calls (k : Nat) (A0 : Option Addr) (c0 : Nat) (l0 : List (S35)) (A1 : Option Addr) (c1 : Nat) (l1 : List (S35)) (r1 : List (S35)) (r2 : Int) (w : World) (hr0 : Kd.C k35 w A0 l0.length l0) (hc0 : l0.length ≤ c0) (hr1 : Kd.C k35 w A1 l1.length l1) (hc1 : l1.length ≤ c1) (h : papermillref04_Common.f k l0 l1 = some (r1, r2)) :
    Calls Try.prog 24 #[.slice A0 l0.length c0, .slice A1 l1.length c1] w fun e w' => ∃ v0_ : Value, e = .returned (.tuple #[v0_, .int .i64 r2]) ∧ Kd.R k35 35 w' w.heap.size (fun _ => True) v0_ r1 ∧ Below w.heap.size w w' := by
  have HR0 := Aside0.mk hr0
  have HC0 := Aside0.mk hc0
  clear hr0 hc0
  have HR1 := Aside0.mk hr1
  have HC1 := Aside0.mk hc1
  clear hr1 hc1
  have HB := Aside0.mk (Below.refl w.heap.size w)
  have H : ((papermillref04_both.f k l0 l1 1).bind fun bt25001 => (some (bt25001.1, bt25001.2))) = some (r1, r2) := h
  clear h
  replace H := Option.bind_eq_some_iff.mp H
  obtain ⟨⟨t25001, t25002⟩, A30, H⟩ := H
  replace H : (some (t25001, t25002)) = some (r1, r2) := H
  have A3 := Aside0.mk A30
  clear A30
  simp only [Option.some.injEq, Prod.mk.injEq] at H
  obtain ⟨rfl, rfl⟩ := H
  go_enter Try.func24, Try.ntmps24
  go_wp2_with (first | ((with_reducible refine gate_callee (f := 33) rfl ?_); refine goesL_ (some 8) rfl rfl Try.func33 (by kernel_rfl) rfl #[.slice A0 l0.length c0, .slice A1 l1.length c1, .int .i64 1] rfl (by (try simp only [List.map_toArray, List.map_cons, List.map_nil]); first | done | rfl | (simp only [List.length_drop, List.length_take]; rfl)) ?_; (with_reducible refine (papermillref04_both.calls k _ _ l0 _ _ l1 1 t25001 t25002 _ ?side1 ?side2 ?side3 ?side4 A3.out).mono ?_); (case side1 => repeat (first | exact HR0.out | (with_reducible refine Kd.C_alloc ?_ _) | (with_reducible refine Kd.C_drewN ?_ _) | (with_reducible refine Kd.C_drew ?_))); (case side2 => exact HC0.out); (case side3 => repeat (first | exact HR1.out | (with_reducible refine Kd.C_alloc ?_ _) | (with_reducible refine Kd.C_drewN ?_ _) | (with_reducible refine Kd.C_drew ?_))); (case side4 => exact HC1.out); rintro e w4 ⟨v25003, rfl, ho0, hb⟩; refine ⟨_, rfl, ?_⟩; have n0_ := Aside0.mk (Kd.R_lower ho0 (below_size (by repeat (first | (with_reducible first | exact HB.out | apply below_alloc | apply pw_below_drewN | apply below_drew1) | exact HB.out)))); have n1_ := Aside0.mk (below_step (by repeat (first | (with_reducible first | exact HB.out | apply below_alloc | apply pw_below_drewN | apply below_drew1) | exact HB.out)) hb); clear HB; have HO25004 := n0_; have HB := n1_; clear n0_ n1_; (try clear hb); (try clear hb2); (try clear hk); (try clear hi); (try clear ho0)))
  go_ret2
  exact ⟨_, by first | rfl | (simp [errW_none, errW_some] <;> rfl) | (simp [*, errW_none, errW_some] <;> rfl), by (with_reducible repeat (first | apply Kd.R_alloc | apply Kd.R_drewN | apply Kd.R_drew)); exact HO25004.out, by repeat (first | (with_reducible first | exact HB.out | apply below_alloc | apply pw_below_drewN | apply below_drew1) | exact HB.out)⟩

end Go.Proofs.Ytlfcaoniclnimaa.G

namespace Go.Proofs.Ytlfcaoniclnimaa.G
open Go.RowKit Go.Proofs.YtlfcaoniclnimaaW.PrintWords Go.Proofs.YtlfcaoniclnimaaW.PrintLast Go.Proofs.YtlfcaoniclnimaaW.PrintMore
attribute [local go_sem] max2_int min2_int max_two min_two max_three min_three max_four min_four   -- for this text's walks alone
set_option linter.unusedVariables false
set_option linter.unusedSimpArgs false

/-! ### papermillref04_Minus: function 26 -/
def papermillref04_Minus.f (k : Nat) (l0 : List (S35)) (l1 : List (S35)) : Option ((List (S35)) × Int) := (papermillref04_both.f k l0 l1 2).bind fun bt27001 => (some (bt27001.1, bt27001.2))
theorem papermillref04_Minus.mono : ∀ a0 a1 k, LeO (papermillref04_Minus.f k a0 a1) (papermillref04_Minus.f (k + 1) a0 a1) := by
  intro a0 a1 k
  unfold papermillref04_Minus.f
  repeat' first
      | (with_reducible exact papermillref04_both.mono _ _ _ _)
      | (with_reducible exact LeO.refl _)
      | (with_reducible exact LeO.none _)
      | (with_reducible refine LeO.ite ?_ ?_)
      | (with_reducible refine LeO.bind ?_ (fun _ => ?_))
      | exact papermillref04_both.mono _ _ _ _
      | exact LeO.none _
      | refine LeO.ite ?_ ?_
      | refine LeO.bind ?_ (fun _ => ?_)
set_option maxHeartbeats 8000000 in
set_option maxRecDepth 100000 in
theorem papermillref04_Minus.calls (k : Nat) (A0 : Option Addr) (c0 : Nat) (l0 : List (S35)) (A1 : Option Addr) (c1 : Nat) (l1 : List (S35)) (r1 : List (S35)) (r2 : Int) (w : World) (hr0 : Kd.C k35 w A0 l0.length l0) (hc0 : l0.length ≤ c0) (hr1 : Kd.C k35 w A1 l1.length l1) (hc1 : l1.length ≤ c1) (h : papermillref04_Minus.f k l0 l1 = some (r1, r2)) :
    Calls Try.prog 26 #[.slice A0 l0.length c0, .slice A1 l1.length c1] w fun e w' => ∃ v0_ : Value, e = .returned (.tuple #[v0_, .int .i64 r2]) ∧ Kd.R k35 35 w' w.heap.size (fun _ => True) v0_ r1 ∧ Below w.heap.size w w' := by
  have HR0 := Aside0.mk hr0
  have HC0 := Aside0.mk hc0
  clear hr0 hc0
  have HR1 := Aside0.mk hr1
  have HC1 := Aside0.mk hc1
  clear hr1 hc1
  have HB := Aside0.mk (Below.refl w.heap.size w)
  have H : ((papermillref04_both.f k l0 l1 2).bind fun bt27001 => (some (bt27001.1, bt27001.2))) = some (r1, r2) := h
  clear h
  replace H := Option.bind_eq_some_iff.mp H
  obtain ⟨⟨t27001, t27002⟩, A30, H⟩ := H
  replace H : (some (t27001, t27002)) = some (r1, r2) := H
  have A3 := Aside0.mk A30
  clear A30
  simp only [Option.some.injEq, Prod.mk.injEq] at H
  obtain ⟨rfl, rfl⟩ := H
  go_enter Try.func26, Try.ntmps26
  go_wp2_with (first | ((with_reducible refine gate_callee (f := 33) rfl ?_); refine goesL_ (some 8) rfl rfl Try.func33 (by kernel_rfl) rfl #[.slice A0 l0.length c0, .slice A1 l1.length c1, .int .i64 2] rfl (by (try simp only [List.map_toArray, List.map_cons, List.map_nil]); first | done | rfl | (simp only [List.length_drop, List.length_take]; rfl)) ?_; (with_reducible refine (papermillref04_both.calls k _ _ l0 _ _ l1 2 t27001 t27002 _ ?side1 ?side2 ?side3 ?side4 A3.out).mono ?_); (case side1 => repeat (first | exact HR0.out | (with_reducible refine Kd.C_alloc ?_ _) | (with_reducible refine Kd.C_drewN ?_ _) | (with_reducible refine Kd.C_drew ?_))); (case side2 => exact HC0.out); (case side3 => repeat (first | exact HR1.out | (with_reducible refine Kd.C_alloc ?_ _) | (with_reducible refine Kd.C_drewN ?_ _) | (with_reducible refine Kd.C_drew ?_))); (case side4 => exact HC1.out); rintro e w4 ⟨v27003, rfl, ho0, hb⟩; refine ⟨_, rfl, ?_⟩; have n0_ := Aside0.mk (Kd.R_lower ho0 (below_size (by repeat (first | (with_reducible first | exact HB.out | apply below_alloc | apply pw_below_drewN | apply below_drew1) | exact HB.out)))); have n1_ := Aside0.mk (below_step (by repeat (first | (with_reducible first | exact HB.out | apply below_alloc | apply pw_below_drewN | apply below_drew1) | exact HB.out)) hb); clear HB; have HO27004 := n0_; have HB := n1_; clear n0_ n1_; (try clear hb); (try clear hb2); (try clear hk); (try clear hi); (try clear ho0)))
  go_ret2
  exact ⟨_, by first | rfl | (simp [errW_none, errW_some] <;> rfl) | (simp [*, errW_none, errW_some] <;> rfl), by (with_reducible repeat (first | apply Kd.R_alloc | apply Kd.R_drewN | apply Kd.R_drew)); exact HO27004.out, by repeat (first | (with_reducible first | exact HB.out | apply below_alloc | apply pw_below_drewN | apply below_drew1) | exact HB.out)⟩

end Go.Proofs.Ytlfcaoniclnimaa.G

namespace Go.Proofs.Ytlfcaoniclnimaa.G
open Go.RowKit Go.Proofs.YtlfcaoniclnimaaW.PrintWords Go.Proofs.YtlfcaoniclnimaaW.PrintLast Go.Proofs.YtlfcaoniclnimaaW.PrintMore
set_option linter.unusedVariables false
set_option linter.unusedSimpArgs false
/-! ### what the functions of span answer -/
theorem hasOf_nil (x : Int) : hasOf [] x = false := rfl
theorem joinOf_nil : joinOf [] = [] := rfl
theorem norm_ends (l : List S35) : Ends (fun k => span_Norm.f k l) (bothOf l [] 0) := by
  unfold span_Norm.f span_sets_Norm.f
  exact Ends.bind (sets_ends span_Norm_1.f (fun p _ => p) (fun p q => rfl) l [] true 0 (.inl rfl) (fun x => by rw [wayOf_0, joinOf_nil, hasOf_nil, Bool.or_false])) (Ends.ret _)
theorem union_ends (a b : List S35) : Ends (fun k => span_Union.f k a b) (bothOf a b 0) := by
  unfold span_Union.f span_sets_Union.f
  exact Ends.bind (sets_ends span_Union_1.f (fun p q => p || q) (fun p q => by cases p <;> rfl) a b true 0 (.inl rfl) (fun x => by rw [wayOf_0])) (Ends.ret _)
theorem common_ends (a b : List S35) : Ends (fun k => span_Common.f k a b) (bothOf a b 1) := by
  unfold span_Common.f span_sets_Common.f
  exact Ends.bind (sets_ends span_Common_1.f (fun p q => p && q) (fun p q => by cases p <;> rfl) a b true 1 (.inr (.inl rfl)) (fun x => by rw [wayOf_1])) (Ends.ret _)
theorem minus_ends (a b : List S35) : Ends (fun k => span_Minus.f k a b) (bothOf a b 2) := by
  unfold span_Minus.f span_sets_Minus.f
  exact Ends.bind (sets_ends span_Minus_1.f (fun p q => p && !q) (fun p q => by cases p <;> rfl) a b true 2 (.inr (.inr rfl)) (fun x => by rw [wayOf_2])) (Ends.ret _)
theorem rnorm_ends (l : List S35) : Ends (fun k => papermillref04_Norm.f k l) (bothOf l [] 0) := by
  unfold papermillref04_Norm.f
  exact Ends.bind (both_ends l [] 0 (.inl rfl)) (Ends.ret _)
theorem runion_ends (a b : List S35) : Ends (fun k => papermillref04_Union.f k a b) (bothOf a b 0) := by
  unfold papermillref04_Union.f
  exact Ends.bind (both_ends a b 0 (.inl rfl)) (Ends.ret _)
theorem rcommon_ends (a b : List S35) : Ends (fun k => papermillref04_Common.f k a b) (bothOf a b 1) := by
  unfold papermillref04_Common.f
  exact Ends.bind (both_ends a b 1 (.inr (.inl rfl))) (Ends.ret _)
theorem rminus_ends (a b : List S35) : Ends (fun k => papermillref04_Minus.f k a b) (bothOf a b 2) := by
  unfold papermillref04_Minus.f
  exact Ends.bind (both_ends a b 2 (.inr (.inr rfl))) (Ends.ret _)
/-! #### totals -/
def tot (l : List S35) : Int := (l.map fun s => s.f1 - s.f0).sum
theorem tot_cons (s : S35) (l : List S35) : tot (s :: l) = s.f1 - s.f0 + tot l := by simp [tot]
theorem total_l0 (l : List S35) (hl : l.length ≤ 1000) (hv : ∀ s ∈ l, 0 ≤ s.f0 ∧ s.f0 ≤ s.f1 ∧ s.f1 ≤ 17179869184) : ∀ (d i : Nat) (n : Int), l.length - i = d → i ≤ l.length → 0 ≤ n → n ≤ i * 17179869184 → Ends (fun k => span_Total.l0 k n l (l.length : Int) (i : Int)) (n + tot (l.drop i), 0) := by
  intro d
  induction d with
  | zero =>
    intro i n hd hi h0 h1
    refine Ends.succ ?_
    simp only [span_Total.l0]
    rw [List.drop_of_length_le (by omega)]
    exact Ends.neg (by omega) ((Ends.ret _).congr (by simp [tot]))
  | succ d ih =>
    intro i n hd hi h0 h1
    refine Ends.succ ?_
    have hx := hv (rd_T35 l (i : Int)) (by rw [rd36 l i (by omega)]; exact List.getElem_mem _)
    rw [drop36 l i (by omega), tot_cons]
    simp only [span_Total.l0, wrap_nat i (by omega)]
    generalize rd_T35 l (i : Int) = s at *
    have e1 : wrap64 (s.f1 - s.f0) = s.f1 - s.f0 := by unfold wrap64; omega
    have e2 : wrap64 (n + (s.f1 - s.f0)) = n + (s.f1 - s.f0) := by unfold wrap64; omega
    simp only [e1, e2]
    exact Ends.pos (by omega) (Ends.pos (by omega) (Ends.pos (by omega) ((ih (i + 1) (n + (s.f1 - s.f0)) (by omega) (by omega) (by omega) (by omega)).congr (by rw [Int.add_assoc]))))
def totalOf (l : List S35) : Int × Int := if check04 l = 0 then (tot (joinOf l), 0) else (0, check04 l)
theorem total_ends (l : List S35) : Ends (fun k => span_Total.f k l) (totalOf l) := by
  unfold span_Total.f totalOf
  refine Ends.bind (scheck_ends l) ?_
  by_cases h0 : check04 l = 0
  · rw [if_pos h0]
    obtain ⟨g0, v0⟩ := good04 h0
    have n0 := joinOf_len l (-1) (fun s hs => by have := v0 s hs; omega)
    have b0 := joinOf_bound l (-1) 17179869184 (fun s hs => by have := v0 s hs; omega)
    have e0 : span_joined.f l = some (joinOf l) := by unfold span_joined.f; rw [if_pos (okSpans_good h0)]
    simp only [e0, Option.bind_some]
    exact Ends.pos h0 ((total_l0 (joinOf l) (by omega) (fun s hs => by have := b0 s hs; omega) _ 0 0 rfl (by omega) (by omega) (by omega)).congr (by simp))
  · rw [if_neg h0]
    exact Ends.neg h0 (Ends.ret _)
theorem rtotal_l0 (l : List S35) (e : Int) (hl : l.length ≤ 1000) (hv : ∀ s ∈ l, 0 ≤ s.f0 ∧ s.f0 ≤ s.f1 ∧ s.f1 ≤ 17179869184) : ∀ (d i : Nat) (n : Int), l.length - i = d → i ≤ l.length → 0 ≤ n → n ≤ i * 17179869184 → Ends (fun k => papermillref04_Total.l0 k l e n (i : Int)) (n + tot (l.drop i), e) := by
  intro d
  induction d with
  | zero =>
    intro i n hd hi h0 h1
    refine Ends.succ ?_
    simp only [papermillref04_Total.l0]
    rw [List.drop_of_length_le (by omega)]
    exact Ends.neg (by omega) ((Ends.ret _).congr (by simp [tot]))
  | succ d ih =>
    intro i n hd hi h0 h1
    refine Ends.succ ?_
    have hx := hv (rd_T35 l (i : Int)) (by rw [rd36 l i (by omega)]; exact List.getElem_mem _)
    rw [drop36 l i (by omega), tot_cons]
    simp only [papermillref04_Total.l0, wrap_nat i (by omega)]
    generalize rd_T35 l (i : Int) = s at *
    have e1 : wrap64 (n + s.f1) = n + s.f1 := by unfold wrap64; omega
    have e2 : wrap64 (n + s.f1 - s.f0) = n + (s.f1 - s.f0) := by unfold wrap64; omega
    simp only [e1, e2]
    exact Ends.pos (by omega) (Ends.pos (by omega) ((ih (i + 1) (n + (s.f1 - s.f0)) (by omega) (by omega) (by omega) (by omega)).congr (by rw [Int.add_assoc])))
theorem norm_fits {l : List S35} (h0 : check04 l = 0) : bothOf l [] 0 = (joinOf l, 0) := by
  obtain ⟨g0, v0⟩ := good04 h0
  have n0 := joinOf_len l (-1) (fun s hs => by have := v0 s hs; omega)
  unfold bothOf
  rw [if_pos h0, if_pos (show check04 [] = 0 from rfl)]
  unfold joinOf at n0 ⊢
  rw [if_neg (by omega)]
theorem rtotal_ends (l : List S35) : Ends (fun k => papermillref04_Total.f k l) (totalOf l) := by
  unfold papermillref04_Total.f totalOf
  refine Ends.bind (rnorm_ends l) ?_
  by_cases h0 : check04 l = 0
  · rw [norm_fits h0, if_pos h0]
    obtain ⟨g0, v0⟩ := good04 h0
    have n0 := joinOf_len l (-1) (fun s hs => by have := v0 s hs; omega)
    have b0 := joinOf_bound l (-1) 17179869184 (fun s hs => by have := v0 s hs; omega)
    exact (rtotal_l0 (joinOf l) 0 (by omega) (fun s hs => by have := b0 s hs; omega) _ 0 0 rfl (by omega) (by omega) (by omega)).congr (by simp)
  · have e : bothOf l [] 0 = ([], check04 l) := by unfold bothOf; rw [if_neg h0]
    rw [e, if_neg h0]
    exact (rtotal_l0 [] (check04 l) (by simp) (by simp) _ 0 0 rfl (by simp) (by omega) (by omega)).congr (by simp [tot])
/-! #### moves -/
def movable (by_ : Int) (s : S35) : Prop := -s.f0 ≤ by_ ∧ by_ ≤ 17179869184 - s.f1
instance (by_ : Int) (s : S35) : Decidable (movable by_ s) := by unfold movable; infer_instance
def shift (by_ : Int) (s : S35) : S35 := ⟨s.f0 + by_, s.f1 + by_⟩
def moveOf (l : List S35) (by_ : Int) : List S35 × Int := if check04 l = 0 then (if ∀ s ∈ l, movable by_ s then (l.map (shift by_), 0) else ([], 1)) else ([], check04 l)
theorem move_l0 (l : List S35) (y : Int) (hl : l.length ≤ 1000) (hv : ∀ s ∈ l, 0 ≤ s.f0 ∧ s.f0 ≤ s.f1 ∧ s.f1 ≤ 17179869184) : ∀ (d i : Nat) (o : List S35), l.length - i = d → i ≤ l.length → o.length ≤ i → Ends (fun k => span_Move.l0 k y o l (l.length : Int) (i : Int)) (if ∀ s ∈ l.drop i, movable y s then (o ++ (l.drop i).map (shift y), 0) else ([], 1)) := by
  intro d
  induction d with
  | zero =>
    intro i o hd hi ho
    refine Ends.succ ?_
    simp only [span_Move.l0]
    rw [List.drop_of_length_le (by omega), if_pos (by simp)]
    exact Ends.neg (by omega) ((Ends.ret _).congr (by simp))
  | succ d ih =>
    intro i o hd hi ho
    refine Ends.succ ?_
    have hx := hv (rd_T35 l (i : Int)) (by rw [rd36 l i (by omega)]; exact List.getElem_mem _)
    rw [drop36 l i (by omega)]
    simp only [span_Move.l0, wrap_nat i (by omega)]
    generalize rd_T35 l (i : Int) = s at *
    have e1 : wrap64 (-s.f0) = -s.f0 := by unfold wrap64; omega
    have e2 : wrap64 (17179869184 - s.f1) = 17179869184 - s.f1 := by unfold wrap64; omega
    simp only [e1, e2]
    refine Ends.pos (by omega) (Ends.pos (by omega) (Ends.pos (by omega) ?_))
    by_cases hm : movable y s
    · have hm' := hm
      unfold movable at hm'
      have e3 : wrap64 (s.f0 + y) = s.f0 + y := by unfold wrap64; omega
      have e4 : wrap64 (s.f1 + y) = s.f1 + y := by unfold wrap64; omega
      simp only [e3, e4]
      refine Ends.neg (by omega) (Ends.neg (by omega) (Ends.pos (by omega) ((ih (i + 1) (o ++ [shift y s]) (by omega) (by omega) (by simp; omega)).congr ?_)))
      simp [hm]
    · have e5 : ¬ ∀ t ∈ s :: l.drop (i + 1), movable y t := fun h => hm (h s (by simp))
      rw [if_neg e5]
      unfold movable at hm
      by_cases h1 : y < -s.f0
      · exact Ends.pos h1 (Ends.ret _)
      · exact Ends.neg h1 (Ends.pos (by omega) (Ends.ret _))
theorem move_ends (l : List S35) (y : Int) : Ends (fun k => span_Move.f k l y) (moveOf l y) := by
  unfold span_Move.f moveOf
  refine Ends.bind (scheck_ends l) ?_
  by_cases h0 : check04 l = 0
  · rw [if_pos h0]
    obtain ⟨g0, v0⟩ := good04 h0
    exact Ends.pos h0 ((move_l0 l y (by omega) v0 _ 0 [] rfl (by omega) (by simp)).congr (by simp))
  · rw [if_neg h0]
    exact Ends.neg h0 (Ends.ret _)
theorem rmove_l0 (l : List S35) (y : Int) (hl : l.length ≤ 1000) (hv : ∀ s ∈ l, 0 ≤ s.f0 ∧ s.f0 ≤ s.f1 ∧ s.f1 ≤ 17179869184) : ∀ (d i : Nat) (o : List S35), l.length - i = d → i ≤ l.length → o.length ≤ i → Ends (fun k => papermillref04_Move.l0 k l y o (i : Int)) (if ∀ s ∈ l.drop i, movable y s then (o ++ (l.drop i).map (shift y), 0) else ([], 1)) := by
  intro d
  induction d with
  | zero =>
    intro i o hd hi ho
    refine Ends.succ ?_
    simp only [papermillref04_Move.l0]
    rw [List.drop_of_length_le (by omega), if_pos (by simp)]
    exact Ends.neg (by omega) ((Ends.ret _).congr (by simp))
  | succ d ih =>
    intro i o hd hi ho
    refine Ends.succ ?_
    have hx := hv (rd_T35 l (i : Int)) (by rw [rd36 l i (by omega)]; exact List.getElem_mem _)
    rw [drop36 l i (by omega)]
    simp only [papermillref04_Move.l0, wrap_nat i (by omega)]
    generalize rd_T35 l (i : Int) = s at *
    have e1 : wrap64 (-s.f0) = -s.f0 := by unfold wrap64; omega
    have e2 : wrap64 (17179869184 - s.f1) = 17179869184 - s.f1 := by unfold wrap64; omega
    simp only [e1, e2]
    refine Ends.pos (by omega) (Ends.pos (by omega) ?_)
    by_cases hm : movable y s
    · have hm' := hm
      unfold movable at hm'
      have e3 : wrap64 (s.f0 + y) = s.f0 + y := by unfold wrap64; omega
      have e4 : wrap64 (s.f1 + y) = s.f1 + y := by unfold wrap64; omega
      simp only [e3, e4]
      refine Ends.neg (by omega) (Ends.neg (by omega) (Ends.pos (by omega) ((ih (i + 1) (o ++ [shift y s]) (by omega) (by omega) (by simp; omega)).congr ?_)))
      simp [hm]
    · have e5 : ¬ ∀ t ∈ s :: l.drop (i + 1), movable y t := fun h => hm (h s (by simp))
      rw [if_neg e5]
      unfold movable at hm
      by_cases h1 : y < -s.f0
      · exact Ends.pos h1 (Ends.ret _)
      · exact Ends.neg h1 (Ends.pos (by omega) (Ends.ret _))
theorem rmove_ends (l : List S35) (y : Int) : Ends (fun k => papermillref04_Move.f k l y) (moveOf l y) := by
  unfold papermillref04_Move.f moveOf
  refine Ends.bind (check04_ends l) ?_
  by_cases h0 : check04 l = 0
  · rw [if_pos h0]
    obtain ⟨g0, v0⟩ := good04 h0
    exact Ends.pos h0 ((rmove_l0 l y (by omega) v0 _ 0 [] rfl (by omega) (by simp)).congr (by simp))
  · rw [if_neg h0]
    exact Ends.neg h0 (Ends.ret _)
/-! #### the same -/
theorem same_l0 (l : List S35) (hl : l.length ≤ 1000000) : ∀ (d i : Nat), l.length - i = d → i ≤ l.length → Ends (fun k => papermillref04_Same.l0 k l l (i : Int)) true := by
  intro d
  induction d with
  | zero =>
    intro i hd hi
    refine Ends.succ ?_
    simp only [papermillref04_Same.l0]
    exact Ends.neg (by omega) (Ends.ret _)
  | succ d ih =>
    intro i hd hi
    refine Ends.succ ?_
    simp only [papermillref04_Same.l0, wrap_nat i (by omega)]
    exact Ends.pos (by omega) (Ends.pos (by omega) (Ends.pos (by omega) (Ends.neg (by simp) (ih (i + 1) (by omega) (by omega)))))
theorem same_ends (l : List S35) (hl : l.length ≤ 1000000) : Ends (fun k => papermillref04_Same.f k l l) true := by
  unfold papermillref04_Same.f
  exact Ends.pos rfl (same_l0 l hl _ 0 rfl (by omega))
end Go.Proofs.Ytlfcaoniclnimaa.G

namespace Go.Proofs.Ytlfcaoniclnimaa.G
open Go.RowKit Go.Proofs.YtlfcaoniclnimaaW.PrintWords Go.Proofs.YtlfcaoniclnimaaW.PrintLast Go.Proofs.YtlfcaoniclnimaaW.PrintMore
set_option linter.unusedVariables false
set_option linter.unusedSimpArgs false
attribute [local go_sem] max2_int min2_int max_two min_two max_three min_three max_four min_four   -- for this text's walks alone
theorem nilC_papermilllaw04 {α : Type} (d : Kd α) (w : World) : Kd.C d w none ([] : List α).length [] := ⟨rfl, by simp, fun h => absurd h (by simp)⟩
def papermilllaw04_awake.f : Option Bool := some true
set_option maxHeartbeats 16000000 in
set_option maxRecDepth 100000 in
theorem papermilllaw04_awake.calls (r : Bool) (w : World) (h : papermilllaw04_awake.f = some r) : Calls Try.prog 13 #[] w fun e w' => e = .returned (.bool r) ∧ Below w.heap.size w w' := by
  obtain rfl := Option.some.inj h
  have HB := Aside0.mk (Below.refl w.heap.size w)
  go_enter Try.func13, Try.ntmps13
  go_wp2_with fail
  have qL1 : (w.alloc (.cells #[.int .i64 5, .int .i64 7, .int .i64 0, .int .i64 2, .int .i64 2, .int .i64 3, .int .i64 4, .int .i64 4] 35)).heap[w.heap.size]? = some (.cells #[.int .i64 5, .int .i64 7, .int .i64 0, .int .i64 2, .int .i64 2, .int .i64 3, .int .i64 4, .int .i64 4] 35 (0, 0)) := by have h_ := World.alloc_heap_new w (.cells #[.int .i64 5, .int .i64 7, .int .i64 0, .int .i64 2, .int .i64 2, .int .i64 3, .int .i64 4, .int .i64 4] 35); exact h_
  replace HB := Aside0.mk (below_alloc HB.out (.cells #[.int .i64 5, .int .i64 7, .int .i64 0, .int .i64 2, .int .i64 2, .int .i64 3, .int .i64 4, .int .i64 4] 35))
  generalize hw_ : (w.alloc (.cells #[.int .i64 5, .int .i64 7, .int .i64 0, .int .i64 2, .int .i64 2, .int .i64 3, .int .i64 4, .int .i64 4] 35)) = w2 at qL1 HB ⊢
  have L1 := Aside0.mk (C35_block ([⟨5, 7⟩, ⟨0, 2⟩, ⟨2, 3⟩, ⟨4, 4⟩] : List (S35)) qL1 rfl (by decide))
  clear hw_ qL1
  obtain ⟨kq1, hq1⟩ := (show Ends (fun k => span_Norm.f k ([⟨5, 7⟩, ⟨0, 2⟩, ⟨2, 3⟩, ⟨4, 4⟩] : List (S35))) (([⟨0, 3⟩, ⟨5, 7⟩] : List (S35)), 0) from (norm_ends ([⟨5, 7⟩, ⟨0, 2⟩, ⟨2, 3⟩, ⟨4, 4⟩] : List (S35))).congr (by kernel_rfl)).get
  refine (span_Norm.calls kq1 _ _ ([⟨5, 7⟩, ⟨0, 2⟩, ⟨2, 3⟩, ⟨4, 4⟩] : List (S35)) ([⟨0, 3⟩, ⟨5, 7⟩] : List (S35)) 0 _ L1.out (by decide) hq1).mono ?_
  rintro e w3 ⟨v3_0, rfl, h3_0, hb⟩
  obtain ⟨A3_0, c3_0, e_, hc_L3_0, hr_L3_0⟩ := Kd.R_reads h3_0
  subst e_
  have L3_0 := Aside0.mk hr_L3_0
  have HCL3_0 := Aside0.mk hc_L3_0
  clear hr_L3_0 hc_L3_0 h3_0
  replace L1 := Aside0.mk (Kd.C_below L1.out hb)
  replace HB := Aside0.mk (below_then HB.out HB.out.size hb)
  clear hb
  clear L1
  go_wp2_with fail
  have qL4 : ((w3.alloc (.cells #[.int .i64 0, .int .i64 10] 35)).alloc (.cells #[.int .i64 2, .int .i64 3, .int .i64 5, .int .i64 7] 35)).heap[w3.heap.size]? = some (.cells #[.int .i64 0, .int .i64 10] 35 (0, 0)) := by exact blk_alloc (by have h_ := World.alloc_heap_new w3 (.cells #[.int .i64 0, .int .i64 10] 35); exact h_) _
  have qL5 : ((w3.alloc (.cells #[.int .i64 0, .int .i64 10] 35)).alloc (.cells #[.int .i64 2, .int .i64 3, .int .i64 5, .int .i64 7] 35)).heap[w3.heap.size + 1]? = some (.cells #[.int .i64 2, .int .i64 3, .int .i64 5, .int .i64 7] 35 (0, 0)) := by have h_ := World.alloc_heap_new (w3.alloc (.cells #[.int .i64 0, .int .i64 10] 35)) (.cells #[.int .i64 2, .int .i64 3, .int .i64 5, .int .i64 7] 35); (simp only [World.size_alloc] at h_); exact h_
  replace L3_0 := Aside0.mk (Kd.C_alloc (Kd.C_alloc L3_0.out (.cells #[.int .i64 0, .int .i64 10] 35)) (.cells #[.int .i64 2, .int .i64 3, .int .i64 5, .int .i64 7] 35))
  replace HB := Aside0.mk (below_alloc (below_alloc HB.out (.cells #[.int .i64 0, .int .i64 10] 35)) (.cells #[.int .i64 2, .int .i64 3, .int .i64 5, .int .i64 7] 35))
  generalize hw_ : ((w3.alloc (.cells #[.int .i64 0, .int .i64 10] 35)).alloc (.cells #[.int .i64 2, .int .i64 3, .int .i64 5, .int .i64 7] 35)) = w6 at qL4 qL5 L3_0 HB ⊢
  have L4 := Aside0.mk (C35_block ([⟨0, 10⟩] : List (S35)) qL4 rfl (by decide))
  have L5 := Aside0.mk (C35_block ([⟨2, 3⟩, ⟨5, 7⟩] : List (S35)) qL5 rfl (by decide))
  clear hw_ qL4 qL5
  obtain ⟨kq2, hq2⟩ := (show Ends (fun k => span_Minus.f k ([⟨0, 10⟩] : List (S35)) ([⟨2, 3⟩, ⟨5, 7⟩] : List (S35))) (([⟨0, 2⟩, ⟨3, 5⟩, ⟨7, 10⟩] : List (S35)), 0) from (minus_ends ([⟨0, 10⟩] : List (S35)) ([⟨2, 3⟩, ⟨5, 7⟩] : List (S35))).congr (by kernel_rfl)).get
  refine (span_Minus.calls kq2 _ _ ([⟨0, 10⟩] : List (S35)) _ _ ([⟨2, 3⟩, ⟨5, 7⟩] : List (S35)) ([⟨0, 2⟩, ⟨3, 5⟩, ⟨7, 10⟩] : List (S35)) 0 _ L4.out (by decide) L5.out (by decide) hq2).mono ?_
  rintro e w7 ⟨v7_0, rfl, h7_0, hb⟩
  obtain ⟨A7_0, c7_0, e_, hc_L7_0, hr_L7_0⟩ := Kd.R_reads h7_0
  subst e_
  have L7_0 := Aside0.mk hr_L7_0
  have HCL7_0 := Aside0.mk hc_L7_0
  clear hr_L7_0 hc_L7_0 h7_0
  replace L3_0 := Aside0.mk (Kd.C_below L3_0.out hb)
  replace L4 := Aside0.mk (Kd.C_below L4.out hb)
  replace L5 := Aside0.mk (Kd.C_below L5.out hb)
  replace HB := Aside0.mk (below_then HB.out HB.out.size hb)
  clear hb
  clear L4
  clear L5
  go_wp2_with fail
  have qL8 : (w7.alloc (.cells #[.int .i64 0, .int .i64 4, .int .i64 2, .int .i64 6] 35)).heap[w7.heap.size]? = some (.cells #[.int .i64 0, .int .i64 4, .int .i64 2, .int .i64 6] 35 (0, 0)) := by have h_ := World.alloc_heap_new w7 (.cells #[.int .i64 0, .int .i64 4, .int .i64 2, .int .i64 6] 35); exact h_
  replace L3_0 := Aside0.mk (Kd.C_alloc L3_0.out (.cells #[.int .i64 0, .int .i64 4, .int .i64 2, .int .i64 6] 35))
  replace L7_0 := Aside0.mk (Kd.C_alloc L7_0.out (.cells #[.int .i64 0, .int .i64 4, .int .i64 2, .int .i64 6] 35))
  replace HB := Aside0.mk (below_alloc HB.out (.cells #[.int .i64 0, .int .i64 4, .int .i64 2, .int .i64 6] 35))
  generalize hw_ : (w7.alloc (.cells #[.int .i64 0, .int .i64 4, .int .i64 2, .int .i64 6] 35)) = w9 at qL8 L3_0 L7_0 HB ⊢
  have L8 := Aside0.mk (C35_block ([⟨0, 4⟩, ⟨2, 6⟩] : List (S35)) qL8 rfl (by decide))
  clear hw_ qL8
  obtain ⟨kq3, hq3⟩ := (show Ends (fun k => span_Total.f k ([⟨0, 4⟩, ⟨2, 6⟩] : List (S35))) (6, 0) from (total_ends ([⟨0, 4⟩, ⟨2, 6⟩] : List (S35))).congr (by kernel_rfl)).get
  refine (span_Total.calls kq3 _ _ ([⟨0, 4⟩, ⟨2, 6⟩] : List (S35)) 6 0 _ L8.out (by decide) hq3).mono ?_
  rintro e w10 ⟨rfl, hb⟩
  replace L3_0 := Aside0.mk (Kd.C_below L3_0.out hb)
  replace L7_0 := Aside0.mk (Kd.C_below L7_0.out hb)
  replace L8 := Aside0.mk (Kd.C_below L8.out hb)
  replace HB := Aside0.mk (below_then HB.out HB.out.size hb)
  clear hb
  clear L8
  go_wp2_with fail
  have qL11 : (w10.alloc (.cells #[.int .i64 0, .int .i64 2, .int .i64 1, .int .i64 1] 35)).heap[w10.heap.size]? = some (.cells #[.int .i64 0, .int .i64 2, .int .i64 1, .int .i64 1] 35 (0, 0)) := by have h_ := World.alloc_heap_new w10 (.cells #[.int .i64 0, .int .i64 2, .int .i64 1, .int .i64 1] 35); exact h_
  replace L3_0 := Aside0.mk (Kd.C_alloc L3_0.out (.cells #[.int .i64 0, .int .i64 2, .int .i64 1, .int .i64 1] 35))
  replace L7_0 := Aside0.mk (Kd.C_alloc L7_0.out (.cells #[.int .i64 0, .int .i64 2, .int .i64 1, .int .i64 1] 35))
  replace HB := Aside0.mk (below_alloc HB.out (.cells #[.int .i64 0, .int .i64 2, .int .i64 1, .int .i64 1] 35))
  generalize hw_ : (w10.alloc (.cells #[.int .i64 0, .int .i64 2, .int .i64 1, .int .i64 1] 35)) = w12 at qL11 L3_0 L7_0 HB ⊢
  have L11 := Aside0.mk (C35_block ([⟨0, 2⟩, ⟨1, 1⟩] : List (S35)) qL11 rfl (by decide))
  clear hw_ qL11
  obtain ⟨kq4, hq4⟩ := (show Ends (fun k => span_Move.f k ([⟨0, 2⟩, ⟨1, 1⟩] : List (S35)) 3) (([⟨3, 5⟩, ⟨4, 4⟩] : List (S35)), 0) from (move_ends ([⟨0, 2⟩, ⟨1, 1⟩] : List (S35)) 3).congr (by kernel_rfl)).get
  refine (span_Move.calls kq4 _ _ ([⟨0, 2⟩, ⟨1, 1⟩] : List (S35)) 3 ([⟨3, 5⟩, ⟨4, 4⟩] : List (S35)) 0 _ L11.out (by decide) hq4).mono ?_
  rintro e w13 ⟨v13_0, rfl, h13_0, hb⟩
  obtain ⟨A13_0, c13_0, e_, hc_L13_0, hr_L13_0⟩ := Kd.R_reads h13_0
  subst e_
  have L13_0 := Aside0.mk hr_L13_0
  have HCL13_0 := Aside0.mk hc_L13_0
  clear hr_L13_0 hc_L13_0 h13_0
  replace L3_0 := Aside0.mk (Kd.C_below L3_0.out hb)
  replace L7_0 := Aside0.mk (Kd.C_below L7_0.out hb)
  replace L11 := Aside0.mk (Kd.C_below L11.out hb)
  replace HB := Aside0.mk (below_then HB.out HB.out.size hb)
  clear hb
  clear L11
  go_wp2_with fail
  have qL14 : (w13.alloc (.cells #[.int .i64 0, .int .i64 1] 35)).heap[w13.heap.size]? = some (.cells #[.int .i64 0, .int .i64 1] 35 (0, 0)) := by have h_ := World.alloc_heap_new w13 (.cells #[.int .i64 0, .int .i64 1] 35); exact h_
  replace L3_0 := Aside0.mk (Kd.C_alloc L3_0.out (.cells #[.int .i64 0, .int .i64 1] 35))
  replace L7_0 := Aside0.mk (Kd.C_alloc L7_0.out (.cells #[.int .i64 0, .int .i64 1] 35))
  replace L13_0 := Aside0.mk (Kd.C_alloc L13_0.out (.cells #[.int .i64 0, .int .i64 1] 35))
  replace HB := Aside0.mk (below_alloc HB.out (.cells #[.int .i64 0, .int .i64 1] 35))
  generalize hw_ : (w13.alloc (.cells #[.int .i64 0, .int .i64 1] 35)) = w15 at qL14 L3_0 L7_0 L13_0 HB ⊢
  have L14 := Aside0.mk (C35_block ([⟨0, 1⟩] : List (S35)) qL14 rfl (by decide))
  clear hw_ qL14
  obtain ⟨kq5, hq5⟩ := (show Ends (fun k => span_Move.f k ([⟨0, 1⟩] : List (S35)) (-1)) (([] : List (S35)), 1) from (move_ends ([⟨0, 1⟩] : List (S35)) (-1)).congr (by kernel_rfl)).get
  refine (span_Move.calls kq5 _ _ ([⟨0, 1⟩] : List (S35)) (-1) ([] : List (S35)) 1 _ L14.out (by decide) hq5).mono ?_
  rintro e w16 ⟨v16_0, rfl, h16_0, hb⟩
  obtain ⟨A16_0, c16_0, e_, hc_L16_0, hr_L16_0⟩ := Kd.R_reads h16_0
  subst e_
  have L16_0 := Aside0.mk hr_L16_0
  have HCL16_0 := Aside0.mk hc_L16_0
  clear hr_L16_0 hc_L16_0 h16_0
  replace L3_0 := Aside0.mk (Kd.C_below L3_0.out hb)
  replace L7_0 := Aside0.mk (Kd.C_below L7_0.out hb)
  replace L13_0 := Aside0.mk (Kd.C_below L13_0.out hb)
  replace L14 := Aside0.mk (Kd.C_below L14.out hb)
  replace HB := Aside0.mk (below_then HB.out HB.out.size hb)
  clear hb
  clear L14
  go_wp2_with fail
  have qL17 : (w16.alloc (.cells #[.int .i64 0, .int .i64 3, .int .i64 5, .int .i64 7] 35)).heap[w16.heap.size]? = some (.cells #[.int .i64 0, .int .i64 3, .int .i64 5, .int .i64 7] 35 (0, 0)) := by have h_ := World.alloc_heap_new w16 (.cells #[.int .i64 0, .int .i64 3, .int .i64 5, .int .i64 7] 35); exact h_
  replace L3_0 := Aside0.mk (Kd.C_alloc L3_0.out (.cells #[.int .i64 0, .int .i64 3, .int .i64 5, .int .i64 7] 35))
  replace L7_0 := Aside0.mk (Kd.C_alloc L7_0.out (.cells #[.int .i64 0, .int .i64 3, .int .i64 5, .int .i64 7] 35))
  replace L13_0 := Aside0.mk (Kd.C_alloc L13_0.out (.cells #[.int .i64 0, .int .i64 3, .int .i64 5, .int .i64 7] 35))
  replace L16_0 := Aside0.mk (Kd.C_alloc L16_0.out (.cells #[.int .i64 0, .int .i64 3, .int .i64 5, .int .i64 7] 35))
  replace HB := Aside0.mk (below_alloc HB.out (.cells #[.int .i64 0, .int .i64 3, .int .i64 5, .int .i64 7] 35))
  generalize hw_ : (w16.alloc (.cells #[.int .i64 0, .int .i64 3, .int .i64 5, .int .i64 7] 35)) = w18 at qL17 L3_0 L7_0 L13_0 L16_0 HB ⊢
  have L17 := Aside0.mk (C35_block ([⟨0, 3⟩, ⟨5, 7⟩] : List (S35)) qL17 rfl (by decide))
  clear hw_ qL17
  refine (papermillref04_Same.calls 60 _ _ ([⟨0, 3⟩, ⟨5, 7⟩] : List (S35)) _ _ ([⟨0, 3⟩, ⟨5, 7⟩] : List (S35)) true _ L3_0.out HCL3_0.out L17.out (by decide) (show papermillref04_Same.f 60 ([⟨0, 3⟩, ⟨5, 7⟩] : List (S35)) ([⟨0, 3⟩, ⟨5, 7⟩] : List (S35)) = some true from (by kernel_rfl))).mono ?_
  rintro e w19 ⟨rfl, hd⟩
  replace L3_0 := Aside0.mk (Kd.C_below L3_0.out hd.below)
  replace L7_0 := Aside0.mk (Kd.C_below L7_0.out hd.below)
  replace L13_0 := Aside0.mk (Kd.C_below L13_0.out hd.below)
  replace L16_0 := Aside0.mk (Kd.C_below L16_0.out hd.below)
  replace L17 := Aside0.mk (Kd.C_below L17.out hd.below)
  replace HB := Aside0.mk (below_then HB.out HB.out.size hd.below)
  clear hd
  clear L3_0 HCL3_0
  clear L16_0 HCL16_0
  clear L17
  go_wp2_with fail
  have qL20 : (w19.alloc (.cells #[.int .i64 0, .int .i64 2, .int .i64 3, .int .i64 5, .int .i64 7, .int .i64 10] 35)).heap[w19.heap.size]? = some (.cells #[.int .i64 0, .int .i64 2, .int .i64 3, .int .i64 5, .int .i64 7, .int .i64 10] 35 (0, 0)) := by have h_ := World.alloc_heap_new w19 (.cells #[.int .i64 0, .int .i64 2, .int .i64 3, .int .i64 5, .int .i64 7, .int .i64 10] 35); exact h_
  replace L7_0 := Aside0.mk (Kd.C_alloc L7_0.out (.cells #[.int .i64 0, .int .i64 2, .int .i64 3, .int .i64 5, .int .i64 7, .int .i64 10] 35))
  replace L13_0 := Aside0.mk (Kd.C_alloc L13_0.out (.cells #[.int .i64 0, .int .i64 2, .int .i64 3, .int .i64 5, .int .i64 7, .int .i64 10] 35))
  replace HB := Aside0.mk (below_alloc HB.out (.cells #[.int .i64 0, .int .i64 2, .int .i64 3, .int .i64 5, .int .i64 7, .int .i64 10] 35))
  generalize hw_ : (w19.alloc (.cells #[.int .i64 0, .int .i64 2, .int .i64 3, .int .i64 5, .int .i64 7, .int .i64 10] 35)) = w21 at qL20 L7_0 L13_0 HB ⊢
  have L20 := Aside0.mk (C35_block ([⟨0, 2⟩, ⟨3, 5⟩, ⟨7, 10⟩] : List (S35)) qL20 rfl (by decide))
  clear hw_ qL20
  refine (papermillref04_Same.calls 60 _ _ ([⟨0, 2⟩, ⟨3, 5⟩, ⟨7, 10⟩] : List (S35)) _ _ ([⟨0, 2⟩, ⟨3, 5⟩, ⟨7, 10⟩] : List (S35)) true _ L7_0.out HCL7_0.out L20.out (by decide) (show papermillref04_Same.f 60 ([⟨0, 2⟩, ⟨3, 5⟩, ⟨7, 10⟩] : List (S35)) ([⟨0, 2⟩, ⟨3, 5⟩, ⟨7, 10⟩] : List (S35)) = some true from (by kernel_rfl))).mono ?_
  rintro e w22 ⟨rfl, hd⟩
  replace L7_0 := Aside0.mk (Kd.C_below L7_0.out hd.below)
  replace L13_0 := Aside0.mk (Kd.C_below L13_0.out hd.below)
  replace L20 := Aside0.mk (Kd.C_below L20.out hd.below)
  replace HB := Aside0.mk (below_then HB.out HB.out.size hd.below)
  clear hd
  clear L7_0 HCL7_0
  clear L20
  go_wp2_with fail
  have qL23 : (w22.alloc (.cells #[.int .i64 3, .int .i64 5, .int .i64 4, .int .i64 4] 35)).heap[w22.heap.size]? = some (.cells #[.int .i64 3, .int .i64 5, .int .i64 4, .int .i64 4] 35 (0, 0)) := by have h_ := World.alloc_heap_new w22 (.cells #[.int .i64 3, .int .i64 5, .int .i64 4, .int .i64 4] 35); exact h_
  replace L13_0 := Aside0.mk (Kd.C_alloc L13_0.out (.cells #[.int .i64 3, .int .i64 5, .int .i64 4, .int .i64 4] 35))
  replace HB := Aside0.mk (below_alloc HB.out (.cells #[.int .i64 3, .int .i64 5, .int .i64 4, .int .i64 4] 35))
  generalize hw_ : (w22.alloc (.cells #[.int .i64 3, .int .i64 5, .int .i64 4, .int .i64 4] 35)) = w24 at qL23 L13_0 HB ⊢
  have L23 := Aside0.mk (C35_block ([⟨3, 5⟩, ⟨4, 4⟩] : List (S35)) qL23 rfl (by decide))
  clear hw_ qL23
  refine (papermillref04_Same.calls 60 _ _ ([⟨3, 5⟩, ⟨4, 4⟩] : List (S35)) _ _ ([⟨3, 5⟩, ⟨4, 4⟩] : List (S35)) true _ L13_0.out HCL13_0.out L23.out (by decide) (show papermillref04_Same.f 60 ([⟨3, 5⟩, ⟨4, 4⟩] : List (S35)) ([⟨3, 5⟩, ⟨4, 4⟩] : List (S35)) = some true from (by kernel_rfl))).mono ?_
  rintro e w25 ⟨rfl, hd⟩
  replace L13_0 := Aside0.mk (Kd.C_below L13_0.out hd.below)
  replace L23 := Aside0.mk (Kd.C_below L23.out hd.below)
  replace HB := Aside0.mk (below_then HB.out HB.out.size hd.below)
  clear hd
  clear L13_0 HCL13_0
  clear L23
  go_wp2
  go_ret
  exact ⟨rfl, HB.out⟩
end Go.Proofs.Ytlfcaoniclnimaa.G

namespace Go.Proofs.Ytlfcaoniclnimaa.G
open Go.RowKit Go.Proofs.YtlfcaoniclnimaaW.PrintWords Go.Proofs.YtlfcaoniclnimaaW.PrintLast Go.Proofs.YtlfcaoniclnimaaW.PrintMore
open Go.ChangeShapes Go.WideShapes Go.Deep
set_option linter.unusedVariables false
set_option linter.unusedSimpArgs false

theorem pick_list {α : Type} {Q : Nat → α → Prop} : ∀ (n : Nat), (∀ i, i < n → ∃ v, Q i v) → ∃ l : List α, l.length = n ∧ ∀ i v, l[i]? = some v → Q i v
  | 0, _ => ⟨[], rfl, fun i v h => by simp at h⟩
  | n + 1, h => by
    obtain ⟨l, hl, hv⟩ := pick_list n (fun i hi => h i (by omega))
    obtain ⟨v, hv1⟩ := h n (by omega)
    refine ⟨l ++ [v], by simp [hl], fun i u hu => ?_⟩
    rcases Nat.lt_or_ge i l.length with h1 | h1
    · rw [List.getElem?_append_left h1] at hu; exact hv i u hu
    · have e : i = l.length := by
        have := (List.getElem?_eq_some_iff.1 hu).1; simp at this; omega
      subst e
      have : v = u := by simpa using hu
      subst this
      rw [hl]; exact hv1
/-- Whatever is read as a datum of type t is a value of the kind d. -/
def Opens {α : Type} (P : Program) (d : Kd α) (t : TypeId) (Wf : α → Prop) : Prop :=
  ∀ {H : Type} (enc : TypeId × Value → H) (W : World) (fuel : Nat) (cs : List Value) (x : DataW H × List MemPlace), DataW.trod enc P W 0 (fun _ => true) true fuel t cs = some x → ∃ v : α, d.K W v cs ∧ Wf v
theorem Opens.int {P : Program} {t : TypeId} {k : IntKind} (ht : P.underlying t = some (.int k)) : Opens P (Kd.int k) t (fun n => (Lit.int k n).wf = true) :=
  fun enc W fuel cs x h => by obtain ⟨n, rfl, _, hw⟩ := DataW.trod_int ht h; exact ⟨n, rfl, hw⟩
theorem Opens.bool {P : Program} {t : TypeId} (ht : P.underlying t = some .bool) : Opens P Kd.bool t (fun _ => True) :=
  fun enc W fuel cs x h => by obtain ⟨n, rfl, _⟩ := DataW.trod_bool ht h; exact ⟨n, rfl, trivial⟩
theorem Opens.slice {α : Type} {P : Program} {t e : TypeId} {d : Kd α} {Wf : α → Prop} (ht : P.underlying t = some (.slice e)) (hC : P.cellsOf e = d.sz) (h : Opens P d e Wf) :
    Opens P (Kd.slice e d) t (fun l => l.length ≤ maxLen ∧ ∀ x ∈ l, Wf x) := by
  intro H enc W fuel cs x hx
  rcases open_slice ht hx with ⟨rfl, _⟩ | ⟨a, len, cap, m, n, D, Pl, rfl, _, hl, hm, hmm, _, hi⟩
  · exact ⟨[], ⟨none, 0, rfl, Nat.le_refl _, rfl, by simp, fun h => absurd h (by simp)⟩, by simp, fun x h => by simp at h⟩
  · have hml : len ≤ m := by rw [hmm]; simp only [if_true]; exact hl
    have key : ∀ i, i < len → ∃ v : α, (∃ c, c.length = d.sz ∧ d.K W v c ∧ ∀ q u, c[q]? = some u → W.cell? (a.add (i * d.sz + q)) = some u) ∧ Wf v := by
      intro i hil
      obtain ⟨cs', hc, ht'⟩ := hi i (by omega)
      rw [hC] at hc
      obtain ⟨_, hcl, hat⟩ := World.cells?_some hc
      obtain ⟨v, hK, hw⟩ := h enc W n cs' _ ht'
      refine ⟨v, ⟨cs', d.K_len hK, hK, fun q u hq => ?_⟩, hw⟩
      have hql : q < d.sz := by rw [← d.K_len hK]; exact (List.getElem?_eq_some_iff.1 hq).1
      have := hat q hql
      rw [← Go.Deep.add_add, this]; exact hq
    obtain ⟨l, rfl, hv⟩ := pick_list len key
    refine ⟨l, ⟨some a, cap, rfl, hl, rfl, by unfold maxLen at hm; omega, fun _ => ⟨a, rfl, fun j p hj => (hv j p hj).1⟩⟩, Nat.le_trans hl hm, fun x hx => ?_⟩
    obtain ⟨i, hi', rfl⟩ := List.getElem_of_mem hx
    exact (hv i _ (List.getElem?_eq_getElem hi')).2

def wf_35 (x : S35) : Prop := (Lit.int .i64 x.f0).wf = true ∧ (Lit.int .i64 x.f1).wf = true
theorem cells_35 : Try.prog.cellsOf 35 = 2 := by kernel_rfl
theorem cells1_3 : Try.prog.cellsOf 3 = 1 := by kernel_rfl
set_option maxRecDepth 100000 in
theorem opens_35 : Opens Try.prog k35 35 wf_35 := by
  intro H enc W fuel cs x h
  obtain ⟨xs, n, rfl, rfl, hlen, hxl, hf⟩ := DataW.trod_struct Try.underlying35 h
  rw [cells_35] at hlen
  match cs, hlen with
  | [c0, c1], _ =>
    match xs, hxl with
    | [y0, y1], _ =>
      have e0 : DataW.trod enc Try.prog W 0 (fun _ => true) true n 3 (([c0, c1].drop 0).take (Try.prog.cellsOf 3)) = some y0 := hf 0 _ rfl
      rw [cells1_3] at e0
      have e1 : DataW.trod enc Try.prog W 0 (fun _ => true) true n 3 (([c0, c1].drop 1).take (Try.prog.cellsOf 3)) = some y1 := hf 1 _ rfl
      rw [cells1_3] at e1
      obtain ⟨v0, q0, w0⟩ := (Opens.int Try.underlying3) enc W n [c0] y0 e0
      cases q0
      obtain ⟨v1, q1, w1⟩ := (Opens.int Try.underlying3) enc W n [c1] y1 e1
      cases q1
      exact ⟨⟨v0, v1⟩, k35_mk _ _, w0, w1⟩
end Go.Proofs.Ytlfcaoniclnimaa.G

namespace Go.Proofs.Ytlfcaoniclnimaa.G
open Go.RowKit Go.Proofs.YtlfcaoniclnimaaW.PrintWords Go.Proofs.YtlfcaoniclnimaaW.PrintLast Go.Proofs.YtlfcaoniclnimaaW.PrintMore
set_option linter.unusedVariables false
set_option linter.unusedSimpArgs false
def inS (s : S35) (x : Int) : Bool := decide (s.f0 ≤ x) && decide (x < s.f1)
theorem hasOf_inS (l : List S35) (x : Int) : hasOf l x = l.any fun s => inS s x := by
  unfold hasOf inS
  congr 1
  funext s
  rw [Bool.decide_and]
set_option maxRecDepth 100000 in
set_option maxHeartbeats 4000000 in
theorem has_closure (s : S35) (x : Int) (g : Nat) (w : World) (hx : w.cell? ⟨g, 0, none⟩ = some (.int .i64 x)) (hg : g < w.heap.size) :
    Calls Try.prog 39 #[.agg #[.int .i64 s.f0, .int .i64 s.f1], .pointer (some ⟨g, 0, none⟩)] w fun e w' => e = .returned (.bool (inS s x)) ∧ Below w.heap.size w w' := by
  have hq : ∀ o, (w.alloc o).cell? ⟨g, 0, none⟩ = some (.int .i64 x) := fun o => pw_cell_below ((Below.refl _ _).alloc (Nat.le_refl _) o) hx
  clear hx
  obtain ⟨a, b⟩ := s
  by_cases h1 : a ≤ x
  · have h1b : decide (a ≤ x) = true := by simpa using h1
    have hv : inS ⟨a, b⟩ x = decide (x < b) := by unfold inS; simp [h1]
    rw [hv]
    clear hv
    go_enter Try.func39, Try.ntmps39
    go_wp2
    go_ret
    exact ⟨rfl, (Below.refl _ _).alloc (Nat.le_refl _) _⟩
  · have h1b : decide (a ≤ x) = false := by simpa using h1
    have hv : inS ⟨a, b⟩ x = false := by unfold inS; simp [h1]
    rw [hv]
    clear hv
    go_enter Try.func39, Try.ntmps39
    go_wp2
    go_ret
    exact ⟨rfl, (Below.refl _ _).alloc (Nat.le_refl _) _⟩
set_option maxRecDepth 100000 in
set_option maxHeartbeats 8000000 in
theorem index_has (A0 : Option Addr) (c0 : Nat) (l : List S35) (x : Int) (g : Nat) (w : World) (hr : Kd.C k35 w A0 l.length l) (hc : l.length ≤ c0) (hl : l.length ≤ 1000000) (hx : w.cell? ⟨g, 0, none⟩ = some (.int .i64 x)) (hg : g < w.heap.size) :
    Calls Try.prog 46 #[.slice A0 l.length c0, .func (.func 39) #[] #[.pointer (some ⟨g, 0, none⟩)]] w fun e w' => ∃ i : Int, e = .returned (.int .i64 i) ∧ decide (0 ≤ i) = hasOf l x ∧ Below w.heap.size w w' := by
  have eg : ∀ args w, (callFunc 39 args).run Try.prog w = .ok (.enter 39 args) w := enters_of Try.func39 (by kernel_rfl) rfl
  have HR := Aside0.mk hr
  have HC := Aside0.mk hc
  have HX := Aside0.mk hx
  have HG := Aside0.mk hg
  clear hr hc hx hg
  go_enter Try.func46, Try.ntmps46
  go_wp2
  go_loopw [8] (fun i wr => ∃ kk : Nat, i = .int .i64 kk ∧ Aside0 (kk ≤ l.length) ∧ Aside0 (hasOf (l.take kk) x = false) ∧ Aside0 (Below w.heap.size w wr))
    (fun i _ => l.length - (intOf i).toNat)
  case atStart => exact ⟨0, rfl, ⟨Nat.zero_le _⟩, ⟨by simp [hasOf]⟩, ⟨Below.refl _ _⟩⟩
  case round =>
    obtain ⟨kk, rfl, HK, HN, HB⟩ := hrel
    by_cases hk : kk < l.length
    · have hk1 : (kk : Int) < (l.length : Int) := by omega
      have hd0 : decide (kk < l.length) = true := by simpa using hk
      obtain ⟨ad, rfl, hz0, hz1⟩ := at_T35 (Kd.C_below HR.out HB.out) (kk : Int) (by omega) hk1
      simp only [Int.toNat_natCast] at hz0 hz1
      have hsn := Aside0.mk (show hasOf (l.take (kk + 1)) x = (hasOf (l.take kk) x || inS (rd_T35 l kk) x) by rw [List.take_succ_eq_append_getElem hk, hasOf_inS, hasOf_inS, List.any_append]; simp [rd_T35, List.getD_eq_getElem?_getD, List.getElem?_eq_getElem hk])
      have hmem := Aside0.mk (show inS (rd_T35 l kk) x = true → hasOf l x = true from fun h => by
        rw [hasOf_inS, List.any_eq_true]
        exact ⟨l[kk], List.getElem_mem hk, by rw [← h]; simp [rd_T35, List.getD_eq_getElem?_getD, List.getElem?_eq_getElem hk]⟩)
      have hxr := Aside0.mk (pw_cell_below HB.out HX.out)
      have hgr := Aside0.mk (Nat.lt_of_lt_of_le HG.out HB.out.size)
      generalize rd_T35 l kk = s at *
      cases hin : inS s x with
      | true =>
        go_wp2_with (go_at_call 39; (with_reducible refine (has_closure s x g _ hxr.out hgr.out).mono ?_); rintro e w1 ⟨rfl, hb⟩; have HB1 := Aside0.mk (below_then HB.out HB.out.size hb); clear hb)
        go_ret
        exact ⟨_, rfl, by rw [hmem.out hin]; simp, HB1.out⟩
      | false =>
        go_wp2_with (go_at_call 39; (with_reducible refine (has_closure s x g _ hxr.out hgr.out).mono ?_); rintro e w1 ⟨rfl, hb⟩; have HB1 := Aside0.mk (below_then HB.out HB.out.size hb); clear hb)
        go_roundw
        case rel => exact ⟨kk + 1, by go_num, ⟨by omega⟩, ⟨by rw [hsn.out, HN.out, hin]; rfl⟩, HB1⟩
        case measure => simp [intOf]; omega
    · have hd0 : decide (kk < l.length) = false := by simpa using hk
      have hfin := Aside0.mk (show hasOf l x = false by have := HN.out; rwa [List.take_of_length_le (by omega)] at this)
      go_wp2
      go_ret
      exact ⟨_, rfl, by rw [hfin.out]; rfl, HB.out⟩
set_option maxRecDepth 100000 in
set_option maxHeartbeats 4000000 in
theorem has_main (A0 : Option Addr) (c0 : Nat) (l : List S35) (x : Int) (w : World) (hr : Kd.C k35 w A0 l.length l) (hc : l.length ≤ c0) (hl : l.length ≤ 1000000) :
    Calls Try.prog 29 #[.slice A0 l.length c0, .int .i64 x] w fun e w' => e = .returned (.bool (hasOf l x)) ∧ Below w.heap.size w w' := by
  have HR := Aside0.mk (Kd.C_alloc hr (.cells #[.int .i64 x] 3))
  have HC := Aside0.mk hc
  have HL := Aside0.mk hl
  have HX := Aside0.mk (blk_cell (World.alloc_heap_new w (.cells #[.int .i64 x] 3)) 0)
  have HZ := Aside0.mk (show w.heap.size < (w.alloc (.cells #[.int .i64 x] 3)).heap.size by simp)
  have HB0 := Aside0.mk ((Below.refl w.heap.size w).alloc (Nat.le_refl _) (.cells #[.int .i64 x] 3))
  clear hr hc hl
  have hcf : Calls Try.prog 38 #[.slice A0 l.length c0, .func (.func 39) #[] #[.pointer (some ⟨w.heap.size, 0, none⟩)]] (w.alloc (.cells #[.int .i64 x] 3)) fun e w' => e = .returned (.bool (hasOf l x)) ∧ Below w.heap.size w w' := by
    go_enter Try.func38, Try.ntmps38
    go_wp2_with (go_at_call 46; go_loud (refine (index_has A0 c0 l x w.heap.size _ HR.out HC.out HL.out HX.out HZ.out).mono ?_); rintro e w1 ⟨i, rfl, hi, hb⟩; have HB1 := Aside0.mk (HB0.out.trans (hb.mono (Nat.le_of_lt HZ.out))); have HI := Aside0.mk hi; clear hb hi)
    go_ret
    exact ⟨by rw [HI.out]; rfl, HB1.out⟩
  have HCF := Aside0.mk hcf
  clear hcf
  go_enter Try.func29, Try.ntmps29
  go_wp2_with (go_at_call 38; (with_reducible refine HCF.out.mono ?_); rintro e w1 ⟨rfl, hb⟩; have HB1 := Aside0.mk hb; clear hb)
  go_ret
  exact ⟨rfl, HB1.out⟩
def span_Has.f (l0 : List S35) (a1 : Int) : Option Bool := if l0.length ≤ 1000000 then some (hasOf l0 a1) else none
theorem span_Has.calls (A0 : Option Addr) (c0 : Nat) (l0 : List (S35)) (a1 : Int) (r : Bool) (w : World) (hr0 : Kd.C k35 w A0 l0.length l0) (hc0 : l0.length ≤ c0) (h : span_Has.f l0 a1 = some r) :
    Calls Try.prog 29 #[.slice A0 l0.length c0, .int .i64 a1] w fun e w' => e = .returned (.bool r) ∧ Below w.heap.size w w' := by
  unfold span_Has.f at h
  split at h
  case isFalse => cases h
  rename_i hl
  obtain rfl := Option.some.inj h
  exact has_main A0 c0 l0 a1 w hr0 hc0 hl
end Go.Proofs.Ytlfcaoniclnimaa.G
