/- The law SpanFull: whatever it is handed, it returns true, and what it is handed reads as before. No conditions. -/
import Derived.Test.YtlfcaoniclnimaaM1
import Derived.Test.YtlfcaoniclnimaaM4
import Derived.Test.YtlfcaoniclnimaaRows
import Derived.WalkKit
import Derived.ProofKit
import Derived.OpenShut
import Derived.ShutString
import Derived.ChangeOld
import Derived.Below
import Derived.SizedLaws
namespace Go.Proofs.Ytlfcaoniclnimaa.G
open Go.RowKit Go.Proofs.YtlfcaoniclnimaaW.PrintWords Go.Proofs.YtlfcaoniclnimaaW.PrintLast Go.Proofs.YtlfcaoniclnimaaW.PrintMore
attribute [local go_sem] max2_int min2_int max_two min_two max_three min_three max_four min_four   -- for this text's walks alone
set_option linter.unusedVariables false
set_option linter.unusedSimpArgs false

/-! ### papermilllaw04_SpanFull: function 5 -/
mutual
def papermilllaw04_SpanFull.l0 : Nat → Int → Int → List (S35) → Int → Option (Bool)
  | 0, _, _, _, _ => none
  | k + 1, x0, x1, x5, x7 => if x7 < (wrap64 (Int.tmod x0 257)) then (if x5.length < 8796093022208 then (papermilllaw04_SpanFull.l0 k x0 x1 (x5 ++ [(⟨wrap64 (4 * x7), wrap64 ((wrap64 (4 * x7)) + 1)⟩ : S35)]) (wrap64 (x7 + 1))) else (none)) else (papermilllaw04_SpanFull.l1 k x1 x5 ([] : List (S35)) 0)
def papermilllaw04_SpanFull.l1 : Nat → Int → List (S35) → List (S35) → Int → Option (Bool)
  | 0, _, _, _, _ => none
  | k + 1, x1, x5, x6, x8 => if x8 < (wrap64 (Int.tmod x1 257)) then (if x6.length < 8796093022208 then (papermilllaw04_SpanFull.l1 k x1 x5 (x6 ++ [(⟨wrap64 ((wrap64 (4 * x8)) + 2), wrap64 ((wrap64 (4 * x8)) + 3)⟩ : S35)]) (wrap64 (x8 + 1))) else (none)) else ((span_Union.f k x5 x6).bind fun bt6007 => (if (wrap64 ((x5.length : Int) + (x6.length : Int))) > 256 then (if (bt6007.1.length : Int) = 0 then (if bt6007.2 = 8 then ((papermilllaw04_awake.f).bind fun t6011 => (some t6011)) else (some false)) else (some false)) else (if (bt6007.1.length : Int) = (wrap64 ((x5.length : Int) + (x6.length : Int))) then (if bt6007.2 = 0 then ((papermilllaw04_awake.f).bind fun t6012 => (some t6012)) else (some false)) else (some false))))
end
def papermilllaw04_SpanFull.f (k : Nat) (a0 : Int) (a1 : Int) : Option (Bool) := papermilllaw04_SpanFull.l0 k a0 a1 ([] : List (S35)) 0
theorem papermilllaw04_SpanFull.mono_l : ∀ k, (∀ y0 y1 y2 y3, LeO (papermilllaw04_SpanFull.l0 k y0 y1 y2 y3) (papermilllaw04_SpanFull.l0 (k + 1) y0 y1 y2 y3)) ∧ (∀ y0 y1 y2 y3, LeO (papermilllaw04_SpanFull.l1 k y0 y1 y2 y3) (papermilllaw04_SpanFull.l1 (k + 1) y0 y1 y2 y3))
  | 0 => ⟨fun _ _ _ _ r h => by simp [papermilllaw04_SpanFull.l0] at h, fun _ _ _ _ r h => by simp [papermilllaw04_SpanFull.l1] at h⟩
  | k + 1 => by
    obtain ⟨ih0, ih1⟩ := papermilllaw04_SpanFull.mono_l k
    refine ⟨?_, ?_⟩
    · intro y0 y1 y2 y3
      unfold papermilllaw04_SpanFull.l0
      repeat' first
      | (with_reducible exact ih0 _ _ _ _)
      | (with_reducible exact ih1 _ _ _ _)
      | (with_reducible exact span_Union.mono _ _ _)
      | (with_reducible exact LeO.refl _)
      | (with_reducible exact LeO.none _)
      | (with_reducible refine LeO.ite ?_ ?_)
      | (with_reducible refine LeO.bind ?_ (fun _ => ?_))
      | exact ih0 _ _ _ _
      | exact ih1 _ _ _ _
      | exact span_Union.mono _ _ _
      | exact LeO.none _
      | refine LeO.ite ?_ ?_
      | refine LeO.bind ?_ (fun _ => ?_)
    · intro y0 y1 y2 y3
      unfold papermilllaw04_SpanFull.l1
      repeat' first
      | (with_reducible exact ih0 _ _ _ _)
      | (with_reducible exact ih1 _ _ _ _)
      | (with_reducible exact span_Union.mono _ _ _)
      | (with_reducible exact LeO.refl _)
      | (with_reducible exact LeO.none _)
      | (with_reducible refine LeO.ite ?_ ?_)
      | (with_reducible refine LeO.bind ?_ (fun _ => ?_))
      | exact ih0 _ _ _ _
      | exact ih1 _ _ _ _
      | exact span_Union.mono _ _ _
      | exact LeO.none _
      | refine LeO.ite ?_ ?_
      | refine LeO.bind ?_ (fun _ => ?_)
theorem papermilllaw04_SpanFull.mono : ∀ a0 a1 k, LeO (papermilllaw04_SpanFull.f k a0 a1) (papermilllaw04_SpanFull.f (k + 1) a0 a1) := by
  intro a0 a1 k
  obtain ⟨ih0, ih1⟩ := papermilllaw04_SpanFull.mono_l k
  unfold papermilllaw04_SpanFull.f
  repeat' first
      | (with_reducible exact ih0 _ _ _ _)
      | (with_reducible exact ih1 _ _ _ _)
      | (with_reducible exact span_Union.mono _ _ _)
      | (with_reducible exact LeO.refl _)
      | (with_reducible exact LeO.none _)
      | (with_reducible refine LeO.ite ?_ ?_)
      | (with_reducible refine LeO.bind ?_ (fun _ => ?_))
      | exact ih0 _ _ _ _
      | exact ih1 _ _ _ _
      | exact span_Union.mono _ _ _
      | exact LeO.none _
      | refine LeO.ite ?_ ?_
      | refine LeO.bind ?_ (fun _ => ?_)
set_option maxHeartbeats 8000000 in
set_option maxRecDepth 100000 in
theorem papermilllaw04_SpanFull.calls (k : Nat) (a0 : Int) (a1 : Int) (r : Bool) (w : World) (h : papermilllaw04_SpanFull.f k a0 a1 = some r) :
    Calls Try.prog 5 #[.int .u16 a0, .int .u16 a1] w fun e w' => e = .returned (.bool r) ∧ Below w.heap.size w w' := by
  have hu35 := Try.underlying35
  have HB := Aside0.mk (Below.refl w.heap.size w)
  have H : (papermilllaw04_SpanFull.l0 k a0 a1 ([] : List (S35)) 0) = some r := h
  clear h
  have H' := Aside0.mk H
  clear H
  go_enter Try.func5, Try.ntmps5
  go_wp2
  go_loopg [5, 7] k (fun kq v5 v7 w' => ∃ (x5_1 : List (S35)) (x7_1 : Int), v7 = .int .i64 x7_1 ∧ Aside0 (papermilllaw04_SpanFull.l0 kq a0 a1 x5_1 x7_1 = some r) ∧ Aside0 (kq ≤ k) ∧ Aside0 (Kd.R k35 35 w' w.heap.size (fun _ => True) v5 x5_1) ∧ Aside0 (Below w.heap.size w w'))
  case atStart => exact ⟨(([] : List (S35))), (0), (by first | rfl | (simp; done) | (simp [*]; done)), H', ⟨Nat.le_refl _⟩, ⟨by first | exact Kd.R_nil _ _ _ _ _ | exact Kd.N_nil _ _ _ _ _ | exact Kd.V_nil _ _ _ _ _ | exact Kd.Q_nil _ _ _ _ _ | exact Kd.S_nil _ _ _ _ _⟩, ⟨by repeat (first | (with_reducible first | exact HB.out | apply below_alloc | apply pw_below_drewN | apply below_drew1) | exact HB.out)⟩⟩
  case round =>
    clear H'
    try clear p2
    obtain ⟨x5_1, x7_1, rfl, HA, HK1, HO_5, HB⟩ := hrel
    cases gk with
    | zero => exact absurd HA.out (by simp [papermilllaw04_SpanFull.l0])
    | succ k1 =>
      have H := HA.out
      clear HA
      simp only [papermilllaw04_SpanFull.l0] at H
      by_cases c3 : x7_1 < (wrap64 (Int.tmod a0 257))
      · rw [if_pos c3] at H
        have c3b0 : decide (x7_1 < (wrap64 (Int.tmod a0 257))) = true := decide_eq_true c3
        clear c3
        by_cases c4 : x5_1.length < 8796093022208
        · rw [if_pos c4] at H
          have LMc4 := Aside0.mk c4
          clear c4
          obtain ⟨y6001, hy6001⟩ : ∃ y_ : List (S35), y_ = (x5_1 ++ [(⟨wrap64 (4 * x7_1), wrap64 ((wrap64 (4 * x7_1)) + 1)⟩ : S35)]) := ⟨_, rfl⟩
          replace H : (papermilllaw04_SpanFull.l0 k1 a0 a1 y6001 (wrap64 (x7_1 + 1))) = some r := by first | (rw [hy6001]; with_reducible exact H) | (have H2_ := (Option.bind_some _ _).symm.trans H; rw [hy6001]; with_reducible exact H2_) | (have H2_ := (Option.bind_some _ _).symm.trans H; with_reducible exact H2_) | with_reducible exact H | (rw [hy6001]; exact H) | exact H
          have Ny6001 := Aside0.mk hy6001
          clear hy6001
          have H' := Aside0.mk H
          clear H
          go_wp2_with (first | ((with_reducible refine gate_builtin (b := .append) (xs := #[.tmp 18, .tmp 25]) rfl ?_); at_builtin; refine Kd.R_append k35 (w0 := w) w.heap.size rfl (.tmp 18) (.tmp 25) 22 35 (.agg #[(.int .i64 0), (.int .i64 0)]) 16 rfl Try.underlying22 info35 rfl (by decide) (by omega) u5 x5_1 (⟨wrap64 (4 * x7_1), wrap64 ((wrap64 (4 * x7_1)) + 1)⟩ : S35) [.int .i64 (wrap64 (4 * x7_1)), .int .i64 (wrap64 ((wrap64 (4 * x7_1)) + 1))] (fun _ => True) (fun _ => False) rfl rfl ?aP (fun _ hk => hk.elim) ?aF ?aO ?aB ?aS ?aL ?_; (case aP => exact k35_mkM _ _ _ (⟨wrap64 (4 * x7_1), wrap64 ((wrap64 (4 * x7_1)) + 1)⟩ : S35)); (case aB => exact (by repeat (first | (with_reducible first | exact HB.out | apply below_alloc | apply pw_below_drewN | apply below_drew1) | exact HB.out))); (case aF => exact (fun _ _ => trivial)); (case aO => exact (by (with_reducible repeat (first | apply Kd.R_alloc | apply Kd.R_drewN | apply Kd.R_drew)); exact HO_5.out)); (case aS => exact (below_size (by repeat (first | (with_reducible first | exact HB.out | apply below_alloc | apply pw_below_drewN | apply below_drew1) | exact HB.out)))); (case aL => have := LMc4.out; omega); intro v6002 w5 ho hb hg hat; rw [← Ny6001.out] at ho; have n0_ := Aside0.mk (hb); have n1_ := Aside0.mk (ho); clear HB; clear HO_5; have HB := n0_; have HO6003 := n1_; clear n0_ n1_; clear ho hb hg hat))
          go_roundg k1
          case measure => have := HK1.out; omega
          case rel => exact ⟨(y6001), (wrap64 (x7_1 + 1)), (by first | rfl | (simp; done) | (simp [*]; done)), H', ⟨by have := HK1.out; omega⟩, ⟨by (with_reducible repeat (first | apply Kd.R_alloc | apply Kd.R_drewN | apply Kd.R_drew)); exact HO6003.out⟩, ⟨by repeat (first | (with_reducible first | exact HB.out | apply below_alloc | apply pw_below_drewN | apply below_drew1) | exact HB.out)⟩⟩
        · rw [if_neg c4] at H
          exact absurd H (by simp)
      · rw [if_neg c3] at H
        have c3b0 : decide (x7_1 < (wrap64 (Int.tmod a0 257))) = false := decide_eq_false c3
        clear c3
        have H' := Aside0.mk H
        clear H
        go_wp2
        go_loopg [6, 8] k1 (fun kq v6 v8 w' => ∃ (x6_2 : List (S35)) (x8_2 : Int), v8 = .int .i64 x8_2 ∧ Aside0 (papermilllaw04_SpanFull.l1 kq a1 x5_1 x6_2 x8_2 = some r) ∧ Aside0 (kq ≤ k1) ∧ Aside0 (Kd.R k35 35 w' w.heap.size (fun k_ => some k_ ≠ (v6 : Value).ownBlock) u5 x5_1) ∧ Aside0 (Kd.R k35 35 w' w.heap.size (fun k_ => some k_ ≠ (u5 : Value).ownBlock) v6 x6_2) ∧ Aside0 (Below w.heap.size w w'))
        case atStart => exact ⟨(([] : List (S35))), (0), (by first | rfl | (simp; done) | (simp [*]; done)), H', ⟨Nat.le_refl _⟩, ⟨by (with_reducible repeat (first | apply Kd.R_alloc | apply Kd.R_drewN | apply Kd.R_drew)); exact Kd.R_mono HO_5.out (fun _ hk => (by simp [Value.ownBlock]))⟩, ⟨by first | exact Kd.R_nil _ _ _ _ _ | exact Kd.N_nil _ _ _ _ _ | exact Kd.V_nil _ _ _ _ _ | exact Kd.Q_nil _ _ _ _ _ | exact Kd.S_nil _ _ _ _ _⟩, ⟨by repeat (first | (with_reducible first | exact HB.out | apply below_alloc | apply pw_below_drewN | apply below_drew1) | exact HB.out)⟩⟩
        case round =>
          clear H'
          try clear p2
          try clear c3
          try clear c3b0
          try clear c4
          try clear c5
          try clear p2
          obtain ⟨x6_2, x8_2, rfl, HA, HK2, HO_5, HO_6, HB⟩ := hrel
          cases gk with
          | zero => exact absurd HA.out (by simp [papermilllaw04_SpanFull.l1])
          | succ k2 =>
            have H := HA.out
            clear HA
            simp only [papermilllaw04_SpanFull.l1] at H
            by_cases c6 : x8_2 < (wrap64 (Int.tmod a1 257))
            · rw [if_pos c6] at H
              have c6b0 : decide (x8_2 < (wrap64 (Int.tmod a1 257))) = true := decide_eq_true c6
              clear c6
              by_cases c7 : x6_2.length < 8796093022208
              · rw [if_pos c7] at H
                have LMc7 := Aside0.mk c7
                clear c7
                obtain ⟨y6004, hy6004⟩ : ∃ y_ : List (S35), y_ = (x6_2 ++ [(⟨wrap64 ((wrap64 (4 * x8_2)) + 2), wrap64 ((wrap64 (4 * x8_2)) + 3)⟩ : S35)]) := ⟨_, rfl⟩
                replace H : (papermilllaw04_SpanFull.l1 k2 a1 x5_1 y6004 (wrap64 (x8_2 + 1))) = some r := by first | (rw [hy6004]; with_reducible exact H) | (have H2_ := (Option.bind_some _ _).symm.trans H; rw [hy6004]; with_reducible exact H2_) | (have H2_ := (Option.bind_some _ _).symm.trans H; with_reducible exact H2_) | with_reducible exact H | (rw [hy6004]; exact H) | exact H
                have Ny6004 := Aside0.mk hy6004
                clear hy6004
                have H' := Aside0.mk H
                clear H
                go_wp2_with (first | ((with_reducible refine gate_builtin (b := .append) (xs := #[.tmp 34, .tmp 42]) rfl ?_); at_builtin; refine Kd.R_append k35 (w0 := w) w.heap.size rfl (.tmp 34) (.tmp 42) 22 35 (.agg #[(.int .i64 0), (.int .i64 0)]) 16 rfl Try.underlying22 info35 rfl (by decide) (by omega) u6 x6_2 (⟨wrap64 ((wrap64 (4 * x8_2)) + 2), wrap64 ((wrap64 (4 * x8_2)) + 3)⟩ : S35) [.int .i64 (wrap64 ((wrap64 (4 * x8_2)) + 2)), .int .i64 (wrap64 ((wrap64 (4 * x8_2)) + 3))] (fun k_ => some k_ ≠ (u5 : Value).ownBlock) (fun _ => False) rfl rfl ?aP (fun _ hk => hk.elim) ?aF ?aO ?aB ?aS ?aL ?_; (case aP => exact k35_mkM _ _ _ (⟨wrap64 ((wrap64 (4 * x8_2)) + 2), wrap64 ((wrap64 (4 * x8_2)) + 3)⟩ : S35)); (case aB => exact (by repeat (first | (with_reducible first | exact HB.out | apply below_alloc | apply pw_below_drewN | apply below_drew1) | exact HB.out))); (case aF => exact (fun k_ hk => Kd.fresh' (Kd.R_lt (by (with_reducible repeat (first | apply Kd.R_alloc | apply Kd.R_drewN | apply Kd.R_drew)); exact HO_5.out)) k_ hk)); (case aO => exact (by (with_reducible repeat (first | apply Kd.R_alloc | apply Kd.R_drewN | apply Kd.R_drew)); exact HO_6.out)); (case aS => exact (below_size (by repeat (first | (with_reducible first | exact HB.out | apply below_alloc | apply pw_below_drewN | apply below_drew1) | exact HB.out)))); (case aL => have := LMc7.out; omega); intro v6005 w8 ho hb hg hat; rw [← Ny6004.out] at ho; have n0_ := Aside0.mk (Kd.R_after (ok := (fun _ => True)) (by (with_reducible repeat (first | apply Kd.R_alloc | apply Kd.R_drewN | apply Kd.R_drew)); exact Kd.R_mono HO_5.out (fun _ hk => ⟨trivial, hk⟩)) hg hat); have n1_ := Aside0.mk (hb); have n2_ := Aside0.mk (ho); clear HO_5; clear HB; clear HO_6; have HO_5 := n0_; have HB := n1_; have HO6006 := n2_; clear n0_ n1_ n2_; clear ho hb hg hat))
                go_roundg k2
                case measure => have := HK1.out; have := HK2.out; omega
                case rel => exact ⟨(y6004), (wrap64 (x8_2 + 1)), (by first | rfl | (simp; done) | (simp [*]; done)), H', ⟨by have := HK1.out; have := HK2.out; omega⟩, ⟨by (with_reducible repeat (first | apply Kd.R_alloc | apply Kd.R_drewN | apply Kd.R_drew)); exact Kd.R_mono HO_5.out (fun _ hk => hk.2)⟩, ⟨by (with_reducible repeat (first | apply Kd.R_alloc | apply Kd.R_drewN | apply Kd.R_drew)); exact HO6006.out⟩, ⟨by repeat (first | (with_reducible first | exact HB.out | apply below_alloc | apply pw_below_drewN | apply below_drew1) | exact HB.out)⟩⟩
              · rw [if_neg c7] at H
                exact absurd H (by simp)
            · rw [if_neg c6] at H
              have c6b0 : decide (x8_2 < (wrap64 (Int.tmod a1 257))) = false := decide_eq_false c6
              clear c6
              replace H := Option.bind_eq_some_iff.mp H
              obtain ⟨⟨t6007, t6008⟩, A90, H⟩ := H
              replace H : (if (wrap64 ((x5_1.length : Int) + (x6_2.length : Int))) > 256 then (if (t6007.length : Int) = 0 then (if t6008 = 8 then ((papermilllaw04_awake.f).bind fun t6011 => (some t6011)) else (some false)) else (some false)) else (if (t6007.length : Int) = (wrap64 ((x5_1.length : Int) + (x6_2.length : Int))) then (if t6008 = 0 then ((papermilllaw04_awake.f).bind fun t6012 => (some t6012)) else (some false)) else (some false))) = some r := H
              have A9 := Aside0.mk A90
              clear A90
              by_cases c10 : (wrap64 ((x5_1.length : Int) + (x6_2.length : Int))) > 256
              · rw [if_pos c10] at H
                have c10b0 : decide (256 < (wrap64 ((x5_1.length : Int) + (x6_2.length : Int)))) = true := decide_eq_true c10
                clear c10
                by_cases c11 : (t6007.length : Int) = 0
                · rw [if_pos c11] at H
                  have c11b0 : ((t6007.length : Int) == 0) = true := beq_iff_eq.mpr c11
                  have c11b1 : ((t6007.length : Int) != 0) = false := bne_eq_false_iff_eq.mpr c11
                  clear c11
                  by_cases c12 : t6008 = 8
                  · rw [if_pos c12] at H
                    have c12b0 : (t6008 == 8) = true := beq_iff_eq.mpr c12
                    have c12b1 : (t6008 != 8) = false := bne_eq_false_iff_eq.mpr c12
                    clear c12
                    replace H := Option.bind_eq_some_iff.mp H
                    obtain ⟨t6011, A130, H⟩ := H
                    replace H : (some t6011) = some r := H
                    have A13 := Aside0.mk A130
                    clear A130
                    obtain rfl := Option.some.inj H
                    obtain ⟨Ao14, co14, eo14⟩ := Kd.R_slice HO_5.out
                    subst eo14
                    obtain ⟨Ao15, co15, eo15⟩ := Kd.R_slice HO_6.out
                    subst eo15
                    go_wp2_with (first | ((with_reducible refine gate_callee (f := 21) rfl ?_); refine goesL_ (some 47) rfl rfl Try.func21 (by kernel_rfl) rfl #[.slice Ao14 x5_1.length co14, .slice Ao15 x6_2.length co15] rfl (by (try simp only [List.map_toArray, List.map_cons, List.map_nil]); first | done | rfl | (simp only [List.length_drop, List.length_take]; rfl)) ?_; (with_reducible refine (span_Union.calls k2 _ _ x5_1 _ _ x6_2 t6007 t6008 _ ?side1 ?side2 ?side3 ?side4 A9.out).mono ?_); (case side1 => repeat (first | exact (Kd.R_reads' HO_5.out).2.2 | (with_reducible refine Kd.C_alloc ?_ _) | (with_reducible refine Kd.C_drewN ?_ _) | (with_reducible refine Kd.C_drew ?_))); (case side2 => exact (Kd.R_reads' HO_5.out).2.1); (case side3 => repeat (first | exact (Kd.R_reads' HO_6.out).2.2 | (with_reducible refine Kd.C_alloc ?_ _) | (with_reducible refine Kd.C_drewN ?_ _) | (with_reducible refine Kd.C_drew ?_))); (case side4 => exact (Kd.R_reads' HO_6.out).2.1); rintro e w16 ⟨v6009, rfl, ho0, hb⟩; refine ⟨_, rfl, ?_⟩; have n0_ := Aside0.mk (Kd.R_elder' (by (with_reducible repeat (first | apply Kd.R_alloc | apply Kd.R_drewN | apply Kd.R_drew)); exact HO_5.out) (Kd.R_base ho0) hb); have n1_ := Aside0.mk (Kd.R_elder' (by (with_reducible repeat (first | apply Kd.R_alloc | apply Kd.R_drewN | apply Kd.R_drew)); exact HO_6.out) (Kd.R_base ho0) hb); have n2_ := Aside0.mk (Kd.R_lower (Kd.R_new' (Kd.R_new' ho0 (Kd.R_lt (by (with_reducible repeat (first | apply Kd.R_alloc | apply Kd.R_drewN | apply Kd.R_drew)); exact HO_5.out))) (Kd.R_lt (by (with_reducible repeat (first | apply Kd.R_alloc | apply Kd.R_drewN | apply Kd.R_drew)); exact HO_6.out))) (below_size (by repeat (first | (with_reducible first | exact HB.out | apply below_alloc | apply pw_below_drewN | apply below_drew1) | exact HB.out)))); have n3_ := Aside0.mk (below_step (by repeat (first | (with_reducible first | exact HB.out | apply below_alloc | apply pw_below_drewN | apply below_drew1) | exact HB.out)) hb); clear HO_5; clear HO_6; clear HB; have HO_5 := n0_; have HO_6 := n1_; have HO6010 := n2_; have HB := n3_; clear n0_ n1_ n2_ n3_; (try clear hb); (try clear hb2); (try clear hk); (try clear hi); (try clear ho0); obtain ⟨Ao17, co17, eo17⟩ := Kd.R_slice HO6010.out; subst eo17) | (go_at_call 13; (with_reducible refine (papermilllaw04_awake.calls  t6011 _ A13.out).mono ?_); rintro e w18 ⟨rfl, hb⟩; have n0_ := Aside0.mk (Kd.R_below (by (with_reducible repeat (first | apply Kd.R_alloc | apply Kd.R_drewN | apply Kd.R_drew)); exact HO_5.out) hb); have n1_ := Aside0.mk (Kd.R_below (by (with_reducible repeat (first | apply Kd.R_alloc | apply Kd.R_drewN | apply Kd.R_drew)); exact HO_6.out) hb); have n2_ := Aside0.mk (Kd.R_below (by (with_reducible repeat (first | apply Kd.R_alloc | apply Kd.R_drewN | apply Kd.R_drew)); exact HO6010.out) hb); have n3_ := Aside0.mk (below_step (by repeat (first | (with_reducible first | exact HB.out | apply below_alloc | apply pw_below_drewN | apply below_drew1) | exact HB.out)) hb); clear HO_5; clear HO_6; clear HO6010; clear HB; have HO_5 := n0_; have HO_6 := n1_; have HO6010 := n2_; have HB := n3_; clear n0_ n1_ n2_ n3_; (try clear hb); (try clear hb2); (try clear hk); (try clear hi)))
                    go_ret
                    exact ⟨by first | rfl | (simp [errW_none, errW_some] <;> rfl) | (simp [*, errW_none, errW_some] <;> rfl), by repeat (first | (with_reducible first | exact HB.out | apply below_alloc | apply pw_below_drewN | apply below_drew1) | exact HB.out)⟩
                  · rw [if_neg c12] at H
                    have c12b0 : (t6008 == 8) = false := beq_eq_false_iff_ne.mpr c12
                    have c12b1 : (t6008 != 8) = true := bne_iff_ne.mpr c12
                    obtain rfl := Option.some.inj H
                    obtain ⟨Ao19, co19, eo19⟩ := Kd.R_slice HO_5.out
                    subst eo19
                    obtain ⟨Ao20, co20, eo20⟩ := Kd.R_slice HO_6.out
                    subst eo20
                    go_wp2_with (first | ((with_reducible refine gate_callee (f := 21) rfl ?_); refine goesL_ (some 47) rfl rfl Try.func21 (by kernel_rfl) rfl #[.slice Ao19 x5_1.length co19, .slice Ao20 x6_2.length co20] rfl (by (try simp only [List.map_toArray, List.map_cons, List.map_nil]); first | done | rfl | (simp only [List.length_drop, List.length_take]; rfl)) ?_; (with_reducible refine (span_Union.calls k2 _ _ x5_1 _ _ x6_2 t6007 t6008 _ ?side1 ?side2 ?side3 ?side4 A9.out).mono ?_); (case side1 => repeat (first | exact (Kd.R_reads' HO_5.out).2.2 | (with_reducible refine Kd.C_alloc ?_ _) | (with_reducible refine Kd.C_drewN ?_ _) | (with_reducible refine Kd.C_drew ?_))); (case side2 => exact (Kd.R_reads' HO_5.out).2.1); (case side3 => repeat (first | exact (Kd.R_reads' HO_6.out).2.2 | (with_reducible refine Kd.C_alloc ?_ _) | (with_reducible refine Kd.C_drewN ?_ _) | (with_reducible refine Kd.C_drew ?_))); (case side4 => exact (Kd.R_reads' HO_6.out).2.1); rintro e w21 ⟨v6009, rfl, ho0, hb⟩; refine ⟨_, rfl, ?_⟩; have n0_ := Aside0.mk (Kd.R_elder' (by (with_reducible repeat (first | apply Kd.R_alloc | apply Kd.R_drewN | apply Kd.R_drew)); exact HO_5.out) (Kd.R_base ho0) hb); have n1_ := Aside0.mk (Kd.R_elder' (by (with_reducible repeat (first | apply Kd.R_alloc | apply Kd.R_drewN | apply Kd.R_drew)); exact HO_6.out) (Kd.R_base ho0) hb); have n2_ := Aside0.mk (Kd.R_lower (Kd.R_new' (Kd.R_new' ho0 (Kd.R_lt (by (with_reducible repeat (first | apply Kd.R_alloc | apply Kd.R_drewN | apply Kd.R_drew)); exact HO_5.out))) (Kd.R_lt (by (with_reducible repeat (first | apply Kd.R_alloc | apply Kd.R_drewN | apply Kd.R_drew)); exact HO_6.out))) (below_size (by repeat (first | (with_reducible first | exact HB.out | apply below_alloc | apply pw_below_drewN | apply below_drew1) | exact HB.out)))); have n3_ := Aside0.mk (below_step (by repeat (first | (with_reducible first | exact HB.out | apply below_alloc | apply pw_below_drewN | apply below_drew1) | exact HB.out)) hb); clear HO_5; clear HO_6; clear HB; have HO_5 := n0_; have HO_6 := n1_; have HO6010 := n2_; have HB := n3_; clear n0_ n1_ n2_ n3_; (try clear hb); (try clear hb2); (try clear hk); (try clear hi); (try clear ho0); obtain ⟨Ao22, co22, eo22⟩ := Kd.R_slice HO6010.out; subst eo22))
                    go_ret
                    exact ⟨by first | rfl | (simp [errW_none, errW_some] <;> rfl) | (simp [*, errW_none, errW_some] <;> rfl), by repeat (first | (with_reducible first | exact HB.out | apply below_alloc | apply pw_below_drewN | apply below_drew1) | exact HB.out)⟩
                · rw [if_neg c11] at H
                  have c11b0 : ((t6007.length : Int) == 0) = false := beq_eq_false_iff_ne.mpr c11
                  have c11b1 : ((t6007.length : Int) != 0) = true := bne_iff_ne.mpr c11
                  have c11b2 : ¬ (t6007 = []) := fun h_ => c11 (by rw [h_]; rfl)
                  obtain rfl := Option.some.inj H
                  obtain ⟨Ao23, co23, eo23⟩ := Kd.R_slice HO_5.out
                  subst eo23
                  obtain ⟨Ao24, co24, eo24⟩ := Kd.R_slice HO_6.out
                  subst eo24
                  go_wp2_with (first | ((with_reducible refine gate_callee (f := 21) rfl ?_); refine goesL_ (some 47) rfl rfl Try.func21 (by kernel_rfl) rfl #[.slice Ao23 x5_1.length co23, .slice Ao24 x6_2.length co24] rfl (by (try simp only [List.map_toArray, List.map_cons, List.map_nil]); first | done | rfl | (simp only [List.length_drop, List.length_take]; rfl)) ?_; (with_reducible refine (span_Union.calls k2 _ _ x5_1 _ _ x6_2 t6007 t6008 _ ?side1 ?side2 ?side3 ?side4 A9.out).mono ?_); (case side1 => repeat (first | exact (Kd.R_reads' HO_5.out).2.2 | (with_reducible refine Kd.C_alloc ?_ _) | (with_reducible refine Kd.C_drewN ?_ _) | (with_reducible refine Kd.C_drew ?_))); (case side2 => exact (Kd.R_reads' HO_5.out).2.1); (case side3 => repeat (first | exact (Kd.R_reads' HO_6.out).2.2 | (with_reducible refine Kd.C_alloc ?_ _) | (with_reducible refine Kd.C_drewN ?_ _) | (with_reducible refine Kd.C_drew ?_))); (case side4 => exact (Kd.R_reads' HO_6.out).2.1); rintro e w25 ⟨v6009, rfl, ho0, hb⟩; refine ⟨_, rfl, ?_⟩; have n0_ := Aside0.mk (Kd.R_elder' (by (with_reducible repeat (first | apply Kd.R_alloc | apply Kd.R_drewN | apply Kd.R_drew)); exact HO_5.out) (Kd.R_base ho0) hb); have n1_ := Aside0.mk (Kd.R_elder' (by (with_reducible repeat (first | apply Kd.R_alloc | apply Kd.R_drewN | apply Kd.R_drew)); exact HO_6.out) (Kd.R_base ho0) hb); have n2_ := Aside0.mk (Kd.R_lower (Kd.R_new' (Kd.R_new' ho0 (Kd.R_lt (by (with_reducible repeat (first | apply Kd.R_alloc | apply Kd.R_drewN | apply Kd.R_drew)); exact HO_5.out))) (Kd.R_lt (by (with_reducible repeat (first | apply Kd.R_alloc | apply Kd.R_drewN | apply Kd.R_drew)); exact HO_6.out))) (below_size (by repeat (first | (with_reducible first | exact HB.out | apply below_alloc | apply pw_below_drewN | apply below_drew1) | exact HB.out)))); have n3_ := Aside0.mk (below_step (by repeat (first | (with_reducible first | exact HB.out | apply below_alloc | apply pw_below_drewN | apply below_drew1) | exact HB.out)) hb); clear HO_5; clear HO_6; clear HB; have HO_5 := n0_; have HO_6 := n1_; have HO6010 := n2_; have HB := n3_; clear n0_ n1_ n2_ n3_; (try clear hb); (try clear hb2); (try clear hk); (try clear hi); (try clear ho0); obtain ⟨Ao26, co26, eo26⟩ := Kd.R_slice HO6010.out; subst eo26))
                  go_ret
                  exact ⟨by first | rfl | (simp [errW_none, errW_some] <;> rfl) | (simp [*, errW_none, errW_some] <;> rfl), by repeat (first | (with_reducible first | exact HB.out | apply below_alloc | apply pw_below_drewN | apply below_drew1) | exact HB.out)⟩
              · rw [if_neg c10] at H
                have c10b0 : decide (256 < (wrap64 ((x5_1.length : Int) + (x6_2.length : Int)))) = false := decide_eq_false c10
                clear c10
                by_cases c27 : (t6007.length : Int) = (wrap64 ((x5_1.length : Int) + (x6_2.length : Int)))
                · rw [if_pos c27] at H
                  have c27b0 : ((t6007.length : Int) == (wrap64 ((x5_1.length : Int) + (x6_2.length : Int)))) = true := beq_iff_eq.mpr c27
                  have c27b1 : ((t6007.length : Int) != (wrap64 ((x5_1.length : Int) + (x6_2.length : Int)))) = false := bne_eq_false_iff_eq.mpr c27
                  clear c27
                  by_cases c28 : t6008 = 0
                  · rw [if_pos c28] at H
                    have c28b0 : (t6008 == 0) = true := beq_iff_eq.mpr c28
                    have c28b1 : (t6008 != 0) = false := bne_eq_false_iff_eq.mpr c28
                    clear c28
                    replace H := Option.bind_eq_some_iff.mp H
                    obtain ⟨t6012, A290, H⟩ := H
                    replace H : (some t6012) = some r := H
                    have A29 := Aside0.mk A290
                    clear A290
                    obtain rfl := Option.some.inj H
                    obtain ⟨Ao30, co30, eo30⟩ := Kd.R_slice HO_5.out
                    subst eo30
                    obtain ⟨Ao31, co31, eo31⟩ := Kd.R_slice HO_6.out
                    subst eo31
                    go_wp2_with (first | ((with_reducible refine gate_callee (f := 21) rfl ?_); refine goesL_ (some 47) rfl rfl Try.func21 (by kernel_rfl) rfl #[.slice Ao30 x5_1.length co30, .slice Ao31 x6_2.length co31] rfl (by (try simp only [List.map_toArray, List.map_cons, List.map_nil]); first | done | rfl | (simp only [List.length_drop, List.length_take]; rfl)) ?_; (with_reducible refine (span_Union.calls k2 _ _ x5_1 _ _ x6_2 t6007 t6008 _ ?side1 ?side2 ?side3 ?side4 A9.out).mono ?_); (case side1 => repeat (first | exact (Kd.R_reads' HO_5.out).2.2 | (with_reducible refine Kd.C_alloc ?_ _) | (with_reducible refine Kd.C_drewN ?_ _) | (with_reducible refine Kd.C_drew ?_))); (case side2 => exact (Kd.R_reads' HO_5.out).2.1); (case side3 => repeat (first | exact (Kd.R_reads' HO_6.out).2.2 | (with_reducible refine Kd.C_alloc ?_ _) | (with_reducible refine Kd.C_drewN ?_ _) | (with_reducible refine Kd.C_drew ?_))); (case side4 => exact (Kd.R_reads' HO_6.out).2.1); rintro e w32 ⟨v6009, rfl, ho0, hb⟩; refine ⟨_, rfl, ?_⟩; have n0_ := Aside0.mk (Kd.R_elder' (by (with_reducible repeat (first | apply Kd.R_alloc | apply Kd.R_drewN | apply Kd.R_drew)); exact HO_5.out) (Kd.R_base ho0) hb); have n1_ := Aside0.mk (Kd.R_elder' (by (with_reducible repeat (first | apply Kd.R_alloc | apply Kd.R_drewN | apply Kd.R_drew)); exact HO_6.out) (Kd.R_base ho0) hb); have n2_ := Aside0.mk (Kd.R_lower (Kd.R_new' (Kd.R_new' ho0 (Kd.R_lt (by (with_reducible repeat (first | apply Kd.R_alloc | apply Kd.R_drewN | apply Kd.R_drew)); exact HO_5.out))) (Kd.R_lt (by (with_reducible repeat (first | apply Kd.R_alloc | apply Kd.R_drewN | apply Kd.R_drew)); exact HO_6.out))) (below_size (by repeat (first | (with_reducible first | exact HB.out | apply below_alloc | apply pw_below_drewN | apply below_drew1) | exact HB.out)))); have n3_ := Aside0.mk (below_step (by repeat (first | (with_reducible first | exact HB.out | apply below_alloc | apply pw_below_drewN | apply below_drew1) | exact HB.out)) hb); clear HO_5; clear HO_6; clear HB; have HO_5 := n0_; have HO_6 := n1_; have HO6010 := n2_; have HB := n3_; clear n0_ n1_ n2_ n3_; (try clear hb); (try clear hb2); (try clear hk); (try clear hi); (try clear ho0); obtain ⟨Ao33, co33, eo33⟩ := Kd.R_slice HO6010.out; subst eo33) | (go_at_call 13; (with_reducible refine (papermilllaw04_awake.calls  t6012 _ A29.out).mono ?_); rintro e w34 ⟨rfl, hb⟩; have n0_ := Aside0.mk (Kd.R_below (by (with_reducible repeat (first | apply Kd.R_alloc | apply Kd.R_drewN | apply Kd.R_drew)); exact HO_5.out) hb); have n1_ := Aside0.mk (Kd.R_below (by (with_reducible repeat (first | apply Kd.R_alloc | apply Kd.R_drewN | apply Kd.R_drew)); exact HO_6.out) hb); have n2_ := Aside0.mk (Kd.R_below (by (with_reducible repeat (first | apply Kd.R_alloc | apply Kd.R_drewN | apply Kd.R_drew)); exact HO6010.out) hb); have n3_ := Aside0.mk (below_step (by repeat (first | (with_reducible first | exact HB.out | apply below_alloc | apply pw_below_drewN | apply below_drew1) | exact HB.out)) hb); clear HO_5; clear HO_6; clear HO6010; clear HB; have HO_5 := n0_; have HO_6 := n1_; have HO6010 := n2_; have HB := n3_; clear n0_ n1_ n2_ n3_; (try clear hb); (try clear hb2); (try clear hk); (try clear hi)))
                    go_ret
                    exact ⟨by first | rfl | (simp [errW_none, errW_some] <;> rfl) | (simp [*, errW_none, errW_some] <;> rfl), by repeat (first | (with_reducible first | exact HB.out | apply below_alloc | apply pw_below_drewN | apply below_drew1) | exact HB.out)⟩
                  · rw [if_neg c28] at H
                    have c28b0 : (t6008 == 0) = false := beq_eq_false_iff_ne.mpr c28
                    have c28b1 : (t6008 != 0) = true := bne_iff_ne.mpr c28
                    obtain rfl := Option.some.inj H
                    obtain ⟨Ao35, co35, eo35⟩ := Kd.R_slice HO_5.out
                    subst eo35
                    obtain ⟨Ao36, co36, eo36⟩ := Kd.R_slice HO_6.out
                    subst eo36
                    go_wp2_with (first | ((with_reducible refine gate_callee (f := 21) rfl ?_); refine goesL_ (some 47) rfl rfl Try.func21 (by kernel_rfl) rfl #[.slice Ao35 x5_1.length co35, .slice Ao36 x6_2.length co36] rfl (by (try simp only [List.map_toArray, List.map_cons, List.map_nil]); first | done | rfl | (simp only [List.length_drop, List.length_take]; rfl)) ?_; (with_reducible refine (span_Union.calls k2 _ _ x5_1 _ _ x6_2 t6007 t6008 _ ?side1 ?side2 ?side3 ?side4 A9.out).mono ?_); (case side1 => repeat (first | exact (Kd.R_reads' HO_5.out).2.2 | (with_reducible refine Kd.C_alloc ?_ _) | (with_reducible refine Kd.C_drewN ?_ _) | (with_reducible refine Kd.C_drew ?_))); (case side2 => exact (Kd.R_reads' HO_5.out).2.1); (case side3 => repeat (first | exact (Kd.R_reads' HO_6.out).2.2 | (with_reducible refine Kd.C_alloc ?_ _) | (with_reducible refine Kd.C_drewN ?_ _) | (with_reducible refine Kd.C_drew ?_))); (case side4 => exact (Kd.R_reads' HO_6.out).2.1); rintro e w37 ⟨v6009, rfl, ho0, hb⟩; refine ⟨_, rfl, ?_⟩; have n0_ := Aside0.mk (Kd.R_elder' (by (with_reducible repeat (first | apply Kd.R_alloc | apply Kd.R_drewN | apply Kd.R_drew)); exact HO_5.out) (Kd.R_base ho0) hb); have n1_ := Aside0.mk (Kd.R_elder' (by (with_reducible repeat (first | apply Kd.R_alloc | apply Kd.R_drewN | apply Kd.R_drew)); exact HO_6.out) (Kd.R_base ho0) hb); have n2_ := Aside0.mk (Kd.R_lower (Kd.R_new' (Kd.R_new' ho0 (Kd.R_lt (by (with_reducible repeat (first | apply Kd.R_alloc | apply Kd.R_drewN | apply Kd.R_drew)); exact HO_5.out))) (Kd.R_lt (by (with_reducible repeat (first | apply Kd.R_alloc | apply Kd.R_drewN | apply Kd.R_drew)); exact HO_6.out))) (below_size (by repeat (first | (with_reducible first | exact HB.out | apply below_alloc | apply pw_below_drewN | apply below_drew1) | exact HB.out)))); have n3_ := Aside0.mk (below_step (by repeat (first | (with_reducible first | exact HB.out | apply below_alloc | apply pw_below_drewN | apply below_drew1) | exact HB.out)) hb); clear HO_5; clear HO_6; clear HB; have HO_5 := n0_; have HO_6 := n1_; have HO6010 := n2_; have HB := n3_; clear n0_ n1_ n2_ n3_; (try clear hb); (try clear hb2); (try clear hk); (try clear hi); (try clear ho0); obtain ⟨Ao38, co38, eo38⟩ := Kd.R_slice HO6010.out; subst eo38))
                    go_ret
                    exact ⟨by first | rfl | (simp [errW_none, errW_some] <;> rfl) | (simp [*, errW_none, errW_some] <;> rfl), by repeat (first | (with_reducible first | exact HB.out | apply below_alloc | apply pw_below_drewN | apply below_drew1) | exact HB.out)⟩
                · rw [if_neg c27] at H
                  have c27b0 : ((t6007.length : Int) == (wrap64 ((x5_1.length : Int) + (x6_2.length : Int)))) = false := beq_eq_false_iff_ne.mpr c27
                  have c27b1 : ((t6007.length : Int) != (wrap64 ((x5_1.length : Int) + (x6_2.length : Int)))) = true := bne_iff_ne.mpr c27
                  obtain rfl := Option.some.inj H
                  obtain ⟨Ao39, co39, eo39⟩ := Kd.R_slice HO_5.out
                  subst eo39
                  obtain ⟨Ao40, co40, eo40⟩ := Kd.R_slice HO_6.out
                  subst eo40
                  go_wp2_with (first | ((with_reducible refine gate_callee (f := 21) rfl ?_); refine goesL_ (some 47) rfl rfl Try.func21 (by kernel_rfl) rfl #[.slice Ao39 x5_1.length co39, .slice Ao40 x6_2.length co40] rfl (by (try simp only [List.map_toArray, List.map_cons, List.map_nil]); first | done | rfl | (simp only [List.length_drop, List.length_take]; rfl)) ?_; (with_reducible refine (span_Union.calls k2 _ _ x5_1 _ _ x6_2 t6007 t6008 _ ?side1 ?side2 ?side3 ?side4 A9.out).mono ?_); (case side1 => repeat (first | exact (Kd.R_reads' HO_5.out).2.2 | (with_reducible refine Kd.C_alloc ?_ _) | (with_reducible refine Kd.C_drewN ?_ _) | (with_reducible refine Kd.C_drew ?_))); (case side2 => exact (Kd.R_reads' HO_5.out).2.1); (case side3 => repeat (first | exact (Kd.R_reads' HO_6.out).2.2 | (with_reducible refine Kd.C_alloc ?_ _) | (with_reducible refine Kd.C_drewN ?_ _) | (with_reducible refine Kd.C_drew ?_))); (case side4 => exact (Kd.R_reads' HO_6.out).2.1); rintro e w41 ⟨v6009, rfl, ho0, hb⟩; refine ⟨_, rfl, ?_⟩; have n0_ := Aside0.mk (Kd.R_elder' (by (with_reducible repeat (first | apply Kd.R_alloc | apply Kd.R_drewN | apply Kd.R_drew)); exact HO_5.out) (Kd.R_base ho0) hb); have n1_ := Aside0.mk (Kd.R_elder' (by (with_reducible repeat (first | apply Kd.R_alloc | apply Kd.R_drewN | apply Kd.R_drew)); exact HO_6.out) (Kd.R_base ho0) hb); have n2_ := Aside0.mk (Kd.R_lower (Kd.R_new' (Kd.R_new' ho0 (Kd.R_lt (by (with_reducible repeat (first | apply Kd.R_alloc | apply Kd.R_drewN | apply Kd.R_drew)); exact HO_5.out))) (Kd.R_lt (by (with_reducible repeat (first | apply Kd.R_alloc | apply Kd.R_drewN | apply Kd.R_drew)); exact HO_6.out))) (below_size (by repeat (first | (with_reducible first | exact HB.out | apply below_alloc | apply pw_below_drewN | apply below_drew1) | exact HB.out)))); have n3_ := Aside0.mk (below_step (by repeat (first | (with_reducible first | exact HB.out | apply below_alloc | apply pw_below_drewN | apply below_drew1) | exact HB.out)) hb); clear HO_5; clear HO_6; clear HB; have HO_5 := n0_; have HO_6 := n1_; have HO6010 := n2_; have HB := n3_; clear n0_ n1_ n2_ n3_; (try clear hb); (try clear hb2); (try clear hk); (try clear hi); (try clear ho0); obtain ⟨Ao42, co42, eo42⟩ := Kd.R_slice HO6010.out; subst eo42))
                  go_ret
                  exact ⟨by first | rfl | (simp [errW_none, errW_some] <;> rfl) | (simp [*, errW_none, errW_some] <;> rfl), by repeat (first | (with_reducible first | exact HB.out | apply below_alloc | apply pw_below_drewN | apply below_drew1) | exact HB.out)⟩

/-- THE ONE PURE STATEMENT of papermilllaw04_SpanFull: yours. -/
def papermilllaw04_SpanFull.Pure : Prop := ∀ (a0 : Int) (a1 : Int), (Lit.int .u16 a0).wf = true → (Lit.int .u16 a1).wf = true → ∃ k, papermilllaw04_SpanFull.f k a0 a1 = some true
theorem papermilllaw04_SpanFull.walk (P : papermilllaw04_SpanFull.Pure) (a0 : Int) (a1 : Int) (w : World) (w0 : (Lit.int .u16 a0).wf = true) (w1 : (Lit.int .u16 a1).wf = true) :
    Calls Try.prog 5 #[.int .u16 a0, .int .u16 a1] w fun e w' => e = .returned (.bool true) ∧ Below w.heap.size w w' := by
  obtain ⟨k, h⟩ := P a0 a1 w0 w1
  refine (papermilllaw04_SpanFull.calls k a0 a1 true w h).mono ?_
  rintro e w' ⟨rfl, hd⟩
  exact ⟨rfl, hd⟩

end Go.Proofs.Ytlfcaoniclnimaa.G

namespace Go.Proofs.Ytlfcaoniclnimaa.G
open Go.RowKit Go.Proofs.YtlfcaoniclnimaaW.PrintWords Go.Proofs.YtlfcaoniclnimaaW.PrintLast Go.Proofs.YtlfcaoniclnimaaW.PrintMore
set_option linter.unusedVariables false
set_option linter.unusedSimpArgs false
def rowA (n : Nat) : List S35 := (List.range n).map fun i : Nat => ⟨4 * (i : Int), 4 * (i : Int) + 1⟩
def rowB (n : Nat) : List S35 := (List.range n).map fun i : Nat => ⟨4 * (i : Int) + 2, 4 * (i : Int) + 3⟩
theorem rowA_len (n : Nat) : (rowA n).length = n := by simp [rowA]
theorem rowB_len (n : Nat) : (rowB n).length = n := by simp [rowB]
theorem rowA_succ (n : Nat) : rowA (n + 1) = rowA n ++ [⟨4 * (n : Int), 4 * (n : Int) + 1⟩] := by simp [rowA, List.range_succ]
theorem rowB_succ (n : Nat) : rowB (n + 1) = rowB n ++ [⟨4 * (n : Int) + 2, 4 * (n : Int) + 3⟩] := by simp [rowB, List.range_succ]
theorem rowA_in (n : Nat) (s : S35) : s ∈ rowA n ↔ ∃ i : Nat, i < n ∧ s = ⟨4 * (i : Int), 4 * (i : Int) + 1⟩ := by
  simp only [rowA, List.mem_map, List.mem_range]
  constructor
  · rintro ⟨i, h, rfl⟩; exact ⟨i, h, rfl⟩
  · rintro ⟨i, h, rfl⟩; exact ⟨i, h, rfl⟩
theorem rowB_in (n : Nat) (s : S35) : s ∈ rowB n ↔ ∃ i : Nat, i < n ∧ s = ⟨4 * (i : Int) + 2, 4 * (i : Int) + 3⟩ := by
  simp only [rowB, List.mem_map, List.mem_range]
  constructor
  · rintro ⟨i, h, rfl⟩; exact ⟨i, h, rfl⟩
  · rintro ⟨i, h, rfl⟩; exact ⟨i, h, rfl⟩
theorem memA (n : Nat) (x : Int) : Mem (rowA n) x ↔ ∃ i : Nat, i < n ∧ x = 4 * (i : Int) := by
  constructor
  · rintro ⟨s, hs, h1, h2⟩
    obtain ⟨i, hi, rfl⟩ := (rowA_in n s).1 hs
    exact ⟨i, hi, by simp only at h1 h2; omega⟩
  · rintro ⟨i, hi, rfl⟩
    exact ⟨_, (rowA_in n _).2 ⟨i, hi, rfl⟩, by show 4 * (i : Int) ≤ 4 * (i : Int) ∧ 4 * (i : Int) < 4 * (i : Int) + 1; omega⟩
theorem memB (n : Nat) (x : Int) : Mem (rowB n) x ↔ ∃ i : Nat, i < n ∧ x = 4 * (i : Int) + 2 := by
  constructor
  · rintro ⟨s, hs, h1, h2⟩
    obtain ⟨i, hi, rfl⟩ := (rowB_in n s).1 hs
    exact ⟨i, hi, by simp only at h1 h2; omega⟩
  · rintro ⟨i, hi, rfl⟩
    exact ⟨_, (rowB_in n _).2 ⟨i, hi, rfl⟩, by show 4 * (i : Int) + 2 ≤ 4 * (i : Int) + 2 ∧ 4 * (i : Int) + 2 < 4 * (i : Int) + 3; omega⟩
/-- The union, spelled out: in turns as long as both last, then the rest. -/
def mix : Nat → Nat → Nat → List S35
  | 0, _, _ => []
  | d + 1, n, m => mix d n m ++ (if d < n then [⟨4 * (d : Int), 4 * (d : Int) + 1⟩] else []) ++ (if d < m then [⟨4 * (d : Int) + 2, 4 * (d : Int) + 3⟩] else [])
theorem mix_len : ∀ (d n m : Nat), (mix d n m).length = min d n + min d m
  | 0, n, m => by simp [mix]
  | d + 1, n, m => by
    rw [mix, List.length_append, List.length_append, mix_len d n m]
    split <;> split <;> simp <;> omega
theorem mix_top : ∀ (d n m : Nat), ∀ t ∈ mix d n m, t.f1 < 4 * (d : Int)
  | 0, n, m, t, h => by simp [mix] at h
  | d + 1, n, m, t, h => by
    rw [mix, List.mem_append, List.mem_append] at h
    rcases h with (h | h) | h
    · have := mix_top d n m t h; omega
    · split at h
      · obtain rfl := List.mem_singleton.1 h; show 4 * (d : Int) + 1 < _; omega
      · simp at h
    · split at h
      · obtain rfl := List.mem_singleton.1 h; show 4 * (d : Int) + 3 < _; omega
      · simp at h
theorem mix_sep : ∀ (d n m : Nat), sep (-1) (mix d n m)
  | 0, n, m => trivial
  | d + 1, n, m => by
    have h1 := mix_sep d n m
    have h2 := mix_top d n m
    have h3 : sep (-1) (mix d n m ++ if d < n then [⟨4 * (d : Int), 4 * (d : Int) + 1⟩] else []) := by
      split
      · exact sep_snoc h1 (fun t ht => h2 t ht) (by show -1 < 4 * (d : Int); omega) (by show 4 * (d : Int) < 4 * (d : Int) + 1; omega)
      · simpa using h1
    rw [mix]
    by_cases h4 : d < m
    · rw [if_pos h4]
      refine sep_snoc h3 (fun t ht => ?_) (by show -1 < 4 * (d : Int) + 2; omega) (by show 4 * (d : Int) + 2 < 4 * (d : Int) + 3; omega)
      show t.f1 < 4 * (d : Int) + 2
      rcases List.mem_append.1 ht with ht | ht
      · have := h2 t ht; omega
      · split at ht
        · obtain rfl := List.mem_singleton.1 ht; show 4 * (d : Int) + 1 < _; omega
        · simp at ht
    · rw [if_neg h4]; simpa using h3
theorem mix_mem : ∀ (d n m : Nat) (x : Int), Mem (mix d n m) x ↔ (∃ i : Nat, i < d ∧ i < n ∧ x = 4 * (i : Int)) ∨ ∃ i : Nat, i < d ∧ i < m ∧ x = 4 * (i : Int) + 2
  | 0, n, m, x => by
    constructor
    · intro h; exact absurd h (mem_nil x)
    · rintro (⟨i, h, _⟩ | ⟨i, h, _⟩) <;> omega
  | d + 1, n, m, x => by
    rw [mix, mem_append, mem_append, mix_mem d n m x]
    have e1 : Mem (if d < n then [(⟨4 * (d : Int), 4 * (d : Int) + 1⟩ : S35)] else []) x ↔ d < n ∧ x = 4 * (d : Int) := by
      split
      · rename_i h
        rw [mem_cons]
        have := mem_nil x
        simp only [this, or_false, h, true_and]
        omega
      · rename_i h
        have := mem_nil x
        simp only [this, h, false_and]
    have e2 : Mem (if d < m then [(⟨4 * (d : Int) + 2, 4 * (d : Int) + 3⟩ : S35)] else []) x ↔ d < m ∧ x = 4 * (d : Int) + 2 := by
      split
      · rename_i h
        rw [mem_cons]
        have := mem_nil x
        simp only [this, or_false, h, true_and]
        omega
      · rename_i h
        have := mem_nil x
        simp only [this, h, false_and]
    rw [e1, e2]
    constructor
    · rintro (((⟨i, h1, h2, h3⟩ | ⟨i, h1, h2, h3⟩) | ⟨h2, h3⟩) | ⟨h2, h3⟩)
      · exact .inl ⟨i, by omega, h2, h3⟩
      · exact .inr ⟨i, by omega, h2, h3⟩
      · exact .inl ⟨d, by omega, h2, h3⟩
      · exact .inr ⟨d, by omega, h2, h3⟩
    · rintro (⟨i, h1, h2, h3⟩ | ⟨i, h1, h2, h3⟩)
      · rcases Nat.lt_or_ge i d with h | h
        · exact .inl (.inl (.inl ⟨i, h, h2, h3⟩))
        · obtain rfl : i = d := by omega
          exact .inl (.inr ⟨h2, h3⟩)
      · rcases Nat.lt_or_ge i d with h | h
        · exact .inl (.inl (.inr ⟨i, h, h2, h3⟩))
        · obtain rfl : i = d := by omega
          exact .inr ⟨h2, h3⟩
theorem vA (n : Nat) (hn : n ≤ 256) : check04 (rowA n) = 0 := by
  unfold check04
  rw [rowA_len, if_neg (by omega), if_neg]
  rintro ⟨s, hs, hb⟩
  obtain ⟨i, hi, rfl⟩ := (rowA_in n s).1 hs
  unfold badS at hb
  simp only at hb
  omega
theorem vB (n : Nat) (hn : n ≤ 256) : check04 (rowB n) = 0 := by
  unfold check04
  rw [rowB_len, if_neg (by omega), if_neg]
  rintro ⟨s, hs, hb⟩
  obtain ⟨i, hi, rfl⟩ := (rowB_in n s).1 hs
  unfold badS at hb
  simp only at hb
  omega
theorem full_comb (n m : Nat) : (combOf (rowA n) (rowB m) 0).length = n + m := by
  obtain ⟨k1, k2⟩ := comb_ok (rowA n) (rowB m) 0 (.inl rfl) (-1) (fun s h => by
    rcases h with h | h
    · obtain ⟨i, hi, rfl⟩ := (rowA_in n s).1 h; exact ⟨by show -1 < 4 * (i : Int); omega, by show 4 * (i : Int) ≤ 4 * (i : Int) + 1; omega⟩
    · obtain ⟨i, hi, rfl⟩ := (rowB_in m s).1 h; exact ⟨by show -1 < 4 * (i : Int) + 2; omega, by show 4 * (i : Int) + 2 ≤ 4 * (i : Int) + 3; omega⟩)
  have e : combOf (rowA n) (rowB m) 0 = mix (n + m) n m := by
    refine sep_unique k1 (mix_sep (n + m) n m) (fun x => ?_)
    rw [k2, mix_mem]
    unfold keeps
    have : skips 0 (hasOf (rowA n) x) (hasOf (rowB m) x) = false ↔ (hasOf (rowA n) x = true ∨ hasOf (rowB m) x = true) := by
      cases hasOf (rowA n) x <;> cases hasOf (rowB m) x <;> simp [skips]
    rw [this, hasOf_iff, hasOf_iff, memA, memB]
    constructor
    · rintro (⟨i, h, e⟩ | ⟨i, h, e⟩)
      · exact .inl ⟨i, by omega, h, e⟩
      · exact .inr ⟨i, by omega, h, e⟩
    · rintro (⟨i, _, h, e⟩ | ⟨i, _, h, e⟩)
      · exact .inl ⟨i, h, e⟩
      · exact .inr ⟨i, h, e⟩
  rw [e, mix_len]
  omega
theorem full_end (n m : Nat) (hn : n ≤ 256) (hm : m ≤ 256) : Ends (fun k => (span_Union.f k (rowA n) (rowB m)).bind fun bt6007 => (if (wrap64 (((rowA n).length : Int) + ((rowB m).length : Int))) > 256 then (if (bt6007.1.length : Int) = 0 then (if bt6007.2 = 8 then (some true) else (some false)) else (some false)) else (if (bt6007.1.length : Int) = (wrap64 (((rowA n).length : Int) + ((rowB m).length : Int))) then (if bt6007.2 = 0 then (some true) else (some false)) else (some false)))) true := by
  refine Ends.bind (union_ends (rowA n) (rowB m)) ?_
  have e : wrap64 (((rowA n).length : Int) + ((rowB m).length : Int)) = ((n + m : Nat) : Int) := by rw [rowA_len, rowB_len]; unfold wrap64; omega
  have hl := full_comb n m
  simp only [e]
  unfold bothOf
  rw [if_pos (vA n hn), if_pos (vB m hm), hl]
  by_cases h : n + m > 256
  · rw [if_pos h]
    exact Ends.pos (by omega) (Ends.pos rfl (Ends.pos rfl (Ends.ret _)))
  · rw [if_neg h]
    exact Ends.neg (by omega) (Ends.pos (by simp only [hl]) (Ends.pos rfl (Ends.ret _)))
theorem full_l1 (n m : Nat) (hn : n ≤ 256) (hm : m ≤ 256) (x1 : Int) (h1 : wrap64 (Int.tmod x1 257) = m) : ∀ (d i : Nat), m - i = d → i ≤ m → Ends (fun k => papermilllaw04_SpanFull.l1 k x1 (rowA n) (rowB i) (i : Int)) true := by
  intro d
  induction d with
  | zero =>
    intro i hd hi
    obtain rfl : i = m := by omega
    refine Ends.succ ?_
    simp only [papermilllaw04_SpanFull.l1, h1, papermilllaw04_awake.f, Option.bind_some]
    exact Ends.neg (by omega) (full_end n i hn hm)
  | succ d ih =>
    intro i hd hi
    refine Ends.succ ?_
    have e1 : wrap64 (4 * (i : Int)) = 4 * (i : Int) := by unfold wrap64; omega
    have e2 : wrap64 (4 * (i : Int) + 2) = 4 * (i : Int) + 2 := by unfold wrap64; omega
    have e3 : wrap64 (4 * (i : Int) + 3) = 4 * (i : Int) + 3 := by unfold wrap64; omega
    simp only [papermilllaw04_SpanFull.l1, h1, wrap_nat i (by omega), e1, e2, e3]
    refine Ends.pos (by omega) (Ends.pos (by rw [rowB_len]; omega) ?_)
    rw [← rowB_succ]
    exact ih (i + 1) (by omega) (by omega)
theorem full_l0 (n m : Nat) (hn : n ≤ 256) (hm : m ≤ 256) (x0 x1 : Int) (h0 : wrap64 (Int.tmod x0 257) = n) (h1 : wrap64 (Int.tmod x1 257) = m) : ∀ (d i : Nat), n - i = d → i ≤ n → Ends (fun k => papermilllaw04_SpanFull.l0 k x0 x1 (rowA i) (i : Int)) true := by
  intro d
  induction d with
  | zero =>
    intro i hd hi
    obtain rfl : i = n := by omega
    refine Ends.succ ?_
    simp only [papermilllaw04_SpanFull.l0, h0]
    exact Ends.neg (by omega) (full_l1 i m hn hm x1 h1 _ 0 rfl (by omega))
  | succ d ih =>
    intro i hd hi
    refine Ends.succ ?_
    have e1 : wrap64 (4 * (i : Int)) = 4 * (i : Int) := by unfold wrap64; omega
    have e2 : wrap64 (4 * (i : Int) + 1) = 4 * (i : Int) + 1 := by unfold wrap64; omega
    simp only [papermilllaw04_SpanFull.l0, h0, wrap_nat i (by omega), e1, e2]
    refine Ends.pos (by omega) (Ends.pos (by rw [rowA_len]; omega) ?_)
    rw [← rowA_succ]
    exact ih (i + 1) (by omega) (by omega)

/-- the law, over lists and numbers -/
theorem SpanFull : ∀ (a0 : Int) (a1 : Int), (Lit.int .u16 a0).wf = true → (Lit.int .u16 a1).wf = true → ∃ k, papermilllaw04_SpanFull.f k a0 a1 = some true := by
  intro x y hx hy
  have bx : 0 ≤ x ∧ x < 65536 := by have h := hx; simp [Lit.wf, IntKind.min, IntKind.max, IntKind.signed, IntKind.bits] at h; omega
  have by_ : 0 ≤ y ∧ y < 65536 := by have h := hy; simp [Lit.wf, IntKind.min, IntKind.max, IntKind.signed, IntKind.bits] at h; omega
  have e0 : Int.tmod x 257 = x % 257 := Int.tmod_eq_emod_of_nonneg bx.1
  have e1 : Int.tmod y 257 = y % 257 := Int.tmod_eq_emod_of_nonneg by_.1
  obtain ⟨n, hn⟩ : ∃ n : Nat, x % 257 = n := ⟨(x % 257).toNat, by omega⟩
  obtain ⟨m, hm⟩ : ∃ m : Nat, y % 257 = m := ⟨(y % 257).toNat, by omega⟩
  suffices h : Ends (fun k => papermilllaw04_SpanFull.f k x y) true from h.get
  unfold papermilllaw04_SpanFull.f
  exact full_l0 n m (by omega) (by omega) x y (by rw [e0, hn]; unfold wrap64; omega) (by rw [e1, hm]; unfold wrap64; omega) _ 0 rfl (by omega)

end Go.Proofs.Ytlfcaoniclnimaa.G

namespace Go.Proofs.Ytlfcaoniclnimaa.spanFull
open Go.ChangeShapes Go.WideShapes Go.ChangeAt Go.RowKit Go.Proofs.YtlfcaoniclnimaaW.PrintWords Go.Proofs.YtlfcaoniclnimaaW.PrintLast Go.Proofs.Ytlfcaoniclnimaa.G
open Go.ChangeMaps (open_string shut_string)
set_option linter.unusedVariables false
set_option linter.unusedSimpArgs false
theorem own : ownKnob Try.prog.godebug = none := by kernel_rfl
theorem laidOut : laidOutB Try.prog = true := by kernel_rfl
set_option maxRecDepth 100000 in
theorem lifted (os : Os) (started : os.Started) (H : Type) (enc : TypeId × Value → H) :
    ReturnsInHanded {} Try.checked os 5 .any (Rows.spanFullSpec.pre6 enc Try.prog Try.f5 Rows.spanFullRow.domain false) (Rows.spanFullSpec.post enc Try.prog Try.f5 false true false false) := by
  refine returnsInHanded_of_change_sized (C := Try.checked) own started (by kernel_rfl) Try.func5
    (ChangeSpec.witness6 (enc := enc) (C := Try.checked) false ⟨#[], #[.int .u16 0, .int .u16 0], []⟩ 8 (by kernel_rfl) (by kernel_rfl) (by kernel_rfl) (by kernel_rfl)) ?_
  intro W base args ds gs before hval0 hW hcnd hsz0 _
  have hval : ∀ (j : Nat) t v, Try.f5.params[j]? = some t → args[j]? = some v → Value.okWide Try.prog W .any base t v := hval0
  have hW' := hW
  obtain ⟨p, q, hA0, hV, rfl, hfz, hnd⟩ := hW
  have hA : DataW.TrodAll enc Try.prog W 0 (fun _ => true) true Try.f5.params.toList args.toList ds p := hA0
  rw [Try.params5] at hA hval
  obtain ⟨v0, vs0, d0, ds0, p0, q0, hargs, rfl, rfl, h0, r0⟩ := trodAll_cons hA
  obtain ⟨v1, vs1, d1, ds1, p1, q1, rfl, rfl, rfl, h1, r1⟩ := trodAll_cons r0
  obtain ⟨rfl, rfl, rfl⟩ := trodAll_nil r1
  obtain rfl : args = #[v0, v1] := by cases args; simp_all
  obtain ⟨rfl, rfl⟩ := trodVars_none hV
  have k0 := h0
  have lt0 : ∀ x ∈ p0, x.block < W.heap.size := by obtain ⟨m, hm⟩ := k0; exact DataW.trod_lt m _ _ _ hm
  obtain ⟨a0, rfl, rfl, rfl, hw0⟩ := open_int Try.underlying33 (hval 0 33 v0 rfl rfl) h0
  have k1 := h1
  have lt1 : ∀ x ∈ p1, x.block < W.heap.size := by obtain ⟨m, hm⟩ := k1; exact DataW.trod_lt m _ _ _ hm
  obtain ⟨a1, rfl, rfl, rfl, hw1⟩ := open_int Try.underlying33 (hval 1 33 v1 rfl rfl) h1
  clear hA0 hval0 hsz0
  obtain ⟨k, hk⟩ := SpanFull a0 a1 hw0 hw1
  refine (papermilllaw04_SpanFull.calls k a0 a1 true W  hk).mono fun e W' he => ?_
  obtain ⟨he, bel⟩ := he
  subst he
  exact ⟨_, rfl, _, _, _, [], _, [], hW', trodAll_mk1 (shut_bool Try.underlying4 _), (trodAll_cons_mk (Below.trod laidOut (by kernel_rfl) (of_decide_eq_true (by kernel_rfl)) k0 bel lt0) (trodAll_cons_mk (Below.trod laidOut (by kernel_rfl) (of_decide_eq_true (by kernel_rfl)) k1 bel lt1) trodAll_mk0)), rfl, bel.frame _, fun h => by cases h⟩
theorem over : Rows.spanFullRow.holds Try.pinned (OpenSpec.ofChange Rows.spanFullSpec) :=
  OpenClaim.holds_of_wide 5 Try.f5 rfl rfl rfl rfl rfl rfl rfl ⟨rfl, rfl, rfl, rfl, rfl⟩ rfl rfl rfl rfl rfl (by kernel_rfl) Try.func5 (by kernel_rfl)
    (of_decide_eq_true (by kernel_rfl)) (by unfold Func.isWrapper; first | (rw [if_pos (by decide +kernel)]; kernel_rfl) | (rw [if_neg (by decide +kernel)]; exact ⟨rfl, rfl⟩))
    (fun os started H enc _ => lifted os started H enc)
theorem proved : Rows.SpanFullSaid := over
#print axioms proved
end Go.Proofs.Ytlfcaoniclnimaa.spanFull
namespace Go.Proofs.Ytlfcaoniclnimaa
/-- The row, under a short name, for the claim. -/
theorem spanFull_holds : Rows.SpanFullSaid := spanFull.proved
end Go.Proofs.Ytlfcaoniclnimaa
