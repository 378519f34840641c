import Derived.Test.YtcnkmdonbpgjiaaQ1
import Derived.Test.YtcnkmdonbpgjiaaQ5
import Derived.Test.YtcnkmdonbpgjiaaQ4
namespace Go.Proofs.Ytcnkmdonbpgjiaa.G
open Go.RowKit Go.Proofs.YtcnkmdonbpgjiaaW.PrintWords Go.Proofs.YtcnkmdonbpgjiaaW.PrintLast Go.Proofs.YtcnkmdonbpgjiaaW.PrintMore
attribute [local go_sem] max2_int min2_int max_two min_two max_three min_three max_four min_four   -- for this text's walks alone
set_option linter.unusedVariables false
set_option linter.unusedSimpArgs false

mutual
def papermilllaw13_IsoChains.j0 : Nat → List (S32) → List (S32) → List (S32) → Bool → Option (Bool)
 | 0, _, _, _, _ => none
 | k + 1, x0, x1, x2, x27 => if x27 = true then ((papermilllaw13_awake.f).bind fun t7001 => (some t7001)) else ((iso_Compose.f x0 x1).bind fun bt7002 => ((iso_Compose.f x1 x2).bind fun bt7006 => (if bt7002.2 = 0 then (papermilllaw13_IsoChains.j1 k x0 x2 bt7002.1 bt7006.1 (bt7006.2 != 0)) else (papermilllaw13_IsoChains.j1 k x0 x2 bt7002.1 bt7006.1 true))))
def papermilllaw13_IsoChains.j1 : Nat → List (S32) → List (S32) → List (S32) → List (S32) → Bool → Option (Bool)
 | 0, _, _, _, _, _ => none
 | k + 1, x0, x2, x7, x9, x46 => if x46 = true then ((papermilllaw13_awake.f).bind fun t7010 => (some t7010)) else ((iso_Compose.f x7 x2).bind fun bt7011 => ((iso_Compose.f x0 x9).bind fun bt7015 => (if bt7011.2 = 8 then (papermilllaw13_IsoChains.j2 k bt7011.1 bt7011.2 bt7015.1 bt7015.2 true) else (papermilllaw13_IsoChains.j2 k bt7011.1 bt7011.2 bt7015.1 bt7015.2 (bt7015.2 == 8)))))
def papermilllaw13_IsoChains.j2 : Nat → List (S32) → Int → List (S32) → Int → Bool → Option (Bool)
 | 0, _, _, _, _, _ => none
 | k + 1, x11, x12, x13, x14, x65 => if x65 = true then ((papermilllaw13_awake.f).bind fun t7019 => (some t7019)) else (if x12 = 0 then (if x14 = 0 then ((papermillref13_Same.f k x11 x13).bind fun t7020 => (if t7020 = true then ((papermilllaw13_awake.f).bind fun t7021 => (some t7021)) else (some false))) else (some false)) else (some false))
end
def papermilllaw13_IsoChains.f (k : Nat) (l0 : List (S32)) (l1 : List (S32)) (l2 : List (S32)) : Option (Bool) := if (l0.length : Int) > 20 then (papermilllaw13_IsoChains.j0 k l0 l1 l2 true) else (if (l1.length : Int) > 20 then (papermilllaw13_IsoChains.j0 k l0 l1 l2 true) else (papermilllaw13_IsoChains.j0 k l0 l1 l2 (decide ((l2.length : Int) > 20))))
theorem papermilllaw13_IsoChains.mono_l : ∀ k, (∀ y0 y1 y2 y3, LeO (papermilllaw13_IsoChains.j0 k y0 y1 y2 y3) (papermilllaw13_IsoChains.j0 (k + 1) y0 y1 y2 y3)) ∧ (∀ y0 y1 y2 y3 y4, LeO (papermilllaw13_IsoChains.j1 k y0 y1 y2 y3 y4) (papermilllaw13_IsoChains.j1 (k + 1) y0 y1 y2 y3 y4)) ∧ (∀ y0 y1 y2 y3 y4, LeO (papermilllaw13_IsoChains.j2 k y0 y1 y2 y3 y4) (papermilllaw13_IsoChains.j2 (k + 1) y0 y1 y2 y3 y4))
 | 0 => ⟨fun _ _ _ _ r h => by simp [papermilllaw13_IsoChains.j0] at h, fun _ _ _ _ _ r h => by simp [papermilllaw13_IsoChains.j1] at h, fun _ _ _ _ _ r h => by simp [papermilllaw13_IsoChains.j2] at h⟩
 | k + 1 => by
  obtain ⟨ih0, ih1, ih2⟩ := papermilllaw13_IsoChains.mono_l k
  refine ⟨?_, ?_, ?_⟩
  ·intro y0 y1 y2 y3
   unfold papermilllaw13_IsoChains.j0
   repeat' first
   | (with_reducible exact ih0 _ _ _ _)
   | (with_reducible exact ih1 _ _ _ _ _)
   | (with_reducible exact ih2 _ _ _ _ _)
   | (with_reducible exact papermillref13_Same.mono _ _ _)
   | (with_reducible exact LeO.refl _)
   | (with_reducible exact LeO.none _)
   | (with_reducible refine LeO.ite ?_ ?_)
   | (with_reducible refine LeO.bind ?_ (fun _ => ?_))
   | exact ih0 _ _ _ _
   | exact ih1 _ _ _ _ _
   | exact ih2 _ _ _ _ _
   | exact papermillref13_Same.mono _ _ _
   | exact LeO.none _
   | refine LeO.ite ?_ ?_
   | refine LeO.bind ?_ (fun _ => ?_)
  ·intro y0 y1 y2 y3 y4
   unfold papermilllaw13_IsoChains.j1
   repeat' first
   | (with_reducible exact ih0 _ _ _ _)
   | (with_reducible exact ih1 _ _ _ _ _)
   | (with_reducible exact ih2 _ _ _ _ _)
   | (with_reducible exact papermillref13_Same.mono _ _ _)
   | (with_reducible exact LeO.refl _)
   | (with_reducible exact LeO.none _)
   | (with_reducible refine LeO.ite ?_ ?_)
   | (with_reducible refine LeO.bind ?_ (fun _ => ?_))
   | exact ih0 _ _ _ _
   | exact ih1 _ _ _ _ _
   | exact ih2 _ _ _ _ _
   | exact papermillref13_Same.mono _ _ _
   | exact LeO.none _
   | refine LeO.ite ?_ ?_
   | refine LeO.bind ?_ (fun _ => ?_)
  ·intro y0 y1 y2 y3 y4
   unfold papermilllaw13_IsoChains.j2
   repeat' first
   | (with_reducible exact ih0 _ _ _ _)
   | (with_reducible exact ih1 _ _ _ _ _)
   | (with_reducible exact ih2 _ _ _ _ _)
   | (with_reducible exact papermillref13_Same.mono _ _ _)
   | (with_reducible exact LeO.refl _)
   | (with_reducible exact LeO.none _)
   | (with_reducible refine LeO.ite ?_ ?_)
   | (with_reducible refine LeO.bind ?_ (fun _ => ?_))
   | exact ih0 _ _ _ _
   | exact ih1 _ _ _ _ _
   | exact ih2 _ _ _ _ _
   | exact papermillref13_Same.mono _ _ _
   | exact LeO.none _
   | refine LeO.ite ?_ ?_
   | refine LeO.bind ?_ (fun _ => ?_)
theorem papermilllaw13_IsoChains.mono : ∀ a0 a1 a2 k, LeO (papermilllaw13_IsoChains.f k a0 a1 a2) (papermilllaw13_IsoChains.f (k + 1) a0 a1 a2) := by
 intro a0 a1 a2 k
 obtain ⟨ih0, ih1, ih2⟩ := papermilllaw13_IsoChains.mono_l k
 unfold papermilllaw13_IsoChains.f
 repeat' first
   | (with_reducible exact ih0 _ _ _ _)
   | (with_reducible exact ih1 _ _ _ _ _)
   | (with_reducible exact ih2 _ _ _ _ _)
   | (with_reducible exact papermillref13_Same.mono _ _ _)
   | (with_reducible exact LeO.refl _)
   | (with_reducible exact LeO.none _)
   | (with_reducible refine LeO.ite ?_ ?_)
   | (with_reducible refine LeO.bind ?_ (fun _ => ?_))
   | exact ih0 _ _ _ _
   | exact ih1 _ _ _ _ _
   | exact ih2 _ _ _ _ _
   | exact papermillref13_Same.mono _ _ _
   | exact LeO.none _
   | refine LeO.ite ?_ ?_
   | refine LeO.bind ?_ (fun _ => ?_)
set_option maxHeartbeats 8000000 in
set_option maxRecDepth 100000 in
theorem papermilllaw13_IsoChains.calls (k : Nat) (A0 : Option Addr) (c0 : Nat) (l0 : List (S32)) (A1 : Option Addr) (c1 : Nat) (l1 : List (S32)) (A2 : Option Addr) (c2 : Nat) (l2 : List (S32)) (r : Bool) (w : World) (hr0 : Kd.C k32 w A0 l0.length l0) (hc0 : l0.length ≤ c0) (hr1 : Kd.C k32 w A1 l1.length l1) (hc1 : l1.length ≤ c1) (hr2 : Kd.C k32 w A2 l2.length l2) (hc2 : l2.length ≤ c2) (h : papermilllaw13_IsoChains.f k l0 l1 l2 = some r) :
  Calls Try.prog 6 #[.slice A0 l0.length c0, .slice A1 l1.length c1, .slice A2 l2.length c2] w fun e w' => e = .returned (.bool r) ∧ Below w.heap.size w w' := by
 have HR0 := Aside0.mk hr0
 have HC0 := Aside0.mk hc0
 clear hr0 hc0
 have HR1 := Aside0.mk hr1
 have HC1 := Aside0.mk hc1
 clear hr1 hc1
 have HR2 := Aside0.mk hr2
 have HC2 := Aside0.mk hc2
 clear hr2 hc2
 have HB := Aside0.mk (Below.refl w.heap.size w)
 have H : (if (l0.length : Int) > 20 then (papermilllaw13_IsoChains.j0 k l0 l1 l2 true) else (if (l1.length : Int) > 20 then (papermilllaw13_IsoChains.j0 k l0 l1 l2 true) else (papermilllaw13_IsoChains.j0 k l0 l1 l2 (decide ((l2.length : Int) > 20))))) = some r := h
 clear h
 have HC4 := Aside0.mk H
 clear H
 go_enter Try.func6, Try.ntmps6
 go_upto_region 1 with (fail)
 go_cut [27] (fun v27 wc => ∃ (kq : Nat) (x27_3 : Bool), v27 = .bool x27_3 ∧ Aside0 (papermilllaw13_IsoChains.j0 kq l0 l1 l2 x27_3 = some r) ∧ Aside0 (kq ≤ k) ∧ Aside0 (Below w.heap.size w wc))
 case first =>
  have H := HC4.out
  clear HC4
  by_cases c5 : (l0.length : Int) > 20
  ·rw [if_pos c5] at H
   have c5b0 : decide (20 < (l0.length : Int)) = true := decide_eq_true c5
   have c5b1 : decide (20 < l0.length) = true := decide_eq_true (by omega)
   clear c5
   (first | rw [c5b0] | (simp only [i64_w, i32_w]; rw [c5b0]) | skip)
   have H' := Aside0.mk H
   clear H
   go_wp2
   go_meet
   case rel => exact ⟨_, (true), (by first | rfl | (simp; done) | (simp [*]; done)), H', ⟨by first | omega | exact Nat.le_refl _⟩, ⟨by repeat (first | (with_reducible first | exact HB.out | apply below_alloc | apply pw_below_drewN | apply below_drew1) | exact HB.out)⟩⟩
  ·rw [if_neg c5] at H
   have c5b0 : decide (20 < (l0.length : Int)) = false := decide_eq_false c5
   have c5b1 : decide (20 < l0.length) = false := decide_eq_false (by omega)
   clear c5
   (first | rw [c5b0] | (simp only [i64_w, i32_w]; rw [c5b0]) | skip)
   by_cases c6 : (l1.length : Int) > 20
   ·rw [if_pos c6] at H
    have c6b0 : decide (20 < (l1.length : Int)) = true := decide_eq_true c6
    have c6b1 : decide (20 < l1.length) = true := decide_eq_true (by omega)
    clear c6
    have H' := Aside0.mk H
    clear H
    go_wp2
    go_meet
    case rel => exact ⟨_, (true), (by first | rfl | (simp; done) | (simp [*]; done)), H', ⟨by first | omega | exact Nat.le_refl _⟩, ⟨by repeat (first | (with_reducible first | exact HB.out | apply below_alloc | apply pw_below_drewN | apply below_drew1) | exact HB.out)⟩⟩
   ·rw [if_neg c6] at H
    have c6b0 : decide (20 < (l1.length : Int)) = false := decide_eq_false c6
    have c6b1 : decide (20 < l1.length) = false := decide_eq_false (by omega)
    clear c6
    have H' := Aside0.mk H
    clear H
    go_wp2
    go_meet
    case rel => exact ⟨_, (decide ((l2.length : Int) > 20)), (by first | rfl | (simp; done) | (simp [*]; done)), H', ⟨by first | omega | exact Nat.le_refl _⟩, ⟨by repeat (first | (with_reducible first | exact HB.out | apply below_alloc | apply pw_below_drewN | apply below_drew1) | exact HB.out)⟩⟩
 case rest =>
  clear HC4
  try clear c1
  try clear c2
  try clear p2
  try clear c5
  try clear c5b0
  try clear c5b1
  try clear c6
  try clear c6b0
  try clear c6b1
  obtain ⟨kq, x27_3, rfl, HA, HJ3, HB⟩ := hcut
  cases kq with
  | zero => exact absurd HA.out (by simp [papermilllaw13_IsoChains.j0])
  | succ kj3 =>
   have H := HA.out
   clear HA
   simp only [papermilllaw13_IsoChains.j0] at H
   by_cases c7 : x27_3 = true
   ·subst c7
    have H1 : ((papermilllaw13_awake.f).bind fun t7001 => (some t7001)) = some r := by rw [if_pos rfl] at H; exact H
    clear H
    have H := H1
    clear H1
    replace H := Option.bind_eq_some_iff.mp H
    obtain ⟨t7001, A80, H⟩ := H
    replace H : (some t7001) = some r := H
    have A8 := Aside0.mk A80
    clear A80
    obtain rfl := Option.some.inj H
    go_wp2_with (first | ((with_reducible refine gate_callee (f := 13) rfl ?_); refine goesL_ (some 28) rfl rfl Try.func13 (by kernel_rfl) rfl #[] rfl (by (try simp only [List.map_toArray, List.map_cons, List.map_nil]); first | done | rfl | (simp only [List.length_drop, List.length_take]; rfl)) ?_; (with_reducible refine (papermilllaw13_awake.calls  t7001 _ A8.out).mono ?_); rintro e w9 ⟨rfl, hb⟩; refine ⟨_, rfl, ?_⟩; have n0_ := Aside0.mk (below_step (by repeat (first | (with_reducible first | exact HB.out | apply below_alloc | apply pw_below_drewN | apply below_drew1) | exact HB.out)) hb); clear HB; have HB := n0_; clear n0_; (try clear hb); (try clear hb2); (try clear hk); (try clear hi)))
    go_ret
    exact ⟨by first | rfl | (simp [errW_none, errW_some] <;> rfl) | (simp [*, errW_none, errW_some] <;> rfl), by repeat (first | (with_reducible first | exact HB.out | apply below_alloc | apply pw_below_drewN | apply below_drew1) | exact HB.out)⟩
   ·replace c7 := Bool.eq_false_iff.mpr c7
    subst c7
    have H1 : ((iso_Compose.f l0 l1).bind fun bt7002 => ((iso_Compose.f l1 l2).bind fun bt7006 => (if bt7002.2 = 0 then (papermilllaw13_IsoChains.j1 kj3 l0 l2 bt7002.1 bt7006.1 (bt7006.2 != 0)) else (papermilllaw13_IsoChains.j1 kj3 l0 l2 bt7002.1 bt7006.1 true)))) = some r := by rw [if_neg (show ¬ (false = true) by decide)] at H; first | exact H | simpa using H
    clear H
    have H := H1
    clear H1
    replace H := Option.bind_eq_some_iff.mp H
    obtain ⟨⟨t7002, t7003⟩, A100, H⟩ := H
    replace H : ((iso_Compose.f l1 l2).bind fun bt7006 => (if t7003 = 0 then (papermilllaw13_IsoChains.j1 kj3 l0 l2 t7002 bt7006.1 (bt7006.2 != 0)) else (papermilllaw13_IsoChains.j1 kj3 l0 l2 t7002 bt7006.1 true))) = some r := H
    have A10 := Aside0.mk A100
    clear A100
    replace H := Option.bind_eq_some_iff.mp H
    obtain ⟨⟨t7006, t7007⟩, A110, H⟩ := H
    replace H : (if t7003 = 0 then (papermilllaw13_IsoChains.j1 kj3 l0 l2 t7002 t7006 (t7007 != 0)) else (papermilllaw13_IsoChains.j1 kj3 l0 l2 t7002 t7006 true)) = some r := H
    have A11 := Aside0.mk A110
    clear A110
    have HC12 := Aside0.mk H
    clear H
    go_upto_region 5 with (first | ((with_reducible refine gate_callee (f := 18) rfl ?_); refine goesL_ (some 32) rfl rfl Try.func18 (by kernel_rfl) rfl #[.slice A0 l0.length c0, .slice A1 l1.length c1] rfl (by (try simp only [List.map_toArray, List.map_cons, List.map_nil]); first | done | rfl | (simp only [List.length_drop, List.length_take]; rfl)) ?_; (with_reducible refine (iso_Compose.calls _ _ l0 _ _ l1 t7002 t7003 _ ?side1 ?side2 ?side3 ?side4 A10.out).mono ?_); (case side1 => repeat (first | exact (Kd.C_below HR0.out HB.out) | (with_reducible refine Kd.C_alloc ?_ _) | (with_reducible refine Kd.C_drewN ?_ _) | (with_reducible refine Kd.C_drew ?_))); (case side2 => exact HC0.out); (case side3 => repeat (first | exact (Kd.C_below HR1.out HB.out) | (with_reducible refine Kd.C_alloc ?_ _) | (with_reducible refine Kd.C_drewN ?_ _) | (with_reducible refine Kd.C_drew ?_))); (case side4 => exact HC1.out); rintro e w13 ⟨v7004, rfl, ho0, hb⟩; refine ⟨_, rfl, ?_⟩; have n0_ := Aside0.mk (Kd.R_lower ho0 (below_size (by repeat (first | (with_reducible first | exact HB.out | apply below_alloc | apply pw_below_drewN | apply below_drew1) | exact HB.out)))); have n1_ := Aside0.mk (below_step (by repeat (first | (with_reducible first | exact HB.out | apply below_alloc | apply pw_below_drewN | apply below_drew1) | exact HB.out)) hb); clear HB; have HO7005 := n0_; have HB := n1_; clear n0_ n1_; (try clear hb); (try clear hb2); (try clear hk); (try clear hi); (try clear ho0)) | ((with_reducible refine gate_callee (f := 18) rfl ?_); refine goesL_ (some 38) rfl rfl Try.func18 (by kernel_rfl) rfl #[.slice A1 l1.length c1, .slice A2 l2.length c2] rfl (by (try simp only [List.map_toArray, List.map_cons, List.map_nil]); first | done | rfl | (simp only [List.length_drop, List.length_take]; rfl)) ?_; (with_reducible refine (iso_Compose.calls _ _ l1 _ _ l2 t7006 t7007 _ ?side1 ?side2 ?side3 ?side4 A11.out).mono ?_); (case side1 => repeat (first | exact (Kd.C_below HR1.out HB.out) | (with_reducible refine Kd.C_alloc ?_ _) | (with_reducible refine Kd.C_drewN ?_ _) | (with_reducible refine Kd.C_drew ?_))); (case side2 => exact HC1.out); (case side3 => repeat (first | exact (Kd.C_below HR2.out HB.out) | (with_reducible refine Kd.C_alloc ?_ _) | (with_reducible refine Kd.C_drewN ?_ _) | (with_reducible refine Kd.C_drew ?_))); (case side4 => exact HC2.out); rintro e w14 ⟨v7008, rfl, ho0, hb⟩; refine ⟨_, rfl, ?_⟩; have n0_ := Aside0.mk (Kd.R_elder' (by (with_reducible repeat (first | apply Kd.R_alloc | apply Kd.R_drewN | apply Kd.R_drew)); exact HO7005.out) (Kd.R_base ho0) hb); have n1_ := Aside0.mk (Kd.R_lower (Kd.R_new' ho0 (Kd.R_lt (by (with_reducible repeat (first | apply Kd.R_alloc | apply Kd.R_drewN | apply Kd.R_drew)); exact HO7005.out))) (below_size (by repeat (first | (with_reducible first | exact HB.out | apply below_alloc | apply pw_below_drewN | apply below_drew1) | exact HB.out)))); have n2_ := Aside0.mk (below_step (by repeat (first | (with_reducible first | exact HB.out | apply below_alloc | apply pw_below_drewN | apply below_drew1) | exact HB.out)) hb); clear HO7005; clear HB; have HO7005 := n0_; have HO7009 := n1_; have HB := n2_; clear n0_ n1_ n2_; (try clear hb); (try clear hb2); (try clear hk); (try clear hi); (try clear ho0)))
    (try simp only [Act.put, List.setIfInBounds_toArray, List.set_cons_zero, List.set_cons_succ])
    go_cut [46] (fun v46 wc => ∃ (kq : Nat) (x46_11 : Bool), v46 = .bool x46_11 ∧ Aside0 (papermilllaw13_IsoChains.j1 kq l0 l2 t7002 t7006 x46_11 = some r) ∧ Aside0 (kq ≤ kj3) ∧ Aside0 (Kd.R k32 32 wc w.heap.size (fun k_ => some k_ ≠ (v7008 : Value).ownBlock) v7004 t7002) ∧ Aside0 (Kd.R k32 32 wc w.heap.size (fun k_ => some k_ ≠ (v7004 : Value).ownBlock) v7008 t7006) ∧ Aside0 (Below w.heap.size w wc))
    case first =>
     have H := HC12.out
     clear HC12
     by_cases c15 : t7003 = 0
     ·rw [if_pos c15] at H
      have c15b0 : (t7003 == 0) = true := beq_iff_eq.mpr c15
      have c15b1 : (t7003 != 0) = false := bne_eq_false_iff_eq.mpr c15
      clear c15
      (first | rw [c15b0] | (simp only [i64_w, i32_w]; rw [c15b0]) | skip)
      have H' := Aside0.mk H
      clear H
      go_wp2
      go_meet
      case rel => exact ⟨_, ((t7007 != 0)), (by first | rfl | (simp; done) | (simp [*]; done)), H', ⟨by have := HJ3.out; first | omega | exact Nat.le_refl _⟩, ⟨by (with_reducible repeat (first | apply Kd.R_alloc | apply Kd.R_drewN | apply Kd.R_drew)); exact Kd.R_mono HO7005.out (fun _ hk => hk.2)⟩, ⟨by (with_reducible repeat (first | apply Kd.R_alloc | apply Kd.R_drewN | apply Kd.R_drew)); exact Kd.R_mono HO7009.out (fun _ hk => hk.2)⟩, ⟨by repeat (first | (with_reducible first | exact HB.out | apply below_alloc | apply pw_below_drewN | apply below_drew1) | exact HB.out)⟩⟩
     ·rw [if_neg c15] at H
      have c15b0 : (t7003 == 0) = false := beq_eq_false_iff_ne.mpr c15
      have c15b1 : (t7003 != 0) = true := bne_iff_ne.mpr c15
      (first | rw [c15b0] | (simp only [i64_w, i32_w]; rw [c15b0]) | skip)
      have H' := Aside0.mk H
      clear H
      go_wp2
      go_meet
      case rel => exact ⟨_, (true), (by first | rfl | (simp; done) | (simp [*]; done)), H', ⟨by have := HJ3.out; first | omega | exact Nat.le_refl _⟩, ⟨by (with_reducible repeat (first | apply Kd.R_alloc | apply Kd.R_drewN | apply Kd.R_drew)); exact Kd.R_mono HO7005.out (fun _ hk => hk.2)⟩, ⟨by (with_reducible repeat (first | apply Kd.R_alloc | apply Kd.R_drewN | apply Kd.R_drew)); exact Kd.R_mono HO7009.out (fun _ hk => hk.2)⟩, ⟨by repeat (first | (with_reducible first | exact HB.out | apply below_alloc | apply pw_below_drewN | apply below_drew1) | exact HB.out)⟩⟩
    case rest =>
     clear HC12
     try clear c1
     try clear c2
     try clear p2
     try clear c5
     try clear c5b0
     try clear c5b1
     try clear c6
     try clear c6b0
     try clear c6b1
     try clear c7
     try clear c13
     try clear c15
     try clear c15b0
     try clear c15b1
     try clear p2
     obtain ⟨kq, x46_11, rfl, HA, HJ11, HO_7, HO_9, HB⟩ := hcut
     cases kq with
     | zero => exact absurd HA.out (by simp [papermilllaw13_IsoChains.j1])
     | succ kj11 =>
      have H := HA.out
      clear HA
      simp only [papermilllaw13_IsoChains.j1] at H
      by_cases c16 : x46_11 = true
      ·subst c16
       have H1 : ((papermilllaw13_awake.f).bind fun t7010 => (some t7010)) = some r := by rw [if_pos rfl] at H; exact H
       clear H
       have H := H1
       clear H1
       replace H := Option.bind_eq_some_iff.mp H
       obtain ⟨t7010, A170, H⟩ := H
       replace H : (some t7010) = some r := H
       have A17 := Aside0.mk A170
       clear A170
       obtain rfl := Option.some.inj H
       go_wp2_with (first | ((with_reducible refine gate_callee (f := 13) rfl ?_); refine goesL_ (some 47) rfl rfl Try.func13 (by kernel_rfl) rfl #[] rfl (by (try simp only [List.map_toArray, List.map_cons, List.map_nil]); first | done | rfl | (simp only [List.length_drop, List.length_take]; rfl)) ?_; (with_reducible refine (papermilllaw13_awake.calls  t7010 _ A17.out).mono ?_); rintro e w18 ⟨rfl, hb⟩; refine ⟨_, rfl, ?_⟩; have n0_ := Aside0.mk (Kd.R_below (by (with_reducible repeat (first | apply Kd.R_alloc | apply Kd.R_drewN | apply Kd.R_drew)); exact HO_7.out) hb); have n1_ := Aside0.mk (Kd.R_below (by (with_reducible repeat (first | apply Kd.R_alloc | apply Kd.R_drewN | apply Kd.R_drew)); exact HO_9.out) hb); have n2_ := Aside0.mk (below_step (by repeat (first | (with_reducible first | exact HB.out | apply below_alloc | apply pw_below_drewN | apply below_drew1) | exact HB.out)) hb); clear HO_7; clear HO_9; clear HB; have HO_7 := n0_; have HO_9 := n1_; have HB := n2_; clear n0_ n1_ n2_; (try clear hb); (try clear hb2); (try clear hk); (try clear hi)))
       go_ret
       exact ⟨by first | rfl | (simp [errW_none, errW_some] <;> rfl) | (simp [*, errW_none, errW_some] <;> rfl), by repeat (first | (with_reducible first | exact HB.out | apply below_alloc | apply pw_below_drewN | apply below_drew1) | exact HB.out)⟩
      ·replace c16 := Bool.eq_false_iff.mpr c16
       subst c16
       have H1 : ((iso_Compose.f t7002 l2).bind fun bt7011 => ((iso_Compose.f l0 t7006).bind fun bt7015 => (if bt7011.2 = 8 then (papermilllaw13_IsoChains.j2 kj11 bt7011.1 bt7011.2 bt7015.1 bt7015.2 true) else (papermilllaw13_IsoChains.j2 kj11 bt7011.1 bt7011.2 bt7015.1 bt7015.2 (bt7015.2 == 8))))) = some r := by rw [if_neg (show ¬ (false = true) by decide)] at H; first | exact H | simpa using H
       clear H
       have H := H1
       clear H1
       replace H := Option.bind_eq_some_iff.mp H
       obtain ⟨⟨t7011, t7012⟩, A190, H⟩ := H
       replace H : ((iso_Compose.f l0 t7006).bind fun bt7015 => (if t7012 = 8 then (papermilllaw13_IsoChains.j2 kj11 t7011 t7012 bt7015.1 bt7015.2 true) else (papermilllaw13_IsoChains.j2 kj11 t7011 t7012 bt7015.1 bt7015.2 (bt7015.2 == 8)))) = some r := H
       have A19 := Aside0.mk A190
       clear A190
       replace H := Option.bind_eq_some_iff.mp H
       obtain ⟨⟨t7015, t7016⟩, A200, H⟩ := H
       replace H : (if t7012 = 8 then (papermilllaw13_IsoChains.j2 kj11 t7011 t7012 t7015 t7016 true) else (papermilllaw13_IsoChains.j2 kj11 t7011 t7012 t7015 t7016 (t7016 == 8))) = some r := H
       have A20 := Aside0.mk A200
       clear A200
       have HC21 := Aside0.mk H
       clear H
       obtain ⟨Ao22, co22, eo22⟩ := Kd.R_slice HO_7.out
       subst eo22
       go_upto_region 9 with (first | ((with_reducible refine gate_callee (f := 18) rfl ?_); refine goesL_ (some 51) rfl rfl Try.func18 (by kernel_rfl) rfl #[.slice Ao22 t7002.length co22, .slice A2 l2.length c2] rfl (by (try simp only [List.map_toArray, List.map_cons, List.map_nil]); first | done | rfl | (simp only [List.length_drop, List.length_take]; rfl)) ?_; (with_reducible refine (iso_Compose.calls _ _ t7002 _ _ l2 t7011 t7012 _ ?side1 ?side2 ?side3 ?side4 A19.out).mono ?_); (case side1 => repeat (first | exact (Kd.R_reads' HO_7.out).2.2 | (with_reducible refine Kd.C_alloc ?_ _) | (with_reducible refine Kd.C_drewN ?_ _) | (with_reducible refine Kd.C_drew ?_))); (case side2 => exact (Kd.R_reads' HO_7.out).2.1); (case side3 => repeat (first | exact (Kd.C_below HR2.out HB.out) | (with_reducible refine Kd.C_alloc ?_ _) | (with_reducible refine Kd.C_drewN ?_ _) | (with_reducible refine Kd.C_drew ?_))); (case side4 => exact HC2.out); rintro e w23 ⟨v7013, rfl, ho0, hb⟩; refine ⟨_, rfl, ?_⟩; have n0_ := Aside0.mk (Kd.R_elder' (by (with_reducible repeat (first | apply Kd.R_alloc | apply Kd.R_drewN | apply Kd.R_drew)); exact HO_7.out) (Kd.R_base ho0) hb); have n1_ := Aside0.mk (Kd.R_elder' (by (with_reducible repeat (first | apply Kd.R_alloc | apply Kd.R_drewN | apply Kd.R_drew)); exact HO_9.out) (Kd.R_base ho0) hb); have n2_ := Aside0.mk (Kd.R_lower (Kd.R_new' (Kd.R_new' ho0 (Kd.R_lt (by (with_reducible repeat (first | apply Kd.R_alloc | apply Kd.R_drewN | apply Kd.R_drew)); exact HO_7.out))) (Kd.R_lt (by (with_reducible repeat (first | apply Kd.R_alloc | apply Kd.R_drewN | apply Kd.R_drew)); exact HO_9.out))) (below_size (by repeat (first | (with_reducible first | exact HB.out | apply below_alloc | apply pw_below_drewN | apply below_drew1) | exact HB.out)))); have n3_ := Aside0.mk (below_step (by repeat (first | (with_reducible first | exact HB.out | apply below_alloc | apply pw_below_drewN | apply below_drew1) | exact HB.out)) hb); clear HO_7; clear HO_9; clear HB; have HO_7 := n0_; have HO_9 := n1_; have HO7014 := n2_; have HB := n3_; clear n0_ n1_ n2_ n3_; (try clear hb); (try clear hb2); (try clear hk); (try clear hi); (try clear ho0); obtain ⟨Ao24, co24, eo24⟩ := Kd.R_slice HO_9.out; subst eo24) | ((with_reducible refine gate_callee (f := 18) rfl ?_); refine goesL_ (some 57) rfl rfl Try.func18 (by kernel_rfl) rfl #[.slice A0 l0.length c0, .slice Ao24 t7006.length co24] rfl (by (try simp only [List.map_toArray, List.map_cons, List.map_nil]); first | done | rfl | (simp only [List.length_drop, List.length_take]; rfl)) ?_; (with_reducible refine (iso_Compose.calls _ _ l0 _ _ t7006 t7015 t7016 _ ?side1 ?side2 ?side3 ?side4 A20.out).mono ?_); (case side1 => repeat (first | exact (Kd.C_below HR0.out HB.out) | (with_reducible refine Kd.C_alloc ?_ _) | (with_reducible refine Kd.C_drewN ?_ _) | (with_reducible refine Kd.C_drew ?_))); (case side2 => exact HC0.out); (case side3 => repeat (first | exact (Kd.R_reads' HO_9.out).2.2 | (with_reducible refine Kd.C_alloc ?_ _) | (with_reducible refine Kd.C_drewN ?_ _) | (with_reducible refine Kd.C_drew ?_))); (case side4 => exact (Kd.R_reads' HO_9.out).2.1); rintro e w25 ⟨v7017, rfl, ho0, hb⟩; refine ⟨_, rfl, ?_⟩; have n0_ := Aside0.mk (Kd.R_elder' (by (with_reducible repeat (first | apply Kd.R_alloc | apply Kd.R_drewN | apply Kd.R_drew)); exact HO_7.out) (Kd.R_base ho0) hb); have n1_ := Aside0.mk (Kd.R_elder' (by (with_reducible repeat (first | apply Kd.R_alloc | apply Kd.R_drewN | apply Kd.R_drew)); exact HO_9.out) (Kd.R_base ho0) hb); have n2_ := Aside0.mk (Kd.R_elder' (by (with_reducible repeat (first | apply Kd.R_alloc | apply Kd.R_drewN | apply Kd.R_drew)); exact HO7014.out) (Kd.R_base ho0) hb); have n3_ := Aside0.mk (Kd.R_lower (Kd.R_new' (Kd.R_new' (Kd.R_new' ho0 (Kd.R_lt (by (with_reducible repeat (first | apply Kd.R_alloc | apply Kd.R_drewN | apply Kd.R_drew)); exact HO_7.out))) (Kd.R_lt (by (with_reducible repeat (first | apply Kd.R_alloc | apply Kd.R_drewN | apply Kd.R_drew)); exact HO_9.out))) (Kd.R_lt (by (with_reducible repeat (first | apply Kd.R_alloc | apply Kd.R_drewN | apply Kd.R_drew)); exact HO7014.out))) (below_size (by repeat (first | (with_reducible first | exact HB.out | apply below_alloc | apply pw_below_drewN | apply below_drew1) | exact HB.out)))); have n4_ := Aside0.mk (below_step (by repeat (first | (with_reducible first | exact HB.out | apply below_alloc | apply pw_below_drewN | apply below_drew1) | exact HB.out)) hb); clear HO_7; clear HO_9; clear HO7014; clear HB; have HO_7 := n0_; have HO_9 := n1_; have HO7014 := n2_; have HO7018 := n3_; have HB := n4_; clear n0_ n1_ n2_ n3_ n4_; (try clear hb); (try clear hb2); (try clear hk); (try clear hi); (try clear ho0)))
       (try simp only [Act.put, List.setIfInBounds_toArray, List.set_cons_zero, List.set_cons_succ])
       go_cut [65] (fun v65 wc => ∃ (kq : Nat) (x65_20 : Bool), v65 = .bool x65_20 ∧ Aside0 (papermilllaw13_IsoChains.j2 kq t7011 t7012 t7015 t7016 x65_20 = some r) ∧ Aside0 (kq ≤ kj11) ∧ Aside0 (Kd.R k32 32 wc w.heap.size (fun k_ => some k_ ≠ (v7017 : Value).ownBlock) v7013 t7011) ∧ Aside0 (Kd.R k32 32 wc w.heap.size (fun k_ => some k_ ≠ (v7013 : Value).ownBlock) v7017 t7015) ∧ Aside0 (Below w.heap.size w wc))
       case first =>
        have H := HC21.out
        clear HC21
        by_cases c26 : t7012 = 8
        ·rw [if_pos c26] at H
         have c26b0 : (t7012 == 8) = true := beq_iff_eq.mpr c26
         have c26b1 : (t7012 != 8) = false := bne_eq_false_iff_eq.mpr c26
         clear c26
         (first | rw [c26b0] | (simp only [i64_w, i32_w]; rw [c26b0]) | skip)
         have H' := Aside0.mk H
         clear H
         go_wp2
         go_meet
         case rel => exact ⟨_, (true), (by first | rfl | (simp; done) | (simp [*]; done)), H', ⟨by have := HJ3.out; have := HJ11.out; first | omega | exact Nat.le_refl _⟩, ⟨by (with_reducible repeat (first | apply Kd.R_alloc | apply Kd.R_drewN | apply Kd.R_drew)); exact Kd.R_mono HO7014.out (fun _ hk => hk.2)⟩, ⟨by (with_reducible repeat (first | apply Kd.R_alloc | apply Kd.R_drewN | apply Kd.R_drew)); exact Kd.R_mono HO7018.out (fun _ hk => hk.2)⟩, ⟨by repeat (first | (with_reducible first | exact HB.out | apply below_alloc | apply pw_below_drewN | apply below_drew1) | exact HB.out)⟩⟩
        ·rw [if_neg c26] at H
         have c26b0 : (t7012 == 8) = false := beq_eq_false_iff_ne.mpr c26
         have c26b1 : (t7012 != 8) = true := bne_iff_ne.mpr c26
         (first | rw [c26b0] | (simp only [i64_w, i32_w]; rw [c26b0]) | skip)
         have H' := Aside0.mk H
         clear H
         go_wp2
         go_meet
         case rel => exact ⟨_, ((t7016 == 8)), (by first | rfl | (simp; done) | (simp [*]; done)), H', ⟨by have := HJ3.out; have := HJ11.out; first | omega | exact Nat.le_refl _⟩, ⟨by (with_reducible repeat (first | apply Kd.R_alloc | apply Kd.R_drewN | apply Kd.R_drew)); exact Kd.R_mono HO7014.out (fun _ hk => hk.2)⟩, ⟨by (with_reducible repeat (first | apply Kd.R_alloc | apply Kd.R_drewN | apply Kd.R_drew)); exact Kd.R_mono HO7018.out (fun _ hk => hk.2)⟩, ⟨by repeat (first | (with_reducible first | exact HB.out | apply below_alloc | apply pw_below_drewN | apply below_drew1) | exact HB.out)⟩⟩
       case rest =>
        clear HC21
        try clear c1
        try clear c2
        try clear p2
        try clear c5
        try clear c5b0
        try clear c5b1
        try clear c6
        try clear c6b0
        try clear c6b1
        try clear c7
        try clear c13
        try clear c15
        try clear c15b0
        try clear c15b1
        try clear c16
        try clear c18
        try clear c26
        try clear c26b0
        try clear c26b1
        try clear p2
        obtain ⟨kq, x65_20, rfl, HA, HJ20, HO_11, HO_13, HB⟩ := hcut
        cases kq with
        | zero => exact absurd HA.out (by simp [papermilllaw13_IsoChains.j2])
        | succ kj20 =>
         have H := HA.out
         clear HA
         simp only [papermilllaw13_IsoChains.j2] at H
         by_cases c27 : x65_20 = true
         ·subst c27
          have H1 : ((papermilllaw13_awake.f).bind fun t7019 => (some t7019)) = some r := by rw [if_pos rfl] at H; exact H
          clear H
          have H := H1
          clear H1
          replace H := Option.bind_eq_some_iff.mp H
          obtain ⟨t7019, A280, H⟩ := H
          replace H : (some t7019) = some r := H
          have A28 := Aside0.mk A280
          clear A280
          obtain rfl := Option.some.inj H
          go_wp2_with (first | ((with_reducible refine gate_callee (f := 13) rfl ?_); refine goesL_ (some 66) rfl rfl Try.func13 (by kernel_rfl) rfl #[] rfl (by (try simp only [List.map_toArray, List.map_cons, List.map_nil]); first | done | rfl | (simp only [List.length_drop, List.length_take]; rfl)) ?_; (with_reducible refine (papermilllaw13_awake.calls  t7019 _ A28.out).mono ?_); rintro e w29 ⟨rfl, hb⟩; refine ⟨_, rfl, ?_⟩; have n0_ := Aside0.mk (Kd.R_below (by (with_reducible repeat (first | apply Kd.R_alloc | apply Kd.R_drewN | apply Kd.R_drew)); exact HO_11.out) hb); have n1_ := Aside0.mk (Kd.R_below (by (with_reducible repeat (first | apply Kd.R_alloc | apply Kd.R_drewN | apply Kd.R_drew)); exact HO_13.out) hb); have n2_ := Aside0.mk (below_step (by repeat (first | (with_reducible first | exact HB.out | apply below_alloc | apply pw_below_drewN | apply below_drew1) | exact HB.out)) hb); clear HO_11; clear HO_13; clear HB; have HO_11 := n0_; have HO_13 := n1_; have HB := n2_; clear n0_ n1_ n2_; (try clear hb); (try clear hb2); (try clear hk); (try clear hi)))
          go_ret
          exact ⟨by first | rfl | (simp [errW_none, errW_some] <;> rfl) | (simp [*, errW_none, errW_some] <;> rfl), by repeat (first | (with_reducible first | exact HB.out | apply below_alloc | apply pw_below_drewN | apply below_drew1) | exact HB.out)⟩
         ·replace c27 := Bool.eq_false_iff.mpr c27
          subst c27
          have H1 : (if t7012 = 0 then (if t7016 = 0 then ((papermillref13_Same.f kj20 t7011 t7015).bind fun t7020 => (if t7020 = true then ((papermilllaw13_awake.f).bind fun t7021 => (some t7021)) else (some false))) else (some false)) else (some false)) = some r := by rw [if_neg (show ¬ (false = true) by decide)] at H; first | exact H | simpa using H
          clear H
          have H := H1
          clear H1
          by_cases c30 : t7012 = 0
          ·rw [if_pos c30] at H
           have c30b0 : (t7012 == 0) = true := beq_iff_eq.mpr c30
           have c30b1 : (t7012 != 0) = false := bne_eq_false_iff_eq.mpr c30
           clear c30
           by_cases c31 : t7016 = 0
           ·rw [if_pos c31] at H
            have c31b0 : (t7016 == 0) = true := beq_iff_eq.mpr c31
            have c31b1 : (t7016 != 0) = false := bne_eq_false_iff_eq.mpr c31
            clear c31
            replace H := Option.bind_eq_some_iff.mp H
            obtain ⟨t7020, A320, H⟩ := H
            replace H : (if t7020 = true then ((papermilllaw13_awake.f).bind fun t7021 => (some t7021)) else (some false)) = some r := H
            have A32 := Aside0.mk A320
            clear A320
            by_cases c33 : t7020 = true
            ·subst c33
             have H1 : ((papermilllaw13_awake.f).bind fun t7021 => (some t7021)) = some r := by rw [if_pos rfl] at H; exact H
             clear H
             have H := H1
             clear H1
             replace H := Option.bind_eq_some_iff.mp H
             obtain ⟨t7021, A340, H⟩ := H
             replace H : (some t7021) = some r := H
             have A34 := Aside0.mk A340
             clear A340
             obtain rfl := Option.some.inj H
             obtain ⟨Ao35, co35, eo35⟩ := Kd.R_slice HO_11.out
             subst eo35
             obtain ⟨Ao36, co36, eo36⟩ := Kd.R_slice HO_13.out
             subst eo36
             go_wp2_with (first | (go_at_call 20; (with_reducible refine (papermillref13_Same.calls kj20 _ _ t7011 _ _ t7015 true _ ?side1 ?side2 ?side3 ?side4 A32.out).mono ?_); (case side1 => repeat (first | exact (Kd.R_reads' HO_11.out).2.2 | (with_reducible refine Kd.C_alloc ?_ _) | (with_reducible refine Kd.C_drewN ?_ _) | (with_reducible refine Kd.C_drew ?_))); (case side2 => exact (Kd.R_reads' HO_11.out).2.1); (case side3 => repeat (first | exact (Kd.R_reads' HO_13.out).2.2 | (with_reducible refine Kd.C_alloc ?_ _) | (with_reducible refine Kd.C_drewN ?_ _) | (with_reducible refine Kd.C_drew ?_))); (case side4 => exact (Kd.R_reads' HO_13.out).2.1); rintro e w' ⟨rfl, ⟨nd, rfl⟩⟩) | (go_at_call 13; (with_reducible refine (papermilllaw13_awake.calls  t7021 _ A34.out).mono ?_); rintro e w37 ⟨rfl, hb⟩; have n0_ := Aside0.mk (Kd.R_below (by (with_reducible repeat (first | apply Kd.R_alloc | apply Kd.R_drewN | apply Kd.R_drew)); exact HO_11.out) hb); have n1_ := Aside0.mk (Kd.R_below (by (with_reducible repeat (first | apply Kd.R_alloc | apply Kd.R_drewN | apply Kd.R_drew)); exact HO_13.out) hb); have n2_ := Aside0.mk (below_step (by repeat (first | (with_reducible first | exact HB.out | apply below_alloc | apply pw_below_drewN | apply below_drew1) | exact HB.out)) hb); clear HO_11; clear HO_13; clear HB; have HO_11 := n0_; have HO_13 := n1_; have HB := n2_; clear n0_ n1_ n2_; (try clear hb); (try clear hb2); (try clear hk); (try clear hi)))
             go_ret
             exact ⟨by first | rfl | (simp [errW_none, errW_some] <;> rfl) | (simp [*, errW_none, errW_some] <;> rfl), by repeat (first | (with_reducible first | exact HB.out | apply below_alloc | apply pw_below_drewN | apply below_drew1) | exact HB.out)⟩
            ·replace c33 := Bool.eq_false_iff.mpr c33
             subst c33
             have H1 : (some false) = some r := by rw [if_neg (show ¬ (false = true) by decide)] at H; first | exact H | simpa using H
             clear H
             have H := H1
             clear H1
             obtain rfl := Option.some.inj H
             obtain ⟨Ao38, co38, eo38⟩ := Kd.R_slice HO_11.out
             subst eo38
             obtain ⟨Ao39, co39, eo39⟩ := Kd.R_slice HO_13.out
             subst eo39
             go_wp2_with (first | (go_at_call 20; (with_reducible refine (papermillref13_Same.calls kj20 _ _ t7011 _ _ t7015 false _ ?side1 ?side2 ?side3 ?side4 A32.out).mono ?_); (case side1 => repeat (first | exact (Kd.R_reads' HO_11.out).2.2 | (with_reducible refine Kd.C_alloc ?_ _) | (with_reducible refine Kd.C_drewN ?_ _) | (with_reducible refine Kd.C_drew ?_))); (case side2 => exact (Kd.R_reads' HO_11.out).2.1); (case side3 => repeat (first | exact (Kd.R_reads' HO_13.out).2.2 | (with_reducible refine Kd.C_alloc ?_ _) | (with_reducible refine Kd.C_drewN ?_ _) | (with_reducible refine Kd.C_drew ?_))); (case side4 => exact (Kd.R_reads' HO_13.out).2.1); rintro e w' ⟨rfl, ⟨nd, rfl⟩⟩))
             go_ret
             exact ⟨by first | rfl | (simp [errW_none, errW_some] <;> rfl) | (simp [*, errW_none, errW_some] <;> rfl), by repeat (first | (with_reducible first | exact HB.out | apply below_alloc | apply pw_below_drewN | apply below_drew1) | exact HB.out)⟩
           ·rw [if_neg c31] at H
            have c31b0 : (t7016 == 0) = false := beq_eq_false_iff_ne.mpr c31
            have c31b1 : (t7016 != 0) = true := bne_iff_ne.mpr c31
            obtain rfl := Option.some.inj H
            go_wp2
            go_ret
            exact ⟨by first | rfl | (simp [errW_none, errW_some] <;> rfl) | (simp [*, errW_none, errW_some] <;> rfl), by repeat (first | (with_reducible first | exact HB.out | apply below_alloc | apply pw_below_drewN | apply below_drew1) | exact HB.out)⟩
          ·rw [if_neg c30] at H
           have c30b0 : (t7012 == 0) = false := beq_eq_false_iff_ne.mpr c30
           have c30b1 : (t7012 != 0) = true := bne_iff_ne.mpr c30
           obtain rfl := Option.some.inj H
           go_wp2
           go_ret
           exact ⟨by first | rfl | (simp [errW_none, errW_some] <;> rfl) | (simp [*, errW_none, errW_some] <;> rfl), by repeat (first | (with_reducible first | exact HB.out | apply below_alloc | apply pw_below_drewN | apply below_drew1) | exact HB.out)⟩

end Go.Proofs.Ytcnkmdonbpgjiaa.G

namespace Go.Proofs.Ytcnkmdonbpgjiaa.G
open Go.RowKit Go.Proofs.YtcnkmdonbpgjiaaW.PrintWords Go.Proofs.YtcnkmdonbpgjiaaW.PrintLast Go.Proofs.YtcnkmdonbpgjiaaW.PrintMore
set_option linter.unusedVariables false
set_option linter.unusedSimpArgs false
def fitX (xs : List Int) : Prop := ∀ x ∈ xs, 0 ≤ x ∧ x < 17179869184
theorem img_in {r : S32} (h : ¬ badR r) (i : Int) (h0 : 0 ≤ i) (h1 : i < r.f1) : 0 ≤ img r i ∧ img r i < 17179869184 := by
  unfold badR at h
  unfold img
  cases hb : r.f2 <;> simp [hb] at h ⊢ <;> omega
theorem sem_fit {l : List S32} (h : ∀ r ∈ l, ¬ badR r) : fitX (sem l) := by
  intro x hx
  obtain ⟨r, hr, hx⟩ := List.mem_flatMap.mp hx
  simp only [imgs, List.mem_map, List.mem_range] at hx
  obtain ⟨i, hi, rfl⟩ := hx
  exact img_in (h r hr) i (by omega) (by omega)
theorem mem_sem {l : List S32} {t : S32} (h : t ∈ l) (i : Nat) (hi : (i : Int) < t.f1) : img t i ∈ sem l := by
  refine List.mem_flatMap.mpr ⟨t, h, ?_⟩
  exact List.mem_iff_getElem?.mpr ⟨i, imgs_get t i hi⟩
theorem len_sem_mem {l : List S32} {t : S32} (h : t ∈ l) : t.f1.toNat ≤ (sem l).length := by
  induction l with
  | nil => simp at h
  | cons r l ih =>
    rw [sem_cons, List.length_append, imgs_len]
    rcases List.mem_cons.mp h with rfl | h
    · omega
    · have := ih h; omega
theorem check_nrm (xs : List Int) (h : fitX xs) (hl : xs.length ≤ 17179869184) (hn : (nrm xs).length ≤ 256) : check13 (nrm xs) = 0 := by
  have hok := nrm_ok xs
  have hg : ∀ t ∈ nrm xs, ¬ badR t := by
    intro t ht
    have h1 := (hok t ht).1
    have m0 := mem_sem ht 0 (by omega)
    have m1 := mem_sem ht (t.f1 - 1).toNat (by omega)
    have hlen := len_sem_mem ht
    rw [sem_nrm] at m0 m1 hlen
    have b0 := h _ m0
    have b1 := h _ m1
    rw [show (((t.f1 - 1).toNat : Nat) : Int) = t.f1 - 1 by omega] at b1
    unfold img at b0 b1
    unfold badR
    cases hb : t.f2 <;> simp [hb] at b0 b1 ⊢ <;> omega
  have ht := sem_len (nrm xs) (fun r hr => by have := (hok r hr).1; omega)
  rw [sem_nrm] at ht
  unfold check13
  rw [if_neg (by omega), if_neg, if_neg (by omega)]
  intro hb
  obtain ⟨t, ht2, hb⟩ := List.any_eq_true.mp hb
  exact hg t ht2 (by simpa using hb)
theorem tot_nrm (xs : List Int) : tot13 (nrm xs) = xs.length := by
  rw [← sem_len (nrm xs) (fun r hr => by have := (nrm_ok xs r hr).1; omega), sem_nrm]
theorem sem_small {l : List S32} (h : check13 l = 0) : (sem l).length ≤ 17179869184 := by
  have h1 := sem_tot h
  have h2 := (check13_zero h).2.2
  omega
theorem nrm_few {l : List S32} (h : check13 l = 0) : (nrm (sem l)).length ≤ l.length :=
  nrm_len l (fun r hr => (fit_of ((check13_zero h).2.1 r hr)).2.2.1)
theorem nrm_fair {l : List S32} (h : check13 l = 0) : check13 (nrm (sem l)) = 0 :=
  check_nrm _ (sem_fit (check13_zero h).2.1) (sem_small h) (by have := nrm_few h; have := (check13_zero h).1; omega)
theorem rev_few {l : List S32} (h : check13 l = 0) : (nrm (sem l).reverse).length ≤ l.length := by
  have hp : ∀ r ∈ l, 1 ≤ r.f1 := fun r hr => (fit_of ((check13_zero h).2.1 r hr)).2.2.1
  have := nrm_len (revL l) (revL_pos l hp)
  rw [sem_rev l hp, revL_len] at this
  exact this
theorem rev_fair {l : List S32} (h : check13 l = 0) : check13 (nrm (sem l).reverse) = 0 :=
  check_nrm _ (fun x hx => sem_fit (check13_zero h).2.1 x (List.mem_reverse.mp hx)) (by rw [List.length_reverse]; exact sem_small h) (by have := rev_few h; have := (check13_zero h).1; omega)
theorem normOf_nrm {l : List S32} (h : check13 l = 0) : normOf (nrm (sem l)) = (nrm (sem l), 0) := by unfold normOf; rw [if_pos (nrm_fair h), sem_nrm]
theorem at_nrm {l : List S32} (h : check13 l = 0) (x : Int) : atOf13 (nrm (sem l)) x = atOf13 l x := by
  unfold atOf13
  rw [if_pos (nrm_fair h), if_pos h, tot_nrm, ← sem_tot h, sem_nrm]
theorem rsame13_l0 (l : List S32) (hl : l.length ≤ 1000000) : ∀ (d i : Nat), l.length - i = d → i ≤ l.length → Ends (fun k => papermillref13_Same.l0 k l l (i : Int)) true := by
  intro d
  induction d with
  | zero =>
    intro i hd hi
    refine Ends.succ ?_
    simp only [papermillref13_Same.l0]
    exact Ends.neg (by omega) (Ends.ret _)
  | succ d ih =>
    intro i hd hi
    refine Ends.succ ?_
    simp only [papermillref13_Same.l0, wrap_nat i (by omega)]
    exact Ends.pos (by omega) (Ends.pos (by omega) (Ends.pos (by omega) (Ends.neg (by simp) (ih (i + 1) (by omega) (by omega)))))
theorem rsame13_ends (l : List S32) (hl : l.length ≤ 1000000) : Ends (fun k => papermillref13_Same.f k l l) true := by
  unfold papermillref13_Same.f
  exact Ends.pos rfl (rsame13_l0 l hl _ 0 rfl (by omega))
end Go.Proofs.Ytcnkmdonbpgjiaa.G

namespace Go.Proofs.Ytcnkmdonbpgjiaa.G
open Go.RowKit Go.Proofs.YtcnkmdonbpgjiaaW.PrintWords Go.Proofs.YtcnkmdonbpgjiaaW.PrintLast Go.Proofs.YtcnkmdonbpgjiaaW.PrintMore
set_option linter.unusedVariables false
set_option linter.unusedSimpArgs false
def cmp (a b : List S32) : List Int := (sem a).map (lookOf (sem b))
theorem comp_ok {a b : List S32} (h : (compOf13 a b).2 = 0) : check13 a = 0 ∧ check13 b = 0 ∧ (∀ r ∈ a, farR (tot13 b) r = false) ∧ (compOf13 a b).1 = nrm (cmp a b) ∧ (nrm (cmp a b)).length ≤ 256 := by
  unfold compOf13 at h ⊢
  by_cases h0 : check13 a = 0
  · rw [if_pos h0] at h ⊢
    by_cases h1 : check13 b = 0
    · rw [if_pos h1] at h ⊢
      by_cases h2 : a.any (farR (tot13 b)) = true
      · rw [if_pos h2] at h; cases h
      · rw [if_neg h2] at h ⊢
        by_cases h3 : (nrm ((sem a).map (lookOf (sem b)))).length > 256
        · rw [if_pos h3] at h; cases h
        · rw [if_neg h3]
          refine ⟨h0, h1, fun r hr => ?_, rfl, by unfold cmp; omega⟩
          cases hf : farR (tot13 b) r with
          | false => rfl
          | true => exact absurd (List.any_eq_true.mpr ⟨r, hr, hf⟩) h2
    · rw [if_neg h1] at h; exact absurd h h1
  · rw [if_neg h0] at h; exact absurd h h0
theorem comp_is {a b : List S32} (h0 : check13 a = 0) (h1 : check13 b = 0) (h2 : ∀ r ∈ a, farR (tot13 b) r = false) : compOf13 a b = if (nrm (cmp a b)).length > 256 then ([], 8) else (nrm (cmp a b), 0) := by
  unfold compOf13
  rw [if_pos h0, if_pos h1, if_neg]
  · rfl
  · intro h
    obtain ⟨r, hr, hf⟩ := List.any_eq_true.mp h
    rw [h2 r hr] at hf
    cases hf
theorem far_sem {n : Int} {a : List S32} (hg : ∀ r ∈ a, ¬ badR r) (h : ∀ r ∈ a, farR n r = false) : ∀ y ∈ sem a, 0 ≤ y ∧ y < n := by
  intro y hy
  refine ⟨(sem_fit hg y hy).1, ?_⟩
  obtain ⟨r, hr, hy⟩ := List.mem_flatMap.mp hy
  simp only [imgs, List.mem_map, List.mem_range] at hy
  obtain ⟨i, hi, rfl⟩ := hy
  have := h r hr
  unfold farR at this
  simp only [decide_eq_false_iff_not, Int.not_le] at this
  unfold img at this ⊢
  cases hb : r.f2 <;> simp [hb] at this ⊢ <;> omega
theorem far_nrm {n : Int} {xs : List Int} (h : ∀ y ∈ xs, y < n) : ∀ t ∈ nrm xs, farR n t = false := by
  intro t ht
  have h1 := (nrm_ok xs t ht).1
  have m0 := mem_sem ht 0 (by omega)
  have m1 := mem_sem ht (t.f1 - 1).toNat (by omega)
  rw [sem_nrm] at m0 m1
  have b0 := h _ m0
  have b1 := h _ m1
  rw [show (((t.f1 - 1).toNat : Nat) : Int) = t.f1 - 1 by omega] at b1
  have e0 : img t ((0 : Nat) : Int) = t.f0 := by unfold img; split <;> simp
  rw [e0] at b0
  unfold farR
  simp only [decide_eq_false_iff_not, Int.not_le]
  omega
theorem look_mem {b : List Int} {y : Int} (h0 : 0 ≤ y) (h1 : y < b.length) : lookOf b y ∈ b := by
  have : y.toNat < b.length := by omega
  unfold lookOf
  rw [List.getD_eq_getElem?_getD, List.getElem?_eq_getElem this]
  exact List.getElem_mem _
theorem look_map {b : List Int} {y : Int} (g : Int → Int) (h0 : 0 ≤ y) (h1 : y < b.length) : lookOf (b.map g) y = g (lookOf b y) := by
  have : y.toNat < b.length := by omega
  unfold lookOf
  rw [List.getD_eq_getElem?_getD, List.getD_eq_getElem?_getD, List.getElem?_map, List.getElem?_eq_getElem this]
  rfl
theorem cmp_mem {a b : List S32} (h0 : check13 a = 0) (h1 : check13 b = 0) (h2 : ∀ r ∈ a, farR (tot13 b) r = false) : ∀ x ∈ cmp a b, x ∈ sem b := by
  intro x hx
  obtain ⟨y, hy, rfl⟩ := List.mem_map.mp hx
  have h := far_sem (check13_zero h0).2.1 h2 y hy
  exact look_mem h.1 (by rw [sem_tot h1]; exact h.2)
theorem cmp_fair {a b : List S32} (h : (compOf13 a b).2 = 0) : check13 (nrm (cmp a b)) = 0 := by
  obtain ⟨h0, h1, h2, _, h4⟩ := comp_ok h
  refine check_nrm _ (fun x hx => sem_fit (check13_zero h1).2.1 x (cmp_mem h0 h1 h2 x hx)) ?_ h4
  unfold cmp
  rw [List.length_map]
  exact sem_small h0
theorem cmp_assoc {a b c : List S32} (h : (compOf13 a b).2 = 0) (k : (compOf13 b c).2 = 0) : compOf13 (compOf13 a b).1 c = compOf13 a (compOf13 b c).1 ∧ ((compOf13 a (compOf13 b c).1).2 = 0 ∨ (compOf13 a (compOf13 b c).1).2 = 8) := by
  obtain ⟨h0, h1, h2, h3, h4⟩ := comp_ok h
  obtain ⟨_, k1, k2, k3, k4⟩ := comp_ok k
  rw [h3, k3]
  have hb := far_sem (check13_zero h1).2.1 k2
  have e1 := comp_is (a := nrm (cmp a b)) (b := c) (cmp_fair h) k1 (far_nrm (fun y hy => (hb y (cmp_mem h0 h1 h2 y hy)).2))
  have htot : tot13 (nrm (cmp b c)) = tot13 b := by rw [tot_nrm, ← sem_tot h1]; simp [cmp]
  have e2 := comp_is (a := a) (b := nrm (cmp b c)) h0 (cmp_fair k) (fun r hr => by rw [htot]; exact h2 r hr)
  have e3 : cmp (nrm (cmp a b)) c = cmp a (nrm (cmp b c)) := by
    unfold cmp
    rw [sem_nrm, sem_nrm, List.map_map]
    refine List.map_congr_left fun y hy => ?_
    have hy2 := far_sem (check13_zero h0).2.1 h2 y hy
    exact (look_map (lookOf (sem c)) hy2.1 (by rw [sem_tot h1]; exact hy2.2)).symm
  rw [e1, e2, e3]
  refine ⟨rfl, ?_⟩
  split
  · exact .inr rfl
  · exact .inl rfl
end Go.Proofs.Ytcnkmdonbpgjiaa.G
