import Derived.Test.YtcnkmdonbpgjiaaQ1
import Derived.Test.YtcnkmdonbpgjiaaP6
import Derived.Test.YtcnkmdonbpgjiaaQ5
import Derived.Test.YtcnkmdonbpgjiaaQ4
import Derived.Test.YtcnkmdonbpgjiaaQ3
namespace Go.Proofs.Ytcnkmdonbpgjiaa.G
open Go.RowKit Go.Proofs.YtcnkmdonbpgjiaaW.PrintWords Go.Proofs.YtcnkmdonbpgjiaaW.PrintLast Go.Proofs.YtcnkmdonbpgjiaaW.PrintMore
attribute [local go_sem] max2_int min2_int max_two min_two max_three min_three max_four min_four   -- for this text's walks alone
set_option linter.unusedVariables false
set_option linter.unusedSimpArgs false

def papermilllaw13_IsoComposes.j0 : Nat → List (S32) → List (S32) → Bool → Option (Bool)
 | 0, _, _, _ => none
 | k + 1, x0, x1, x16 => if x16 = true then ((papermilllaw13_awake.f).bind fun t5001 => (some t5001)) else ((iso_Compose.f x0 x1).bind fun bt5002 => ((papermillref13_Compose.f k x0 x1).bind fun bt5006 => ((papermillref13_Same.f k bt5002.1 bt5006.1).bind fun t5010 => (if t5010 = true then (if bt5002.2 = bt5006.2 then ((papermilllaw13_awake.f).bind fun t5011 => (some t5011)) else (some false)) else (some false)))))
def papermilllaw13_IsoComposes.f (k : Nat) (l0 : List (S32)) (l1 : List (S32)) : Option (Bool) := if (l0.length : Int) > 60 then (papermilllaw13_IsoComposes.j0 k l0 l1 true) else (papermilllaw13_IsoComposes.j0 k l0 l1 (decide ((l1.length : Int) > 60)))
theorem papermilllaw13_IsoComposes.mono_l : ∀ k, (∀ y0 y1 y2, LeO (papermilllaw13_IsoComposes.j0 k y0 y1 y2) (papermilllaw13_IsoComposes.j0 (k + 1) y0 y1 y2))
 | 0 => fun _ _ _ r h => by simp [papermilllaw13_IsoComposes.j0] at h
 | k + 1 => by
  have ih0 := papermilllaw13_IsoComposes.mono_l k
  ·intro y0 y1 y2
   unfold papermilllaw13_IsoComposes.j0
   repeat' first
   | (with_reducible exact ih0 _ _ _)
   | (with_reducible exact papermillref13_Compose.mono _ _ _)
   | (with_reducible exact papermillref13_Same.mono _ _ _)
   | (with_reducible exact LeO.refl _)
   | (with_reducible exact LeO.none _)
   | (with_reducible refine LeO.ite ?_ ?_)
   | (with_reducible refine LeO.bind ?_ (fun _ => ?_))
   | exact ih0 _ _ _
   | exact papermillref13_Compose.mono _ _ _
   | exact papermillref13_Same.mono _ _ _
   | exact LeO.none _
   | refine LeO.ite ?_ ?_
   | refine LeO.bind ?_ (fun _ => ?_)
theorem papermilllaw13_IsoComposes.mono : ∀ a0 a1 k, LeO (papermilllaw13_IsoComposes.f k a0 a1) (papermilllaw13_IsoComposes.f (k + 1) a0 a1) := by
 intro a0 a1 k
 have ih0 := papermilllaw13_IsoComposes.mono_l k
 unfold papermilllaw13_IsoComposes.f
 repeat' first
   | (with_reducible exact ih0 _ _ _)
   | (with_reducible exact papermillref13_Compose.mono _ _ _)
   | (with_reducible exact papermillref13_Same.mono _ _ _)
   | (with_reducible exact LeO.refl _)
   | (with_reducible exact LeO.none _)
   | (with_reducible refine LeO.ite ?_ ?_)
   | (with_reducible refine LeO.bind ?_ (fun _ => ?_))
   | exact ih0 _ _ _
   | exact papermillref13_Compose.mono _ _ _
   | exact papermillref13_Same.mono _ _ _
   | exact LeO.none _
   | refine LeO.ite ?_ ?_
   | refine LeO.bind ?_ (fun _ => ?_)
set_option maxHeartbeats 8000000 in
set_option maxRecDepth 100000 in
theorem papermilllaw13_IsoComposes.calls (k : Nat) (A0 : Option Addr) (c0 : Nat) (l0 : List (S32)) (A1 : Option Addr) (c1 : Nat) (l1 : List (S32)) (r : Bool) (w : World) (hr0 : Kd.C k32 w A0 l0.length l0) (hc0 : l0.length ≤ c0) (hr1 : Kd.C k32 w A1 l1.length l1) (hc1 : l1.length ≤ c1) (h : papermilllaw13_IsoComposes.f k l0 l1 = some r) :
  Calls Try.prog 4 #[.slice A0 l0.length c0, .slice A1 l1.length c1] w fun e w' => e = .returned (.bool r) ∧ Below w.heap.size w w' := by
 have HR0 := Aside0.mk hr0
 have HC0 := Aside0.mk hc0
 clear hr0 hc0
 have HR1 := Aside0.mk hr1
 have HC1 := Aside0.mk hc1
 clear hr1 hc1
 have HB := Aside0.mk (Below.refl w.heap.size w)
 have H : (if (l0.length : Int) > 60 then (papermilllaw13_IsoComposes.j0 k l0 l1 true) else (papermilllaw13_IsoComposes.j0 k l0 l1 (decide ((l1.length : Int) > 60)))) = some r := h
 clear h
 have HC3 := Aside0.mk H
 clear H
 go_enter Try.func4, Try.ntmps4
 go_upto_region 1 with (fail)
 go_cut [16] (fun v16 wc => ∃ (kq : Nat) (x16_2 : Bool), v16 = .bool x16_2 ∧ Aside0 (papermilllaw13_IsoComposes.j0 kq l0 l1 x16_2 = some r) ∧ Aside0 (kq ≤ k) ∧ Aside0 (Below w.heap.size w wc))
 case first =>
  have H := HC3.out
  clear HC3
  by_cases c4 : (l0.length : Int) > 60
  ·rw [if_pos c4] at H
   have c4b0 : decide (60 < (l0.length : Int)) = true := decide_eq_true c4
   have c4b1 : decide (60 < l0.length) = true := decide_eq_true (by omega)
   clear c4
   (first | rw [c4b0] | (simp only [i64_w, i32_w]; rw [c4b0]) | skip)
   have H' := Aside0.mk H
   clear H
   go_wp2
   go_meet
   case rel => exact ⟨_, (true), (by first | rfl | (simp; done) | (simp [*]; done)), H', ⟨by first | omega | exact Nat.le_refl _⟩, ⟨by repeat (first | (with_reducible first | exact HB.out | apply below_alloc | apply pw_below_drewN | apply below_drew1) | exact HB.out)⟩⟩
  ·rw [if_neg c4] at H
   have c4b0 : decide (60 < (l0.length : Int)) = false := decide_eq_false c4
   have c4b1 : decide (60 < l0.length) = false := decide_eq_false (by omega)
   clear c4
   (first | rw [c4b0] | (simp only [i64_w, i32_w]; rw [c4b0]) | skip)
   have H' := Aside0.mk H
   clear H
   go_wp2
   go_meet
   case rel => exact ⟨_, (decide ((l1.length : Int) > 60)), (by first | rfl | (simp; done) | (simp [*]; done)), H', ⟨by first | omega | exact Nat.le_refl _⟩, ⟨by repeat (first | (with_reducible first | exact HB.out | apply below_alloc | apply pw_below_drewN | apply below_drew1) | exact HB.out)⟩⟩
 case rest =>
  clear HC3
  try clear c1
  try clear p2
  try clear c4
  try clear c4b0
  try clear c4b1
  obtain ⟨kq, x16_2, rfl, HA, HJ2, HB⟩ := hcut
  cases kq with
  | zero => exact absurd HA.out (by simp [papermilllaw13_IsoComposes.j0])
  | succ kj2 =>
   have H := HA.out
   clear HA
   simp only [papermilllaw13_IsoComposes.j0] at H
   by_cases c5 : x16_2 = true
   ·subst c5
    have H1 : ((papermilllaw13_awake.f).bind fun t5001 => (some t5001)) = some r := by rw [if_pos rfl] at H; exact H
    clear H
    have H := H1
    clear H1
    replace H := Option.bind_eq_some_iff.mp H
    obtain ⟨t5001, A60, H⟩ := H
    replace H : (some t5001) = some r := H
    have A6 := Aside0.mk A60
    clear A60
    obtain rfl := Option.some.inj H
    go_wp2_with (first | ((with_reducible refine gate_callee (f := 13) rfl ?_); refine goesL_ (some 17) rfl rfl Try.func13 (by kernel_rfl) rfl #[] rfl (by (try simp only [List.map_toArray, List.map_cons, List.map_nil]); first | done | rfl | (simp only [List.length_drop, List.length_take]; rfl)) ?_; (with_reducible refine (papermilllaw13_awake.calls  t5001 _ A6.out).mono ?_); rintro e w7 ⟨rfl, hb⟩; refine ⟨_, rfl, ?_⟩; have n0_ := Aside0.mk (below_step (by repeat (first | (with_reducible first | exact HB.out | apply below_alloc | apply pw_below_drewN | apply below_drew1) | exact HB.out)) hb); clear HB; have HB := n0_; clear n0_; (try clear hb); (try clear hb2); (try clear hk); (try clear hi)))
    go_ret
    exact ⟨by first | rfl | (simp [errW_none, errW_some] <;> rfl) | (simp [*, errW_none, errW_some] <;> rfl), by repeat (first | (with_reducible first | exact HB.out | apply below_alloc | apply pw_below_drewN | apply below_drew1) | exact HB.out)⟩
   ·replace c5 := Bool.eq_false_iff.mpr c5
    subst c5
    have H1 : ((iso_Compose.f l0 l1).bind fun bt5002 => ((papermillref13_Compose.f kj2 l0 l1).bind fun bt5006 => ((papermillref13_Same.f kj2 bt5002.1 bt5006.1).bind fun t5010 => (if t5010 = true then (if bt5002.2 = bt5006.2 then ((papermilllaw13_awake.f).bind fun t5011 => (some t5011)) else (some false)) else (some false))))) = some r := by rw [if_neg (show ¬ (false = true) by decide)] at H; first | exact H | simpa using H
    clear H
    have H := H1
    clear H1
    replace H := Option.bind_eq_some_iff.mp H
    obtain ⟨⟨t5002, t5003⟩, A80, H⟩ := H
    replace H : ((papermillref13_Compose.f kj2 l0 l1).bind fun bt5006 => ((papermillref13_Same.f kj2 t5002 bt5006.1).bind fun t5010 => (if t5010 = true then (if t5003 = bt5006.2 then ((papermilllaw13_awake.f).bind fun t5011 => (some t5011)) else (some false)) else (some false)))) = some r := H
    have A8 := Aside0.mk A80
    clear A80
    replace H := Option.bind_eq_some_iff.mp H
    obtain ⟨⟨t5006, t5007⟩, A90, H⟩ := H
    replace H : ((papermillref13_Same.f kj2 t5002 t5006).bind fun t5010 => (if t5010 = true then (if t5003 = t5007 then ((papermilllaw13_awake.f).bind fun t5011 => (some t5011)) else (some false)) else (some false))) = some r := H
    have A9 := Aside0.mk A90
    clear A90
    replace H := Option.bind_eq_some_iff.mp H
    obtain ⟨t5010, A100, H⟩ := H
    replace H : (if t5010 = true then (if t5003 = t5007 then ((papermilllaw13_awake.f).bind fun t5011 => (some t5011)) else (some false)) else (some false)) = some r := H
    have A10 := Aside0.mk A100
    clear A100
    by_cases c11 : t5010 = true
    ·subst c11
     have H1 : (if t5003 = t5007 then ((papermilllaw13_awake.f).bind fun t5011 => (some t5011)) else (some false)) = some r := by rw [if_pos rfl] at H; exact H
     clear H
     have H := H1
     clear H1
     by_cases c12 : t5003 = t5007
     ·rw [if_pos c12] at H
      have c12b0 : (t5003 == t5007) = true := beq_iff_eq.mpr c12
      have c12b1 : (t5003 != t5007) = false := bne_eq_false_iff_eq.mpr c12
      clear c12
      replace H := Option.bind_eq_some_iff.mp H
      obtain ⟨t5011, A130, H⟩ := H
      replace H : (some t5011) = some r := H
      have A13 := Aside0.mk A130
      clear A130
      obtain rfl := Option.some.inj H
      go_wp2_with (first | ((with_reducible refine gate_callee (f := 18) rfl ?_); refine goesL_ (some 21) rfl rfl Try.func18 (by kernel_rfl) rfl #[.slice A0 l0.length c0, .slice A1 l1.length c1] rfl (by (try simp only [List.map_toArray, List.map_cons, List.map_nil]); first | done | rfl | (simp only [List.length_drop, List.length_take]; rfl)) ?_; (with_reducible refine (iso_Compose.calls _ _ l0 _ _ l1 t5002 t5003 _ ?side1 ?side2 ?side3 ?side4 A8.out).mono ?_); (case side1 => repeat (first | exact (Kd.C_below HR0.out HB.out) | (with_reducible refine Kd.C_alloc ?_ _) | (with_reducible refine Kd.C_drewN ?_ _) | (with_reducible refine Kd.C_drew ?_))); (case side2 => exact HC0.out); (case side3 => repeat (first | exact (Kd.C_below HR1.out HB.out) | (with_reducible refine Kd.C_alloc ?_ _) | (with_reducible refine Kd.C_drewN ?_ _) | (with_reducible refine Kd.C_drew ?_))); (case side4 => exact HC1.out); rintro e w14 ⟨v5004, rfl, ho0, hb⟩; refine ⟨_, rfl, ?_⟩; have n0_ := Aside0.mk (Kd.R_lower ho0 (below_size (by repeat (first | (with_reducible first | exact HB.out | apply below_alloc | apply pw_below_drewN | apply below_drew1) | exact HB.out)))); have n1_ := Aside0.mk (below_step (by repeat (first | (with_reducible first | exact HB.out | apply below_alloc | apply pw_below_drewN | apply below_drew1) | exact HB.out)) hb); clear HB; have HO5005 := n0_; have HB := n1_; clear n0_ n1_; (try clear hb); (try clear hb2); (try clear hk); (try clear hi); (try clear ho0)) | ((with_reducible refine gate_callee (f := 19) rfl ?_); refine goesL_ (some 27) rfl rfl Try.func19 (by kernel_rfl) rfl #[.slice A0 l0.length c0, .slice A1 l1.length c1] rfl (by (try simp only [List.map_toArray, List.map_cons, List.map_nil]); first | done | rfl | (simp only [List.length_drop, List.length_take]; rfl)) ?_; (with_reducible refine (papermillref13_Compose.calls kj2 _ _ l0 _ _ l1 t5006 t5007 _ ?side1 ?side2 ?side3 ?side4 A9.out).mono ?_); (case side1 => repeat (first | exact (Kd.C_below HR0.out HB.out) | (with_reducible refine Kd.C_alloc ?_ _) | (with_reducible refine Kd.C_drewN ?_ _) | (with_reducible refine Kd.C_drew ?_))); (case side2 => exact HC0.out); (case side3 => repeat (first | exact (Kd.C_below HR1.out HB.out) | (with_reducible refine Kd.C_alloc ?_ _) | (with_reducible refine Kd.C_drewN ?_ _) | (with_reducible refine Kd.C_drew ?_))); (case side4 => exact HC1.out); rintro e w15 ⟨v5008, rfl, ho0, hb⟩; refine ⟨_, rfl, ?_⟩; have n0_ := Aside0.mk (Kd.R_elder' (by (with_reducible repeat (first | apply Kd.R_alloc | apply Kd.R_drewN | apply Kd.R_drew)); exact HO5005.out) (Kd.R_base ho0) hb); have n1_ := Aside0.mk (Kd.R_lower (Kd.R_new' ho0 (Kd.R_lt (by (with_reducible repeat (first | apply Kd.R_alloc | apply Kd.R_drewN | apply Kd.R_drew)); exact HO5005.out))) (below_size (by repeat (first | (with_reducible first | exact HB.out | apply below_alloc | apply pw_below_drewN | apply below_drew1) | exact HB.out)))); have n2_ := Aside0.mk (below_step (by repeat (first | (with_reducible first | exact HB.out | apply below_alloc | apply pw_below_drewN | apply below_drew1) | exact HB.out)) hb); clear HO5005; clear HB; have HO5005 := n0_; have HO5009 := n1_; have HB := n2_; clear n0_ n1_ n2_; (try clear hb); (try clear hb2); (try clear hk); (try clear hi); (try clear ho0); obtain ⟨Ao16, co16, eo16⟩ := Kd.R_slice HO5005.out; subst eo16; obtain ⟨Ao17, co17, eo17⟩ := Kd.R_slice HO5009.out; subst eo17) | ((with_reducible refine gate_callee (f := 20) rfl ?_); refine goesL_ (some 32) rfl rfl Try.func20 (by kernel_rfl) rfl #[.slice Ao16 t5002.length co16, .slice Ao17 t5006.length co17] rfl (by (try simp only [List.map_toArray, List.map_cons, List.map_nil]); first | done | rfl | (simp only [List.length_drop, List.length_take]; rfl)) ?_; (with_reducible refine (papermillref13_Same.calls kj2 _ _ t5002 _ _ t5006 true _ ?side1 ?side2 ?side3 ?side4 A10.out).mono ?_); (case side1 => repeat (first | exact (Kd.R_reads' HO5005.out).2.2 | (with_reducible refine Kd.C_alloc ?_ _) | (with_reducible refine Kd.C_drewN ?_ _) | (with_reducible refine Kd.C_drew ?_))); (case side2 => exact (Kd.R_reads' HO5005.out).2.1); (case side3 => repeat (first | exact (Kd.R_reads' HO5009.out).2.2 | (with_reducible refine Kd.C_alloc ?_ _) | (with_reducible refine Kd.C_drewN ?_ _) | (with_reducible refine Kd.C_drew ?_))); (case side4 => exact (Kd.R_reads' HO5009.out).2.1); rintro e w' ⟨rfl, ⟨nd, rfl⟩⟩; refine ⟨_, rfl, ?_⟩) | (go_at_call 13; (with_reducible refine (papermilllaw13_awake.calls  t5011 _ A13.out).mono ?_); rintro e w18 ⟨rfl, hb⟩; have n0_ := Aside0.mk (Kd.R_below (by (with_reducible repeat (first | apply Kd.R_alloc | apply Kd.R_drewN | apply Kd.R_drew)); exact HO5005.out) hb); have n1_ := Aside0.mk (Kd.R_below (by (with_reducible repeat (first | apply Kd.R_alloc | apply Kd.R_drewN | apply Kd.R_drew)); exact HO5009.out) hb); have n2_ := Aside0.mk (below_step (by repeat (first | (with_reducible first | exact HB.out | apply below_alloc | apply pw_below_drewN | apply below_drew1) | exact HB.out)) hb); clear HO5005; clear HO5009; clear HB; have HO5005 := n0_; have HO5009 := n1_; have HB := n2_; clear n0_ n1_ n2_; (try clear hb); (try clear hb2); (try clear hk); (try clear hi)))
      go_ret
      exact ⟨by first | rfl | (simp [errW_none, errW_some] <;> rfl) | (simp [*, errW_none, errW_some] <;> rfl), by repeat (first | (with_reducible first | exact HB.out | apply below_alloc | apply pw_below_drewN | apply below_drew1) | exact HB.out)⟩
     ·rw [if_neg c12] at H
      have c12b0 : (t5003 == t5007) = false := beq_eq_false_iff_ne.mpr c12
      have c12b1 : (t5003 != t5007) = true := bne_iff_ne.mpr c12
      obtain rfl := Option.some.inj H
      go_wp2_with (first | ((with_reducible refine gate_callee (f := 18) rfl ?_); refine goesL_ (some 21) rfl rfl Try.func18 (by kernel_rfl) rfl #[.slice A0 l0.length c0, .slice A1 l1.length c1] rfl (by (try simp only [List.map_toArray, List.map_cons, List.map_nil]); first | done | rfl | (simp only [List.length_drop, List.length_take]; rfl)) ?_; (with_reducible refine (iso_Compose.calls _ _ l0 _ _ l1 t5002 t5003 _ ?side1 ?side2 ?side3 ?side4 A8.out).mono ?_); (case side1 => repeat (first | exact (Kd.C_below HR0.out HB.out) | (with_reducible refine Kd.C_alloc ?_ _) | (with_reducible refine Kd.C_drewN ?_ _) | (with_reducible refine Kd.C_drew ?_))); (case side2 => exact HC0.out); (case side3 => repeat (first | exact (Kd.C_below HR1.out HB.out) | (with_reducible refine Kd.C_alloc ?_ _) | (with_reducible refine Kd.C_drewN ?_ _) | (with_reducible refine Kd.C_drew ?_))); (case side4 => exact HC1.out); rintro e w19 ⟨v5004, rfl, ho0, hb⟩; refine ⟨_, rfl, ?_⟩; have n0_ := Aside0.mk (Kd.R_lower ho0 (below_size (by repeat (first | (with_reducible first | exact HB.out | apply below_alloc | apply pw_below_drewN | apply below_drew1) | exact HB.out)))); have n1_ := Aside0.mk (below_step (by repeat (first | (with_reducible first | exact HB.out | apply below_alloc | apply pw_below_drewN | apply below_drew1) | exact HB.out)) hb); clear HB; have HO5005 := n0_; have HB := n1_; clear n0_ n1_; (try clear hb); (try clear hb2); (try clear hk); (try clear hi); (try clear ho0)) | ((with_reducible refine gate_callee (f := 19) rfl ?_); refine goesL_ (some 27) rfl rfl Try.func19 (by kernel_rfl) rfl #[.slice A0 l0.length c0, .slice A1 l1.length c1] rfl (by (try simp only [List.map_toArray, List.map_cons, List.map_nil]); first | done | rfl | (simp only [List.length_drop, List.length_take]; rfl)) ?_; (with_reducible refine (papermillref13_Compose.calls kj2 _ _ l0 _ _ l1 t5006 t5007 _ ?side1 ?side2 ?side3 ?side4 A9.out).mono ?_); (case side1 => repeat (first | exact (Kd.C_below HR0.out HB.out) | (with_reducible refine Kd.C_alloc ?_ _) | (with_reducible refine Kd.C_drewN ?_ _) | (with_reducible refine Kd.C_drew ?_))); (case side2 => exact HC0.out); (case side3 => repeat (first | exact (Kd.C_below HR1.out HB.out) | (with_reducible refine Kd.C_alloc ?_ _) | (with_reducible refine Kd.C_drewN ?_ _) | (with_reducible refine Kd.C_drew ?_))); (case side4 => exact HC1.out); rintro e w20 ⟨v5008, rfl, ho0, hb⟩; refine ⟨_, rfl, ?_⟩; have n0_ := Aside0.mk (Kd.R_elder' (by (with_reducible repeat (first | apply Kd.R_alloc | apply Kd.R_drewN | apply Kd.R_drew)); exact HO5005.out) (Kd.R_base ho0) hb); have n1_ := Aside0.mk (Kd.R_lower (Kd.R_new' ho0 (Kd.R_lt (by (with_reducible repeat (first | apply Kd.R_alloc | apply Kd.R_drewN | apply Kd.R_drew)); exact HO5005.out))) (below_size (by repeat (first | (with_reducible first | exact HB.out | apply below_alloc | apply pw_below_drewN | apply below_drew1) | exact HB.out)))); have n2_ := Aside0.mk (below_step (by repeat (first | (with_reducible first | exact HB.out | apply below_alloc | apply pw_below_drewN | apply below_drew1) | exact HB.out)) hb); clear HO5005; clear HB; have HO5005 := n0_; have HO5009 := n1_; have HB := n2_; clear n0_ n1_ n2_; (try clear hb); (try clear hb2); (try clear hk); (try clear hi); (try clear ho0); obtain ⟨Ao21, co21, eo21⟩ := Kd.R_slice HO5005.out; subst eo21; obtain ⟨Ao22, co22, eo22⟩ := Kd.R_slice HO5009.out; subst eo22) | ((with_reducible refine gate_callee (f := 20) rfl ?_); refine goesL_ (some 32) rfl rfl Try.func20 (by kernel_rfl) rfl #[.slice Ao21 t5002.length co21, .slice Ao22 t5006.length co22] rfl (by (try simp only [List.map_toArray, List.map_cons, List.map_nil]); first | done | rfl | (simp only [List.length_drop, List.length_take]; rfl)) ?_; (with_reducible refine (papermillref13_Same.calls kj2 _ _ t5002 _ _ t5006 true _ ?side1 ?side2 ?side3 ?side4 A10.out).mono ?_); (case side1 => repeat (first | exact (Kd.R_reads' HO5005.out).2.2 | (with_reducible refine Kd.C_alloc ?_ _) | (with_reducible refine Kd.C_drewN ?_ _) | (with_reducible refine Kd.C_drew ?_))); (case side2 => exact (Kd.R_reads' HO5005.out).2.1); (case side3 => repeat (first | exact (Kd.R_reads' HO5009.out).2.2 | (with_reducible refine Kd.C_alloc ?_ _) | (with_reducible refine Kd.C_drewN ?_ _) | (with_reducible refine Kd.C_drew ?_))); (case side4 => exact (Kd.R_reads' HO5009.out).2.1); rintro e w' ⟨rfl, ⟨nd, rfl⟩⟩; refine ⟨_, rfl, ?_⟩))
      go_ret
      exact ⟨by first | rfl | (simp [errW_none, errW_some] <;> rfl) | (simp [*, errW_none, errW_some] <;> rfl), by repeat (first | (with_reducible first | exact HB.out | apply below_alloc | apply pw_below_drewN | apply below_drew1) | exact HB.out)⟩
    ·replace c11 := Bool.eq_false_iff.mpr c11
     subst c11
     have H1 : (some false) = some r := by rw [if_neg (show ¬ (false = true) by decide)] at H; first | exact H | simpa using H
     clear H
     have H := H1
     clear H1
     obtain rfl := Option.some.inj H
     go_wp2_with (first | ((with_reducible refine gate_callee (f := 18) rfl ?_); refine goesL_ (some 21) rfl rfl Try.func18 (by kernel_rfl) rfl #[.slice A0 l0.length c0, .slice A1 l1.length c1] rfl (by (try simp only [List.map_toArray, List.map_cons, List.map_nil]); first | done | rfl | (simp only [List.length_drop, List.length_take]; rfl)) ?_; (with_reducible refine (iso_Compose.calls _ _ l0 _ _ l1 t5002 t5003 _ ?side1 ?side2 ?side3 ?side4 A8.out).mono ?_); (case side1 => repeat (first | exact (Kd.C_below HR0.out HB.out) | (with_reducible refine Kd.C_alloc ?_ _) | (with_reducible refine Kd.C_drewN ?_ _) | (with_reducible refine Kd.C_drew ?_))); (case side2 => exact HC0.out); (case side3 => repeat (first | exact (Kd.C_below HR1.out HB.out) | (with_reducible refine Kd.C_alloc ?_ _) | (with_reducible refine Kd.C_drewN ?_ _) | (with_reducible refine Kd.C_drew ?_))); (case side4 => exact HC1.out); rintro e w23 ⟨v5004, rfl, ho0, hb⟩; refine ⟨_, rfl, ?_⟩; have n0_ := Aside0.mk (Kd.R_lower ho0 (below_size (by repeat (first | (with_reducible first | exact HB.out | apply below_alloc | apply pw_below_drewN | apply below_drew1) | exact HB.out)))); have n1_ := Aside0.mk (below_step (by repeat (first | (with_reducible first | exact HB.out | apply below_alloc | apply pw_below_drewN | apply below_drew1) | exact HB.out)) hb); clear HB; have HO5005 := n0_; have HB := n1_; clear n0_ n1_; (try clear hb); (try clear hb2); (try clear hk); (try clear hi); (try clear ho0)) | ((with_reducible refine gate_callee (f := 19) rfl ?_); refine goesL_ (some 27) rfl rfl Try.func19 (by kernel_rfl) rfl #[.slice A0 l0.length c0, .slice A1 l1.length c1] rfl (by (try simp only [List.map_toArray, List.map_cons, List.map_nil]); first | done | rfl | (simp only [List.length_drop, List.length_take]; rfl)) ?_; (with_reducible refine (papermillref13_Compose.calls kj2 _ _ l0 _ _ l1 t5006 t5007 _ ?side1 ?side2 ?side3 ?side4 A9.out).mono ?_); (case side1 => repeat (first | exact (Kd.C_below HR0.out HB.out) | (with_reducible refine Kd.C_alloc ?_ _) | (with_reducible refine Kd.C_drewN ?_ _) | (with_reducible refine Kd.C_drew ?_))); (case side2 => exact HC0.out); (case side3 => repeat (first | exact (Kd.C_below HR1.out HB.out) | (with_reducible refine Kd.C_alloc ?_ _) | (with_reducible refine Kd.C_drewN ?_ _) | (with_reducible refine Kd.C_drew ?_))); (case side4 => exact HC1.out); rintro e w24 ⟨v5008, rfl, ho0, hb⟩; refine ⟨_, rfl, ?_⟩; have n0_ := Aside0.mk (Kd.R_elder' (by (with_reducible repeat (first | apply Kd.R_alloc | apply Kd.R_drewN | apply Kd.R_drew)); exact HO5005.out) (Kd.R_base ho0) hb); have n1_ := Aside0.mk (Kd.R_lower (Kd.R_new' ho0 (Kd.R_lt (by (with_reducible repeat (first | apply Kd.R_alloc | apply Kd.R_drewN | apply Kd.R_drew)); exact HO5005.out))) (below_size (by repeat (first | (with_reducible first | exact HB.out | apply below_alloc | apply pw_below_drewN | apply below_drew1) | exact HB.out)))); have n2_ := Aside0.mk (below_step (by repeat (first | (with_reducible first | exact HB.out | apply below_alloc | apply pw_below_drewN | apply below_drew1) | exact HB.out)) hb); clear HO5005; clear HB; have HO5005 := n0_; have HO5009 := n1_; have HB := n2_; clear n0_ n1_ n2_; (try clear hb); (try clear hb2); (try clear hk); (try clear hi); (try clear ho0); obtain ⟨Ao25, co25, eo25⟩ := Kd.R_slice HO5005.out; subst eo25; obtain ⟨Ao26, co26, eo26⟩ := Kd.R_slice HO5009.out; subst eo26) | ((with_reducible refine gate_callee (f := 20) rfl ?_); refine goesL_ (some 32) rfl rfl Try.func20 (by kernel_rfl) rfl #[.slice Ao25 t5002.length co25, .slice Ao26 t5006.length co26] rfl (by (try simp only [List.map_toArray, List.map_cons, List.map_nil]); first | done | rfl | (simp only [List.length_drop, List.length_take]; rfl)) ?_; (with_reducible refine (papermillref13_Same.calls kj2 _ _ t5002 _ _ t5006 false _ ?side1 ?side2 ?side3 ?side4 A10.out).mono ?_); (case side1 => repeat (first | exact (Kd.R_reads' HO5005.out).2.2 | (with_reducible refine Kd.C_alloc ?_ _) | (with_reducible refine Kd.C_drewN ?_ _) | (with_reducible refine Kd.C_drew ?_))); (case side2 => exact (Kd.R_reads' HO5005.out).2.1); (case side3 => repeat (first | exact (Kd.R_reads' HO5009.out).2.2 | (with_reducible refine Kd.C_alloc ?_ _) | (with_reducible refine Kd.C_drewN ?_ _) | (with_reducible refine Kd.C_drew ?_))); (case side4 => exact (Kd.R_reads' HO5009.out).2.1); rintro e w' ⟨rfl, ⟨nd, rfl⟩⟩; refine ⟨_, rfl, ?_⟩))
     go_ret
     exact ⟨by first | rfl | (simp [errW_none, errW_some] <;> rfl) | (simp [*, errW_none, errW_some] <;> rfl), by repeat (first | (with_reducible first | exact HB.out | apply below_alloc | apply pw_below_drewN | apply below_drew1) | exact HB.out)⟩

end Go.Proofs.Ytcnkmdonbpgjiaa.G

namespace Go.Proofs.Ytcnkmdonbpgjiaa.G
open Go.RowKit Go.Proofs.YtcnkmdonbpgjiaaW.PrintWords Go.Proofs.YtcnkmdonbpgjiaaW.PrintLast Go.Proofs.YtcnkmdonbpgjiaaW.PrintMore
set_option linter.unusedVariables false
set_option linter.unusedSimpArgs false
def lowT (t : S32) : Prop := (-1099511627776 ≤ t.f0 ∧ t.f0 ≤ 1099511627776) ∧ 1 ≤ t.f1 ∧ t.f1 ≤ 1125899906842623
theorem rcut_is (r : S32) (x n : Int) (h : nearR r) (h0 : -1099511627776 ≤ x) (h1 : x ≤ 1099511627776) : papermillref13_cut.f r.f0 r.f1 r.f2 x n = some ((partR r x n).f0, (partR r x n).f1, (partR r x n).f2) := part_is r x n h h0 h1
theorem rmore_j1 (k0 : Unit) (l : List S32) (m : Int) (s : Int) (r t : S32) (hn : nearR r) (hl : l.length ≤ 20000000000) : Ends (fun k => papermillref13_more.j1 k l m s true r.f0 r.f1 r.f2 t.f0 t.f1 t.f2) (l ++ [partR r 0 r.f1]) := by
  refine Ends.succ ?_
  simp only [papermillref13_more.j1]
  exact Ends.pos (by simp) (Ends.bind (Ends.const (rcut_is r 0 r.f1 hn (by omega) (by omega))) (Ends.pos (by omega) (Ends.ret _)))
theorem joins_z1 {r t : S32} (h : goes r t = 1) : (if t.f1 > 1 then (t.f2 != (goes r t == -1)) else false) = !decide (joins r t) := by
  have hj : joins r t ↔ (t.f1 > 1 → t.f2 = false) := by
    constructor
    · intro k h2; have := k.2 h2; rw [← this]; simp [h]
    · intro k; exact ⟨.inl h, fun h2 => by rw [k h2]; simp [h]⟩
  rw [show (goes r t == -1) = false by rw [h]; rfl]
  by_cases h2 : t.f1 > 1
  · rw [if_pos h2]
    cases hb : t.f2 with
    | false => rw [decide_eq_true (hj.mpr (fun _ => hb))]; rfl
    | true => rw [decide_eq_false (fun k => by have := hj.mp k h2; rw [hb] at this; cases this)]; rfl
  · rw [if_neg h2, decide_eq_true (hj.mpr (fun k => absurd k h2))]; rfl
theorem joins_zm {r t : S32} (h : goes r t = -1) : (if t.f1 > 1 then (t.f2 != (goes r t == -1)) else false) = !decide (joins r t) := by
  have hj : joins r t ↔ (t.f1 > 1 → t.f2 = true) := by
    constructor
    · intro k h2; have := k.2 h2; rw [← this]; simp [h]
    · intro k; exact ⟨.inr h, fun h2 => by rw [k h2]; simp [h]⟩
  rw [show (goes r t == -1) = true by rw [h]; rfl]
  by_cases h2 : t.f1 > 1
  · rw [if_pos h2]
    cases hb : t.f2 with
    | true => rw [decide_eq_true (hj.mpr (fun _ => hb))]; rfl
    | false => rw [decide_eq_false (fun k => by have := hj.mp k h2; rw [hb] at this; cases this)]; rfl
  · rw [if_neg h2, decide_eq_true (hj.mpr (fun k => absurd k h2))]; rfl
theorem rmore_last (d : List S32) (t r : S32) (hl : (d ++ [t]).length ≤ 20000000000) (ht : lowT t) (hn : nearR r) (h1 : 1 ≤ r.f1) (q : List S32)
    (hj1 : ∀ z : Bool, z = !decide (joins r t) → Ends (fun k => papermillref13_more.j1 k (d ++ [t]) (d.length : Int) (goes r t) z r.f0 r.f1 r.f2 t.f0 t.f1 t.f2) q) : Ends (fun k => papermillref13_more.l0 k (d ++ [t]) r.f0 r.f1 r.f2) q := by
  refine Ends.succ ?_
  have hlen : (d ++ [t]).length = d.length + 1 := by simp
  have hw : wrap64 (((d ++ [t]).length : Int) - 1) = (d.length : Int) := by unfold wrap64; omega
  have hrd : rd_T32 (d ++ [t]) (d.length : Int) = t := by simp [rd_T32]
  have hlo := ht.1
  have hlo2 := ht.2
  have hnn := hn.1
  have hnn2 := hn.2.1
  have ew : wrap64 (t.f1 - 1) = t.f1 - 1 := by unfold wrap64; omega
  have eg : wrap64 (r.f0 - img t (t.f1 - 1)) = goes r t := by
    unfold wrap64 goes img
    split <;> omega
  have ei : papermillref13_image.f t.f0 t.f1 t.f2 (t.f1 - 1) = some (img t (t.f1 - 1)) := image_far t (t.f1 - 1) ⟨hlo, hlo2.1, by omega⟩ (by omega) (by omega)
  simp only [papermillref13_more.l0, hw, hrd, ew, ei, Option.bind_some, eg]
  refine Ends.pos (by omega) (Ends.neg (by omega) (Ends.pos (by omega) (Ends.pos (by omega) ?_)))
  by_cases e1 : goes r t = 1
  · refine Ends.pos e1 ?_
    have hz := joins_z1 e1
    by_cases e2 : t.f1 > 1
    · rw [if_pos e2] at hz; exact Ends.pos e2 (hj1 _ hz)
    · rw [if_neg e2] at hz; exact Ends.neg e2 (hj1 _ hz)
  · refine Ends.neg e1 ?_
    by_cases e3 : goes r t = -1
    · refine Ends.pos e3 ?_
      have hz := joins_zm e3
      by_cases e2 : t.f1 > 1
      · rw [if_pos e2] at hz; exact Ends.pos e2 (hj1 _ hz)
      · rw [if_neg e2] at hz; exact Ends.neg e2 (hj1 _ hz)
    · exact Ends.neg e3 (hj1 _ (by rw [decide_eq_false (fun k => by rcases k.1 with h | h; exact e1 h; exact e3 h)]; rfl))
theorem rmore_new (d : List S32) (t r : S32) (hl : (d ++ [t]).length ≤ 20000000000) (ht : lowT t) (hn : nearR r) (h1 : 1 ≤ r.f1) (hj : ¬ joins r t) : Ends (fun k => papermillref13_more.l0 k (d ++ [t]) r.f0 r.f1 r.f2) (d ++ [t] ++ [partR r 0 r.f1]) :=
  rmore_last d t r hl ht hn h1 _ (fun z hz => by
    have : z = true := by rw [hz]; simpa using hj
    rw [this]
    exact rmore_j1 () (d ++ [t]) _ _ r t hn hl)
theorem rmore_l0 (l : List S32) (r : S32) (hr : sane r) (hl : l.length ≤ 19999999990) (hlow : ∀ t ∈ l, lowT t ∧ t.f1 ≤ 1125899906842622) : Ends (fun k => papermillref13_more.l0 k l r.f0 r.f1 r.f2) (addOf l r) := by
  by_cases h0 : r.f1 < 1
  · refine Ends.succ ?_
    simp only [papermillref13_more.l0]
    rw [addOf, if_pos h0]
    exact Ends.neg (by omega) (Ends.ret _)
  have h1 : 1 ≤ r.f1 := by omega
  rcases List.eq_nil_or_concat l with rfl | ⟨d, t, rfl⟩
  · refine Ends.succ ?_
    simp only [papermillref13_more.l0]
    rw [addOf, if_neg h0]
    exact Ends.pos (by omega) (Ends.pos (by simp only [List.length_nil]; unfold wrap64; omega) (Ends.bind (Ends.const (rcut_is r 0 r.f1 hr.near (by omega) (by omega))) (Ends.pos (by simp) (Ends.ret _))))
  · rw [List.concat_eq_append] at *
    obtain ⟨ht, ht9⟩ := hlow t (by simp)
    have hset : ∀ x, (d ++ [t]).set (d.length : Int).toNat x = d ++ [x] := fun x => by simp
    by_cases hj : joins r t
    · have hadd : addOf (d ++ [t]) r = if r.f1 > 1 ∧ r.f2 ≠ decide (goes r t = -1) then d ++ [⟨t.f0, t.f1 + 1, decide (goes r t = -1)⟩] ++ [partR r 1 (r.f1 - 1)] else d ++ [⟨t.f0, t.f1 + r.f1, decide (goes r t = -1)⟩] := by
        rw [addOf, if_neg h0]
        simp only [List.reverse_append, List.reverse_cons, List.reverse_nil, List.nil_append, List.singleton_append, addR, if_pos hj]
        split <;> simp
      refine rmore_last d t r (by omega) ht hr.near h1 _ (fun z hz => ?_)
      have : z = false := by rw [hz]; simpa using hj
      rw [this]
      have hlo2 := ht.2
      have hs3 := hr.2.2
      have e1 : wrap64 (t.f1 + 1) = t.f1 + 1 := by unfold wrap64; omega
      have e2 : wrap64 (t.f1 + r.f1) = t.f1 + r.f1 := by unfold wrap64; omega
      have e3 : wrap64 (r.f1 - 1) = r.f1 - 1 := by unfold wrap64; omega
      have eb : (goes r t == -1) = decide (goes r t = -1) := rfl
      have hlen : (d ++ [t]).length = d.length + 1 := by simp
      have j2f : ¬ (r.f1 > 1 ∧ r.f2 ≠ decide (goes r t = -1)) → Ends (fun k => papermillref13_more.j2 k (d ++ [t]) (d.length : Int) (goes r t) r.f1 false r.f0 r.f1 r.f2 t.f0 t.f1 t.f2) (addOf (d ++ [t]) r) := fun hc => by
        refine Ends.succ ?_
        simp only [papermillref13_more.j2, Option.bind_some, hset, e2, eb]
        rw [hadd, if_neg hc]
        exact Ends.neg (by simp) (Ends.pos (by omega) (Ends.pos (by omega) (Ends.pos (by simp) (Ends.ret _))))
      refine Ends.succ ?_
      simp only [papermillref13_more.j1]
      refine Ends.neg (by simp) ?_
      by_cases h2 : r.f1 > 1
      · refine Ends.pos h2 ?_
        by_cases hf : r.f2 = decide (goes r t = -1)
        · have hb : (r.f2 != (goes r t == -1)) = false := by rw [eb, ← hf]; simp
          rw [hb]
          exact j2f (fun k => k.2 hf)
        · have hb : (r.f2 != (goes r t == -1)) = true := by rw [eb]; simpa using hf
          rw [hb]
          refine Ends.succ ?_
          simp only [papermillref13_more.j2, Option.bind_some, hset, e1, e3, eb]
          have hp := rcut_is r 1 (r.f1 - 1) hr.near (by omega) (by omega)
          refine Ends.pos (by simp) (Ends.pos (by omega) (Ends.pos (by omega) (Ends.neg (by omega) (Ends.bind (Ends.const hp) ?_))))
          rw [hadd, if_pos ⟨h2, hf⟩]
          exact (rmore_new d ⟨t.f0, t.f1 + 1, decide (goes r t = -1)⟩ (partR r 1 (r.f1 - 1)) (by simp at hl ⊢; omega) ⟨ht.1, by dsimp only; omega, by dsimp only; omega⟩ (hr.part (by omega) (by omega) (by omega)) (by simp only [partR]; omega) (not_joins r t ht.2.1 hj hf _)).congr (by rw [show (partR r 1 (r.f1 - 1)).f1 = r.f1 - 1 from rfl, partR_part])
      · exact Ends.neg h2 (j2f (fun k => h2 k.1))
    · have hadd : addOf (d ++ [t]) r = d ++ [t] ++ [partR r 0 r.f1] := by
        rw [addOf, if_neg h0]
        simp only [List.reverse_append, List.reverse_cons, List.reverse_nil, List.nil_append, List.singleton_append, addR, if_neg hj]
        simp
      rw [hadd]
      exact rmore_new d t r (by omega) ht hr.near h1 hj
theorem rmore_ends (l : List S32) (r : S32) (hr : sane r) (hl : l.length ≤ 19999999990) (hlow : ∀ t ∈ l, lowT t ∧ t.f1 ≤ 1125899906842622) : Ends (fun k => papermillref13_more.f k l r.f0 r.f1 r.f2) (addOf l r) := by
  unfold papermillref13_more.f
  simp only [Option.bind_some, List.nil_append]
  exact Ends.pos (by simp; omega) (rmore_l0 l r hr hl hlow)
end Go.Proofs.Ytcnkmdonbpgjiaa.G

namespace Go.Proofs.Ytcnkmdonbpgjiaa.G
open Go.RowKit Go.Proofs.YtcnkmdonbpgjiaaW.PrintWords Go.Proofs.YtcnkmdonbpgjiaaW.PrintLast Go.Proofs.YtcnkmdonbpgjiaaW.PrintMore
set_option linter.unusedVariables false
set_option linter.unusedSimpArgs false
theorem rgood_ends (r : S32) : Ends (fun k => papermillref13_good.f k r.f0 r.f1 r.f2) (decide (¬ badR r)) := by
  have key : ∀ z : Bool, z = decide (r.f1 < 1 ∨ r.f1 > 17179869184 ∨ r.f0 < 0 ∨ r.f0 ≥ 17179869184) → Ends (fun k => papermillref13_good.j0 k z r.f0 r.f1 r.f2) (decide (¬ badR r)) := fun z hz => by
    refine Ends.succ ?_
    simp only [papermillref13_good.j0]
    by_cases hb : r.f1 < 1 ∨ r.f1 > 17179869184 ∨ r.f0 < 0 ∨ r.f0 ≥ 17179869184
    · exact Ends.pos (by rw [hz]; simpa using hb) ((Ends.ret false).congr (by symm; rw [decide_eq_false_iff_not, Classical.not_not]; unfold badR; omega))
    · refine Ends.neg (by rw [hz]; simpa using hb) ?_
      cases hf : r.f2 with
      | true =>
        have ew : wrap64 (wrap64 (r.f0 - r.f1) + 1) = r.f0 - r.f1 + 1 := by
          have : wrap64 (r.f0 - r.f1) = r.f0 - r.f1 := by unfold wrap64; omega
          rw [this]; unfold wrap64; omega
        refine Ends.pos rfl ((Ends.ret _).congr ?_)
        rw [ew]
        unfold badR
        rw [decide_eq_decide]
        simp [hf]
        omega
      | false =>
        have ew : wrap64 (r.f0 + r.f1) = r.f0 + r.f1 := by unfold wrap64; omega
        refine Ends.neg (by simp) ((Ends.ret _).congr ?_)
        rw [ew]
        unfold badR
        rw [decide_eq_decide]
        simp [hf]
        omega
  unfold papermillref13_good.f
  by_cases c1 : r.f1 < 1
  · exact Ends.pos c1 (key true (by simp [c1]))
  · refine Ends.neg c1 ?_
    by_cases c2 : r.f1 > 17179869184
    · exact Ends.pos c2 (key true (by simp [c2]))
    · refine Ends.neg c2 ?_
      by_cases c3 : r.f0 < 0
      · exact Ends.pos c3 (key true (by simp [c3]))
      · exact Ends.neg c3 (key _ (by simp [c1, c2, c3]))
theorem rlength_l0 (l : List S32) (hl : l.length ≤ 65536) (hv : ∀ r ∈ l, 0 ≤ r.f1 ∧ r.f1 ≤ 17179869184) : ∀ (d i : Nat) (n : Int), l.length - i = d → i ≤ l.length → 0 ≤ n → n ≤ i * 17179869184 → Ends (fun k => papermillref13_length.l0 k l n (i : Int)) (n + tot13 (l.drop i)) := by
  intro d
  induction d with
  | zero =>
    intro i n hd hi h0 h1
    refine Ends.succ ?_
    simp only [papermillref13_length.l0]
    rw [List.drop_of_length_le (by omega)]
    exact Ends.neg (by omega) ((Ends.ret _).congr (by simp [tot13]))
  | succ d ih =>
    intro i n hd hi h0 h1
    refine Ends.succ ?_
    have hx := hv (rd_T32 l (i : Int)) (by rw [rdR l i (by omega)]; exact List.getElem_mem _)
    rw [dropR l i (by omega), tot13_cons]
    simp only [papermillref13_length.l0, wrap_nat i (by omega)]
    generalize rd_T32 l (i : Int) = r at *
    have ew : wrap64 (n + r.f1) = n + r.f1 := by unfold wrap64; omega
    rw [ew]
    exact Ends.pos (by omega) (Ends.pos (by omega) ((ih (i + 1) (n + r.f1) (by omega) (by omega) (by omega) (by omega)).congr (by rw [Int.add_assoc])))
theorem rlength_ends (l : List S32) (hl : l.length ≤ 65536) (hv : ∀ r ∈ l, 0 ≤ r.f1 ∧ r.f1 ≤ 17179869184) : Ends (fun k => papermillref13_length.f k l) (tot13 l) := by
  unfold papermillref13_length.f
  exact (rlength_l0 l hl hv _ 0 0 rfl (by omega) (by omega) (by omega)).congr (by simp)
theorem rcheck_l0 (l : List S32) (hl : l.length ≤ 256) : ∀ (d i : Nat), l.length - i = d → i ≤ l.length → anyBad (l.take i) = false → Ends (fun k => papermillref13_Check.l0 k l (i : Int)) (if anyBad l = true then 1 else if tot13 l > 17179869184 then 21 else 0) := by
  intro d
  induction d with
  | zero =>
    intro i hd hi hn
    refine Ends.succ ?_
    simp only [papermillref13_Check.l0]
    rw [List.take_of_length_le (by omega)] at hn
    have hg : ∀ r ∈ l, ¬ badR r := fun r hr hb => by
      have : anyBad l = true := List.any_eq_true.mpr ⟨r, hr, by simpa using hb⟩
      rw [hn] at this; cases this
    refine Ends.neg (by omega) (Ends.bind (rlength_ends l (by omega) (fun r hr => by have := fit_of (hg r hr); unfold fitR at this; omega)) ?_)
    by_cases h : tot13 l > 17179869184
    · exact Ends.pos h ((Ends.ret 21).congr (by rw [hn, if_neg (by simp), if_pos h]))
    · exact Ends.neg h ((Ends.ret 0).congr (by rw [hn, if_neg (by simp), if_neg h]))
  | succ d ih =>
    intro i hd hi hn
    refine Ends.succ ?_
    simp only [papermillref13_Check.l0, wrap_nat i (by omega)]
    have hmem : rd_T32 l (i : Int) ∈ l := by rw [rdR l i (by omega)]; exact List.getElem_mem _
    have htk : l.take (i + 1) = l.take i ++ [rd_T32 l (i : Int)] := by rw [List.take_succ_eq_append_getElem (by omega : i < l.length), rdR l i (by omega)]
    generalize rd_T32 l (i : Int) = r at *
    refine Ends.pos (by omega) (Ends.pos (by omega) (Ends.bind (rgood_ends r) ?_))
    by_cases hb : badR r
    · have : anyBad l = true := List.any_eq_true.mpr ⟨r, hmem, by simpa using hb⟩
      rw [if_pos this]
      exact Ends.neg (by simpa using hb) (Ends.ret _)
    · exact Ends.pos (by simpa using hb) (ih (i + 1) (by omega) (by omega) (by rw [htk]; simp only [anyBad, List.any_append] at hn ⊢; rw [hn]; simpa using hb))
theorem rcheck_ends (l : List S32) : Ends (fun k => papermillref13_Check.f k l) (check13 l) := by
  unfold papermillref13_Check.f check13
  by_cases h : l.length > 256
  · rw [if_pos h]; exact Ends.pos (by omega) (Ends.ret _)
  · rw [if_neg h]
    exact Ends.neg (by omega) (rcheck_l0 l (by omega) _ 0 rfl (by omega) (by simp [anyBad]))
end Go.Proofs.Ytcnkmdonbpgjiaa.G

namespace Go.Proofs.Ytcnkmdonbpgjiaa.G
open Go.RowKit Go.Proofs.YtcnkmdonbpgjiaaW.PrintWords Go.Proofs.YtcnkmdonbpgjiaaW.PrintLast Go.Proofs.YtcnkmdonbpgjiaaW.PrintMore
set_option linter.unusedVariables false
set_option linter.unusedSimpArgs false
def fitX (xs : List Int) : Prop := ∀ x ∈ xs, 0 ≤ x ∧ x < 17179869184
theorem img_in {r : S32} (h : ¬ badR r) (i : Int) (h0 : 0 ≤ i) (h1 : i < r.f1) : 0 ≤ img r i ∧ img r i < 17179869184 := by
  unfold badR at h
  unfold img
  cases hb : r.f2 <;> simp [hb] at h ⊢ <;> omega
theorem sem_fit {l : List S32} (h : ∀ r ∈ l, ¬ badR r) : fitX (sem l) := by
  intro x hx
  obtain ⟨r, hr, hx⟩ := List.mem_flatMap.mp hx
  simp only [imgs, List.mem_map, List.mem_range] at hx
  obtain ⟨i, hi, rfl⟩ := hx
  exact img_in (h r hr) i (by omega) (by omega)
theorem mem_sem {l : List S32} {t : S32} (h : t ∈ l) (i : Nat) (hi : (i : Int) < t.f1) : img t i ∈ sem l := by
  refine List.mem_flatMap.mpr ⟨t, h, ?_⟩
  exact List.mem_iff_getElem?.mpr ⟨i, imgs_get t i hi⟩
theorem len_sem_mem {l : List S32} {t : S32} (h : t ∈ l) : t.f1.toNat ≤ (sem l).length := by
  induction l with
  | nil => simp at h
  | cons r l ih =>
    rw [sem_cons, List.length_append, imgs_len]
    rcases List.mem_cons.mp h with rfl | h
    · omega
    · have := ih h; omega
theorem check_nrm (xs : List Int) (h : fitX xs) (hl : xs.length ≤ 17179869184) (hn : (nrm xs).length ≤ 256) : check13 (nrm xs) = 0 := by
  have hok := nrm_ok xs
  have hg : ∀ t ∈ nrm xs, ¬ badR t := by
    intro t ht
    have h1 := (hok t ht).1
    have m0 := mem_sem ht 0 (by omega)
    have m1 := mem_sem ht (t.f1 - 1).toNat (by omega)
    have hlen := len_sem_mem ht
    rw [sem_nrm] at m0 m1 hlen
    have b0 := h _ m0
    have b1 := h _ m1
    rw [show (((t.f1 - 1).toNat : Nat) : Int) = t.f1 - 1 by omega] at b1
    unfold img at b0 b1
    unfold badR
    cases hb : t.f2 <;> simp [hb] at b0 b1 ⊢ <;> omega
  have ht := sem_len (nrm xs) (fun r hr => by have := (hok r hr).1; omega)
  rw [sem_nrm] at ht
  unfold check13
  rw [if_neg (by omega), if_neg, if_neg (by omega)]
  intro hb
  obtain ⟨t, ht2, hb⟩ := List.any_eq_true.mp hb
  exact hg t ht2 (by simpa using hb)
theorem tot_nrm (xs : List Int) : tot13 (nrm xs) = xs.length := by
  rw [← sem_len (nrm xs) (fun r hr => by have := (nrm_ok xs r hr).1; omega), sem_nrm]
theorem sem_small {l : List S32} (h : check13 l = 0) : (sem l).length ≤ 17179869184 := by
  have h1 := sem_tot h
  have h2 := (check13_zero h).2.2
  omega
theorem nrm_few {l : List S32} (h : check13 l = 0) : (nrm (sem l)).length ≤ l.length :=
  nrm_len l (fun r hr => (fit_of ((check13_zero h).2.1 r hr)).2.2.1)
theorem nrm_fair {l : List S32} (h : check13 l = 0) : check13 (nrm (sem l)) = 0 :=
  check_nrm _ (sem_fit (check13_zero h).2.1) (sem_small h) (by have := nrm_few h; have := (check13_zero h).1; omega)
theorem rev_few {l : List S32} (h : check13 l = 0) : (nrm (sem l).reverse).length ≤ l.length := by
  have hp : ∀ r ∈ l, 1 ≤ r.f1 := fun r hr => (fit_of ((check13_zero h).2.1 r hr)).2.2.1
  have := nrm_len (revL l) (revL_pos l hp)
  rw [sem_rev l hp, revL_len] at this
  exact this
theorem rev_fair {l : List S32} (h : check13 l = 0) : check13 (nrm (sem l).reverse) = 0 :=
  check_nrm _ (fun x hx => sem_fit (check13_zero h).2.1 x (List.mem_reverse.mp hx)) (by rw [List.length_reverse]; exact sem_small h) (by have := rev_few h; have := (check13_zero h).1; omega)
theorem normOf_nrm {l : List S32} (h : check13 l = 0) : normOf (nrm (sem l)) = (nrm (sem l), 0) := by unfold normOf; rw [if_pos (nrm_fair h), sem_nrm]
theorem at_nrm {l : List S32} (h : check13 l = 0) (x : Int) : atOf13 (nrm (sem l)) x = atOf13 l x := by
  unfold atOf13
  rw [if_pos (nrm_fair h), if_pos h, tot_nrm, ← sem_tot h, sem_nrm]
theorem rsame13_l0 (l : List S32) (hl : l.length ≤ 1000000) : ∀ (d i : Nat), l.length - i = d → i ≤ l.length → Ends (fun k => papermillref13_Same.l0 k l l (i : Int)) true := by
  intro d
  induction d with
  | zero =>
    intro i hd hi
    refine Ends.succ ?_
    simp only [papermillref13_Same.l0]
    exact Ends.neg (by omega) (Ends.ret _)
  | succ d ih =>
    intro i hd hi
    refine Ends.succ ?_
    simp only [papermillref13_Same.l0, wrap_nat i (by omega)]
    exact Ends.pos (by omega) (Ends.pos (by omega) (Ends.pos (by omega) (Ends.neg (by simp) (ih (i + 1) (by omega) (by omega)))))
theorem rsame13_ends (l : List S32) (hl : l.length ≤ 1000000) : Ends (fun k => papermillref13_Same.f k l l) true := by
  unfold papermillref13_Same.f
  exact Ends.pos rfl (rsame13_l0 l hl _ 0 rfl (by omega))
end Go.Proofs.Ytcnkmdonbpgjiaa.G

namespace Go.Proofs.Ytcnkmdonbpgjiaa.G
open Go.RowKit Go.Proofs.YtcnkmdonbpgjiaaW.PrintWords Go.Proofs.YtcnkmdonbpgjiaaW.PrintLast Go.Proofs.YtcnkmdonbpgjiaaW.PrintMore
set_option linter.unusedVariables false
set_option linter.unusedSimpArgs false
def cmp (a b : List S32) : List Int := (sem a).map (lookOf (sem b))
theorem comp_ok {a b : List S32} (h : (compOf13 a b).2 = 0) : check13 a = 0 ∧ check13 b = 0 ∧ (∀ r ∈ a, farR (tot13 b) r = false) ∧ (compOf13 a b).1 = nrm (cmp a b) ∧ (nrm (cmp a b)).length ≤ 256 := by
  unfold compOf13 at h ⊢
  by_cases h0 : check13 a = 0
  · rw [if_pos h0] at h ⊢
    by_cases h1 : check13 b = 0
    · rw [if_pos h1] at h ⊢
      by_cases h2 : a.any (farR (tot13 b)) = true
      · rw [if_pos h2] at h; cases h
      · rw [if_neg h2] at h ⊢
        by_cases h3 : (nrm ((sem a).map (lookOf (sem b)))).length > 256
        · rw [if_pos h3] at h; cases h
        · rw [if_neg h3]
          refine ⟨h0, h1, fun r hr => ?_, rfl, by unfold cmp; omega⟩
          cases hf : farR (tot13 b) r with
          | false => rfl
          | true => exact absurd (List.any_eq_true.mpr ⟨r, hr, hf⟩) h2
    · rw [if_neg h1] at h; exact absurd h h1
  · rw [if_neg h0] at h; exact absurd h h0
theorem comp_is {a b : List S32} (h0 : check13 a = 0) (h1 : check13 b = 0) (h2 : ∀ r ∈ a, farR (tot13 b) r = false) : compOf13 a b = if (nrm (cmp a b)).length > 256 then ([], 8) else (nrm (cmp a b), 0) := by
  unfold compOf13
  rw [if_pos h0, if_pos h1, if_neg]
  · rfl
  · intro h
    obtain ⟨r, hr, hf⟩ := List.any_eq_true.mp h
    rw [h2 r hr] at hf
    cases hf
theorem far_sem {n : Int} {a : List S32} (hg : ∀ r ∈ a, ¬ badR r) (h : ∀ r ∈ a, farR n r = false) : ∀ y ∈ sem a, 0 ≤ y ∧ y < n := by
  intro y hy
  refine ⟨(sem_fit hg y hy).1, ?_⟩
  obtain ⟨r, hr, hy⟩ := List.mem_flatMap.mp hy
  simp only [imgs, List.mem_map, List.mem_range] at hy
  obtain ⟨i, hi, rfl⟩ := hy
  have := h r hr
  unfold farR at this
  simp only [decide_eq_false_iff_not, Int.not_le] at this
  unfold img at this ⊢
  cases hb : r.f2 <;> simp [hb] at this ⊢ <;> omega
theorem far_nrm {n : Int} {xs : List Int} (h : ∀ y ∈ xs, y < n) : ∀ t ∈ nrm xs, farR n t = false := by
  intro t ht
  have h1 := (nrm_ok xs t ht).1
  have m0 := mem_sem ht 0 (by omega)
  have m1 := mem_sem ht (t.f1 - 1).toNat (by omega)
  rw [sem_nrm] at m0 m1
  have b0 := h _ m0
  have b1 := h _ m1
  rw [show (((t.f1 - 1).toNat : Nat) : Int) = t.f1 - 1 by omega] at b1
  have e0 : img t ((0 : Nat) : Int) = t.f0 := by unfold img; split <;> simp
  rw [e0] at b0
  unfold farR
  simp only [decide_eq_false_iff_not, Int.not_le]
  omega
theorem look_mem {b : List Int} {y : Int} (h0 : 0 ≤ y) (h1 : y < b.length) : lookOf b y ∈ b := by
  have : y.toNat < b.length := by omega
  unfold lookOf
  rw [List.getD_eq_getElem?_getD, List.getElem?_eq_getElem this]
  exact List.getElem_mem _
theorem look_map {b : List Int} {y : Int} (g : Int → Int) (h0 : 0 ≤ y) (h1 : y < b.length) : lookOf (b.map g) y = g (lookOf b y) := by
  have : y.toNat < b.length := by omega
  unfold lookOf
  rw [List.getD_eq_getElem?_getD, List.getD_eq_getElem?_getD, List.getElem?_map, List.getElem?_eq_getElem this]
  rfl
theorem cmp_mem {a b : List S32} (h0 : check13 a = 0) (h1 : check13 b = 0) (h2 : ∀ r ∈ a, farR (tot13 b) r = false) : ∀ x ∈ cmp a b, x ∈ sem b := by
  intro x hx
  obtain ⟨y, hy, rfl⟩ := List.mem_map.mp hx
  have h := far_sem (check13_zero h0).2.1 h2 y hy
  exact look_mem h.1 (by rw [sem_tot h1]; exact h.2)
theorem cmp_fair {a b : List S32} (h : (compOf13 a b).2 = 0) : check13 (nrm (cmp a b)) = 0 := by
  obtain ⟨h0, h1, h2, _, h4⟩ := comp_ok h
  refine check_nrm _ (fun x hx => sem_fit (check13_zero h1).2.1 x (cmp_mem h0 h1 h2 x hx)) ?_ h4
  unfold cmp
  rw [List.length_map]
  exact sem_small h0
theorem cmp_assoc {a b c : List S32} (h : (compOf13 a b).2 = 0) (k : (compOf13 b c).2 = 0) : compOf13 (compOf13 a b).1 c = compOf13 a (compOf13 b c).1 ∧ ((compOf13 a (compOf13 b c).1).2 = 0 ∨ (compOf13 a (compOf13 b c).1).2 = 8) := by
  obtain ⟨h0, h1, h2, h3, h4⟩ := comp_ok h
  obtain ⟨_, k1, k2, k3, k4⟩ := comp_ok k
  rw [h3, k3]
  have hb := far_sem (check13_zero h1).2.1 k2
  have e1 := comp_is (a := nrm (cmp a b)) (b := c) (cmp_fair h) k1 (far_nrm (fun y hy => (hb y (cmp_mem h0 h1 h2 y hy)).2))
  have htot : tot13 (nrm (cmp b c)) = tot13 b := by rw [tot_nrm, ← sem_tot h1]; simp [cmp]
  have e2 := comp_is (a := a) (b := nrm (cmp b c)) h0 (cmp_fair k) (fun r hr => by rw [htot]; exact h2 r hr)
  have e3 : cmp (nrm (cmp a b)) c = cmp a (nrm (cmp b c)) := by
    unfold cmp
    rw [sem_nrm, sem_nrm, List.map_map]
    refine List.map_congr_left fun y hy => ?_
    have hy2 := far_sem (check13_zero h0).2.1 h2 y hy
    exact (look_map (lookOf (sem c)) hy2.1 (by rw [sem_tot h1]; exact hy2.2)).symm
  rw [e1, e2, e3]
  refine ⟨rfl, ?_⟩
  split
  · exact .inr rfl
  · exact .inl rfl
end Go.Proofs.Ytcnkmdonbpgjiaa.G

namespace Go.Proofs.Ytcnkmdonbpgjiaa.G
open Go.RowKit Go.Proofs.YtcnkmdonbpgjiaaW.PrintWords Go.Proofs.YtcnkmdonbpgjiaaW.PrintLast Go.Proofs.YtcnkmdonbpgjiaaW.PrintMore
set_option linter.unusedVariables false
set_option linter.unusedSimpArgs false
def placeGo : List S32 → Int → Int → Int × Int
  | [], _, _ => (-1, 0)
  | r :: b, i, y => if y < r.f1 then (i, y) else placeGo b (i + 1) (y - r.f1)
theorem rplace_l0 (b : List S32) (hb : b.length ≤ 256) (hv : ∀ r ∈ b, 0 ≤ r.f1 ∧ r.f1 ≤ 17179869184) : ∀ (d i : Nat) (y : Int), b.length - i = d → i ≤ b.length → 0 ≤ y → y ≤ 1099511627776 → Ends (fun k => papermillref13_place.l0 k b y (i : Int)) (placeGo (b.drop i) i y) := by
  intro d
  induction d with
  | zero =>
    intro i y hd hi h0 h1
    refine Ends.succ ?_
    simp only [papermillref13_place.l0]
    rw [List.drop_of_length_le (by omega)]
    refine Ends.neg (by omega) (Ends.succ ?_)
    simp only [papermillref13_place.j1]
    exact Ends.neg (by simp) (Ends.ret _)
  | succ d ih =>
    intro i y hd hi h0 h1
    refine Ends.succ ?_
    have hx := hv (rd_T32 b (i : Int)) (by rw [rdR b i (by omega)]; exact List.getElem_mem _)
    rw [dropR b i (by omega)]
    simp only [papermillref13_place.l0, placeGo]
    refine Ends.pos (by omega) (Ends.succ ?_)
    simp only [papermillref13_place.j1, wrap_nat i (by omega)]
    generalize rd_T32 b (i : Int) = r at *
    have ew : wrap64 (y - r.f1) = y - r.f1 := by unfold wrap64; omega
    refine Ends.pos (by simpa using h0) (Ends.pos (by omega) (Ends.pos (by omega) ?_))
    by_cases h : y < r.f1
    · rw [if_pos h]; exact Ends.pos h (Ends.ret _)
    · rw [if_neg h, ew]
      exact Ends.neg h (ih (i + 1) (y - r.f1) (by omega) (by omega) (by omega) (by omega))
theorem rplace_ends (b : List S32) (hb : b.length ≤ 256) (hv : ∀ r ∈ b, 0 ≤ r.f1 ∧ r.f1 ≤ 17179869184) (y : Int) (h0 : 0 ≤ y) (h1 : y ≤ 1099511627776) : Ends (fun k => papermillref13_place.f k b y) (placeGo b 0 y) := by
  unfold papermillref13_place.f
  exact (rplace_l0 b hb hv _ 0 y rfl (by omega) h0 h1).congr (by simp)
theorem place_none (b : List S32) : ∀ (i y : Int), tot13 b ≤ y → (∀ r ∈ b, 0 ≤ r.f1) → placeGo b i y = (-1, 0) := by
  induction b with
  | nil => intro i y _ _; rfl
  | cons r b ih =>
    intro i y h hv
    rw [tot13_cons] at h
    have h2 := ih (i + 1) (y - r.f1) (by omega) (fun x hx => hv x (by simp [hx]))
    have h3 : 0 ≤ tot13 b := by
      rw [← sem_len b (fun x hx => hv x (by simp [hx]))]; omega
    simp only [placeGo]
    rw [if_neg (by omega), h2]
theorem look_cons (r : S32) (b : List S32) (h : 0 ≤ r.f1) (y : Int) (h0 : 0 ≤ y) : lookOf (sem (r :: b)) y = if y < r.f1 then img r y else lookOf (sem b) (y - r.f1) := by
  unfold lookOf
  rw [sem_cons, List.getD_eq_getElem?_getD, List.getD_eq_getElem?_getD]
  by_cases hy : y < r.f1
  · rw [if_pos hy, List.getElem?_append_left (by rw [imgs_len]; omega), imgs_get r y.toNat (by omega), show ((y.toNat : Nat) : Int) = y by omega]
    rfl
  · rw [if_neg hy, List.getElem?_append_right (by rw [imgs_len]; omega), imgs_len, show y.toNat - r.f1.toNat = (y - r.f1).toNat by omega]
theorem place_some (b : List S32) : ∀ (i : Nat) (y : Int), 0 ≤ y → y < tot13 b → (∀ r ∈ b, 0 ≤ r.f1) → ∃ (j : Nat) (p : Int) (o : S32), placeGo b i y = (((i + j : Nat) : Int), p) ∧ b[j]? = some o ∧ 0 ≤ p ∧ p < o.f1 ∧ ∀ u : Int, 0 ≤ p + u → p + u < o.f1 → (0 ≤ y + u ∧ y + u < tot13 b) ∧ lookOf (sem b) (y + u) = img o (p + u) := by
  induction b with
  | nil => intro i y h0 h1 _; simp [tot13] at h1; omega
  | cons r b ih =>
    intro i y h0 h1 hv
    have hr := hv r (by simp)
    have hT : 0 ≤ tot13 b := by rw [← sem_len b (fun x hx => hv x (by simp [hx]))]; omega
    rw [tot13_cons] at h1
    simp only [placeGo]
    by_cases hy : y < r.f1
    · rw [if_pos hy]
      refine ⟨0, y, r, by simp, rfl, h0, hy, fun u hu0 hu1 => ⟨⟨hu0, by rw [tot13_cons]; omega⟩, ?_⟩⟩
      rw [look_cons r b hr _ hu0, if_pos hu1]
    · rw [if_neg hy]
      obtain ⟨j, p, o, e, ho, hp0, hp1, hu⟩ := ih (i + 1) (y - r.f1) (by omega) (by omega) (fun x hx => hv x (by simp [hx]))
      refine ⟨j + 1, p, o, ?_, by simpa using ho, hp0, hp1, fun u hu0 hu1 => ?_⟩
      · rw [show ((i : Int) + 1) = ((i + 1 : Nat) : Int) by omega, e]
        congr 1
        omega
      · obtain ⟨h2, h3⟩ := hu u hu0 hu1
        refine ⟨⟨by omega, by rw [tot13_cons]; omega⟩, ?_⟩
        rw [look_cons r b hr _ (by omega), if_neg (by omega), ← h3, show y + u - r.f1 = y - r.f1 + u by omega]
theorem addOf_nrm (xs : List Int) (p : S32) (h : 1 ≤ p.f1) : addOf (nrm xs) p = nrm (xs ++ imgs p) := by
  unfold nrm
  rw [List.foldl_append, ← addR_fold p h _ (fold_ok xs [] (by simp))]
  rw [addOf, if_neg (by omega), List.reverse_reverse]
theorem nrm_short (xs : List Int) : (nrm xs).length ≤ xs.length := by
  have key : ∀ (xs : List Int) (l : List S32), (xs.foldl one l).length ≤ l.length + xs.length := by
    intro xs
    induction xs with
    | nil => intro l; simp
    | cons x xs ih => intro l; have := ih (one l x); have := addR_len ⟨x, 1, false⟩ l; simp only [List.foldl_cons, List.length_cons]; unfold one at *; omega
  have := key xs []
  unfold nrm
  simpa using this
theorem nrm_low (xs : List Int) (hf : fitX xs) (hl : xs.length ≤ 17179869184) : ∀ t ∈ nrm xs, lowT t ∧ t.f1 ≤ 1125899906842622 := by
  intro t ht
  have h1 := (nrm_ok xs t ht).1
  have m0 := mem_sem ht 0 (by omega)
  have hlen := len_sem_mem ht
  rw [sem_nrm] at m0 hlen
  have b0 := hf _ m0
  have e0 : img t ((0 : Nat) : Int) = t.f0 := by unfold img; split <;> simp
  rw [e0] at b0
  unfold lowT
  omega
theorem imgs_split (r : S32) (n : Int) (h0 : 0 ≤ n) (h1 : n ≤ r.f1) : imgs r = imgs ⟨r.f0, n, r.f2⟩ ++ imgs ⟨img r n, r.f1 - n, r.f2⟩ := by
  apply List.ext_getElem?
  intro i
  by_cases hi : (i : Int) < n
  · rw [imgs_get r i (by omega), List.getElem?_append_left (by rw [imgs_len]; dsimp only; omega), imgs_get _ i (by dsimp only; omega)]
    rfl
  · rw [List.getElem?_append_right (by rw [imgs_len]; dsimp only; omega), imgs_len]
    dsimp only
    by_cases h2 : (i : Int) < r.f1
    · rw [imgs_get r i h2, imgs_get _ (i - n.toNat) (by dsimp only; omega)]
      unfold img
      dsimp only
      cases r.f2 <;> simp <;> omega
    · rw [List.getElem?_eq_none (by rw [imgs_len]; omega), List.getElem?_eq_none (by rw [imgs_len]; dsimp only; omega)]
theorem piece_imgs (b : List S32) (r o : S32) (p n : Int) (bk : Bool) (hn : 1 ≤ n) (hbk : bk = (if r.f2 = true then !o.f2 else o.f2)) (hr : n ≤ r.f1)
    (hin : ∀ i : Int, 0 ≤ i → i < n → lookOf (sem b) (img r i) = if r.f2 = true then img o (p - i) else img o (p + i)) : imgs ⟨img o p, n, bk && decide (n > 1)⟩ = (imgs ⟨r.f0, n, r.f2⟩).map (lookOf (sem b)) := by
  apply List.ext_getElem?
  intro i
  rw [List.getElem?_map]
  by_cases hi : (i : Int) < n
  · rw [imgs_get _ i (by dsimp only; omega), imgs_get _ i (by dsimp only; omega)]
    have h := hin i (by omega) hi
    have e : img ⟨r.f0, n, r.f2⟩ (i : Int) = img r i := rfl
    rw [e, Option.map_some, h, hbk]
    congr 1
    unfold img
    dsimp only
    by_cases h1 : n > 1
    · cases r.f2 <;> cases o.f2 <;> simp [h1] <;> omega
    · have : i = 0 := by omega
      subst this
      cases r.f2 <;> cases o.f2 <;> simp [h1]
  · rw [List.getElem?_eq_none (by rw [imgs_len]; dsimp only; omega), List.getElem?_eq_none (by rw [imgs_len]; dsimp only; omega)]
    rfl
theorem rcomp_l1 (a b : List S32) (hb : check13 b = 0) (i : Nat) (hi : i < 100000) (q : List S32 × Int) : ∀ (m : Nat) (r : S32) (xs : List Int), r.f1 = m → fitX (imgs r) → fitX xs → xs.length + m ≤ 17179869184 → 0 ≤ r.f0 → r.f0 ≤ 17179869184 →
    ((∀ y ∈ imgs r, y < tot13 b) → Ends (fun k => papermillref13_Compose.l0 k a b (nrm (xs ++ (imgs r).map (lookOf (sem b)))) ((i + 1 : Nat) : Int)) q) → ((∃ y ∈ imgs r, tot13 b ≤ y) → q = ([], 21)) →
    Ends (fun k => papermillref13_Compose.l1 k a b (nrm xs) (i : Int) r.f0 r.f1 r.f2) q := by
  obtain ⟨hlb, hgb, htb⟩ := check13_zero hb
  have hfb : ∀ x ∈ b, fitR x := fun x hx => fit_of (hgb x hx)
  have hvb : ∀ x ∈ b, 0 ≤ x.f1 ∧ x.f1 ≤ 17179869184 := fun x hx => by have := hfb x hx; unfold fitR at this; omega
  intro m
  induction m using Nat.strongRecOn with
  | ind m ih =>
    intro r xs hm hfr hfx hlx hr0 hr1 hq hbad
    refine Ends.succ ?_
    simp only [papermillref13_Compose.l1, wrap_nat i (by omega)]
    by_cases hm0 : m = 0
    · subst hm0
      refine Ends.neg (by omega) ?_
      have e : imgs r = [] := List.eq_nil_of_length_eq_zero (by rw [imgs_len]; omega)
      rw [e] at hq
      simpa using hq (by simp)
    have hm1 : 1 ≤ r.f1 := by omega
    have h0mem : r.f0 ∈ imgs r := by
      have := imgs_get r 0 (by omega)
      have e0 : img r ((0 : Nat) : Int) = r.f0 := by unfold img; split <;> simp
      rw [e0] at this
      exact List.mem_of_getElem? this
    refine Ends.pos (by omega) (Ends.bind (rplace_ends b hlb hvb r.f0 hr0 (by omega)) ?_)
    by_cases hT : tot13 b ≤ r.f0
    · rw [place_none b 0 r.f0 hT (fun x hx => (hvb x hx).1), hbad ⟨r.f0, h0mem, hT⟩]
      exact Ends.pos (by dsimp only; omega) (Ends.ret _)
    obtain ⟨j, p, o, hpl, hj, hp0, hp1, hu⟩ := place_some b 0 r.f0 hr0 (by omega) (fun x hx => (hvb x hx).1)
    rw [show ((0 : Nat) : Int) = 0 from rfl] at hpl
    rw [hpl]
    have hjl : j < b.length := by
      rcases Nat.lt_or_ge j b.length with h | h
      · exact h
      · rw [List.getElem?_eq_none h] at hj; cases hj
    have hrd : rd_T32 b ((0 + j : Nat) : Int) = o := by
      rw [Nat.zero_add, rdR b j hjl]
      rw [List.getElem?_eq_getElem hjl] at hj
      exact Option.some.inj hj
    have ho := hfb o (List.mem_of_getElem? hj)
    have hob := hgb o (List.mem_of_getElem? hj)
    unfold fitR at ho
    dsimp only
    rw [hrd]
    have ew1 : wrap64 (p + 1) = p + 1 := by unfold wrap64; omega
    have ew2 : wrap64 (o.f1 - p) = o.f1 - p := by unfold wrap64; omega
    rw [ew1, ew2]
    -- what is common to both directions
    have go : ∀ (n : Int) (bk : Bool), 1 ≤ n → n ≤ r.f1 → n ≤ 17179869184 → bk = (if r.f2 = true then !o.f2 else o.f2) → (∀ t : Int, 0 ≤ t → t < n → img r t < tot13 b ∧ lookOf (sem b) (img r t) = if r.f2 = true then img o (p - t) else img o (p + t)) →
        Ends (fun k => papermillref13_Compose.j2 k a b (nrm xs) (i : Int) p n bk r.f0 r.f1 r.f2 o.f0 o.f1 o.f2) q := by
      intro n bk hn hnr hn2 hbk hin
      have hpi := img_in hob p hp0 hp1
      have himg : papermillref13_image.f o.f0 o.f1 o.f2 p = some (img o p) := image_is o p ⟨by omega, by omega, by omega⟩ (by omega) (by omega)
      have hPI := piece_imgs b r o p n bk hn hbk hnr (fun t h1 h2 => (hin t h1 h2).2)
      have hsplit := imgs_split r n (by omega) hnr
      have hfirst : ∀ y ∈ imgs ⟨r.f0, n, r.f2⟩, y < tot13 b := by
        intro y hy
        simp only [imgs, List.mem_map, List.mem_range] at hy
        obtain ⟨t, ht, rfl⟩ := hy
        exact (hin t (by omega) (by omega)).1
      have hmore := rmore_ends (nrm xs) ⟨img o p, n, bk && decide (n > 1)⟩ ⟨by dsimp only; omega, by dsimp only; omega, by dsimp only; omega⟩ (by have := nrm_short xs; omega) (nrm_low xs hfx (by omega))
      rw [addOf_nrm xs _ hn, hPI] at hmore
      have hrest : Ends (fun k => if n = r.f1 then papermillref13_Compose.l0 k a b (nrm (xs ++ (imgs ⟨r.f0, n, r.f2⟩).map (lookOf (sem b)))) ((i + 1 : Nat) : Int) else (papermillref13_image.f r.f0 r.f1 r.f2 n).bind fun t => papermillref13_Compose.l1 k a b (nrm (xs ++ (imgs ⟨r.f0, n, r.f2⟩).map (lookOf (sem b)))) (i : Int) t (wrap64 (r.f1 - n)) r.f2) q := by
        by_cases hend : n = r.f1
        · refine Ends.pos hend ?_
          have e : (⟨r.f0, n, r.f2⟩ : S32) = r := by rw [hend]
          rw [e] at hfirst ⊢
          exact hq hfirst
        · refine Ends.neg hend ?_
          have hi2 : papermillref13_image.f r.f0 r.f1 r.f2 n = some (img r n) := image_is r n ⟨by omega, by omega, by omega⟩ (by omega) (by omega)
          have ew : wrap64 (r.f1 - n) = r.f1 - n := by unfold wrap64; omega
          refine Ends.bind (Ends.const hi2) ?_
          rw [ew]
          have hmem : img r n ∈ imgs r := by
            have := imgs_get r n.toNat (by omega)
            rw [show ((n.toNat : Nat) : Int) = n by omega] at this
            exact List.mem_of_getElem? this
          have hb2 := hfr _ hmem
          refine ih (r.f1 - n).toNat (by omega) ⟨img r n, r.f1 - n, r.f2⟩ _ (by dsimp only; omega) (fun y hy => hfr y (by rw [hsplit]; exact List.mem_append_right _ hy)) ?_ ?_ hb2.1 (by dsimp only; omega) ?_ ?_
          · intro x hx
            rcases List.mem_append.mp hx with hx | hx
            · exact hfx x hx
            · obtain ⟨y, hy, rfl⟩ := List.mem_map.mp hx
              have hy1 := hfirst y hy
              have hy0 := hfr y (by rw [hsplit]; exact List.mem_append_left _ hy)
              exact sem_fit hgb _ (look_mem hy0.1 (by rw [sem_tot hb]; exact hy1))
          · rw [List.length_append, List.length_map, imgs_len]; dsimp only; omega
          · intro hall
            have := hq (fun y hy => by
              rw [hsplit] at hy
              rcases List.mem_append.mp hy with hy | hy
              · exact hfirst y hy
              · exact hall y hy)
            rw [hsplit, List.map_append, ← List.append_assoc] at this
            exact this
          · rintro ⟨y, hy, hy2⟩
            exact hbad ⟨y, by rw [hsplit]; exact List.mem_append_right _ hy, hy2⟩
      refine Ends.succ ?_
      simp only [papermillref13_Compose.j2, wrap_nat i (by omega)]
      refine Ends.bind (Ends.const himg) ?_
      cases bk with
      | true =>
        refine Ends.pos rfl (Ends.bind (by simpa using hmore) hrest)
      | false =>
        refine Ends.neg (by simp) (Ends.bind (by simpa using hmore) hrest)
    refine Ends.neg (by omega) (Ends.pos (by omega) (Ends.pos (by omega) ?_))
    by_cases hd : r.f2 = true
    · refine Ends.pos hd (go (mn r.f1 (p + 1)) (!o.f2) ?_ ?_ ?_ (by rw [if_pos hd]) ?_)
      · unfold mn; split <;> omega
      · unfold mn; split <;> omega
      · unfold mn; split <;> omega
      · intro t h1 h2
        have h3 : t < p + 1 := by unfold mn at h2; split at h2 <;> omega
        have h4 := hu (-t) (by omega) (by omega)
        have e : img r t = r.f0 + -t := by unfold img; rw [if_pos hd]; omega
        rw [if_pos hd, e, h4.2]
        exact ⟨h4.1.2, by rw [show p + -t = p - t by omega]⟩
    · refine Ends.neg hd (go (mn r.f1 (o.f1 - p)) o.f2 ?_ ?_ ?_ (by rw [if_neg hd]) ?_)
      · unfold mn; split <;> omega
      · unfold mn; split <;> omega
      · unfold mn; split <;> omega
      · intro t h1 h2
        have h3 : t < o.f1 - p := by unfold mn at h2; split at h2 <;> omega
        have h4 := hu t (by omega) (by omega)
        have e : img r t = r.f0 + t := by unfold img; rw [if_neg hd]
        rw [if_neg hd, e, h4.2]
        exact ⟨h4.1.2, rfl⟩
def compQ (b : List S32) : List Int → List S32 → List S32 × Int
  | xs, [] => if (nrm xs).length > 256 then ([], 8) else (nrm xs, 0)
  | xs, r :: d => if farR (tot13 b) r = true then ([], 21) else compQ b (xs ++ (imgs r).map (lookOf (sem b))) d
theorem compQ_is (b : List S32) : ∀ (a : List S32) (xs : List Int), compQ b xs a = if a.any (farR (tot13 b)) = true then ([], 21) else if (nrm (xs ++ (sem a).map (lookOf (sem b)))).length > 256 then ([], 8) else (nrm (xs ++ (sem a).map (lookOf (sem b))), 0) := by
  intro a
  induction a with
  | nil => intro xs; simp [compQ, sem_nil]
  | cons r d ih =>
    intro xs
    simp only [compQ]
    have e2 : xs ++ (sem (r :: d)).map (lookOf (sem b)) = xs ++ (imgs r).map (lookOf (sem b)) ++ (sem d).map (lookOf (sem b)) := by rw [sem_cons, List.map_append, List.append_assoc]
    by_cases hf : farR (tot13 b) r = true
    · have e1 : (r :: d).any (farR (tot13 b)) = true := by rw [List.any_cons, hf]; rfl
      rw [if_pos hf, if_pos e1]
    · have e1 : (r :: d).any (farR (tot13 b)) = d.any (farR (tot13 b)) := by rw [List.any_cons]; simp [hf]
      rw [if_neg hf, ih, e2]
      by_cases h2 : d.any (farR (tot13 b)) = true
      · rw [if_pos h2, if_pos (e1.trans h2)]
      · rw [if_neg h2]
        exact (if_neg (fun h => h2 (e1 ▸ h))).symm
theorem rcomp_l0 (a b : List S32) (ha : check13 a = 0) (hb : check13 b = 0) : ∀ (d i : Nat) (xs : List Int), a.length - i = d → i ≤ a.length → fitX xs → xs.length + tot13 (a.drop i) ≤ 17179869184 → Ends (fun k => papermillref13_Compose.l0 k a b (nrm xs) (i : Int)) (compQ b xs (a.drop i)) := by
  obtain ⟨hla, hga, _⟩ := check13_zero ha
  obtain ⟨hlb, hgb, _⟩ := check13_zero hb
  intro d
  induction d with
  | zero =>
    intro i xs hd hi hfx hlx
    refine Ends.succ ?_
    simp only [papermillref13_Compose.l0]
    rw [List.drop_of_length_le (by omega)]
    refine Ends.neg (by omega) ?_
    simp only [compQ, papermillref13_limited.f]
    by_cases h : (nrm xs).length > 256
    · rw [if_pos h]; exact Ends.bind (Ends.pos (by omega) (Ends.ret _)) (Ends.ret _)
    · rw [if_neg h]; exact Ends.bind (Ends.neg (by omega) (Ends.ret _)) (Ends.ret _)
  | succ d ih =>
    intro i xs hd hi hfx hlx
    refine Ends.succ ?_
    have hx := hga (rd_T32 a (i : Int)) (by rw [rdR a i (by omega)]; exact List.getElem_mem _)
    rw [dropR a i (by omega)] at hlx ⊢
    simp only [papermillref13_Compose.l0]
    generalize rd_T32 a (i : Int) = r at *
    have hf := fit_of hx
    unfold fitR at hf
    rw [tot13_cons] at hlx
    have htd : 0 ≤ tot13 (a.drop (i + 1)) := by
      rw [← sem_len _ (fun x hx2 => by have := fit_of (hga x (List.mem_of_mem_drop hx2)); unfold fitR at this; omega)]; omega
    have hsem1 : sem [r] = imgs r := by simp [sem]
    have hfit1 : fitX (imgs r) := by rw [← hsem1]; exact sem_fit (fun x hx2 => by rw [List.mem_singleton.mp hx2]; exact hx)
    refine Ends.pos (by omega) (Ends.pos (by omega) (rcomp_l1 a b hb i (by omega) _ r.f1.toNat r xs (by omega) hfit1 hfx (by omega) hf.1 hf.2.1 ?_ ?_))
    · intro hall
      have hfar : farR (tot13 b) r = false := by
        have m0 : img r ((0 : Nat) : Int) ∈ imgs r := List.mem_of_getElem? (imgs_get r 0 (by omega))
        have m1 : img r (((r.f1 - 1).toNat : Nat) : Int) ∈ imgs r := List.mem_of_getElem? (imgs_get r (r.f1 - 1).toNat (by omega))
        have b0 := hall _ m0
        have b1 := hall _ m1
        rw [show (((r.f1 - 1).toNat : Nat) : Int) = r.f1 - 1 by omega] at b1
        have e0 : img r ((0 : Nat) : Int) = r.f0 := by unfold img; split <;> simp
        rw [e0] at b0
        unfold farR
        simp only [decide_eq_false_iff_not, Int.not_le]
        omega
      simp only [compQ]
      rw [if_neg (by rw [hfar]; simp)]
      refine ih (i + 1) _ (by omega) (by omega) ?_ (by rw [List.length_append, List.length_map, imgs_len]; omega)
      intro x hx2
      rcases List.mem_append.mp hx2 with h | h
      · exact hfx x h
      · obtain ⟨y, hy, rfl⟩ := List.mem_map.mp h
        exact sem_fit hgb _ (look_mem (hfit1 y hy).1 (by rw [sem_tot hb]; exact hall y hy))
    · rintro ⟨y, hy, hy2⟩
      simp only [compQ]
      cases hfar : farR (tot13 b) r with
      | true => simp
      | false =>
        have := far_sem (a := [r]) (n := tot13 b) (fun x hx2 => by rw [List.mem_singleton.mp hx2]; exact hx) (fun x hx2 => by rw [List.mem_singleton.mp hx2]; exact hfar) y (by rw [hsem1]; exact hy)
        omega
theorem rcomp_ends (a b : List S32) : Ends (fun k => papermillref13_Compose.f k a b) (compOf13 a b) := by
  unfold papermillref13_Compose.f compOf13
  refine Ends.bind (rcheck_ends a) ?_
  by_cases h0 : check13 a = 0
  · rw [if_pos h0]
    refine Ends.pos h0 (Ends.bind (rcheck_ends b) ?_)
    by_cases h1 : check13 b = 0
    · rw [if_pos h1]
      refine Ends.pos h1 ((rcomp_l0 a b h0 h1 _ 0 [] rfl (by omega) (by intro x hx; simp at hx) (by have := (check13_zero h0).2.2; simpa using this)).congr ?_)
      rw [List.drop_zero, compQ_is]
      simp
    · rw [if_neg h1]
      exact Ends.neg h1 (Ends.ret _)
  · rw [if_neg h0]
    exact Ends.neg h0 (Ends.ret _)
end Go.Proofs.Ytcnkmdonbpgjiaa.G
