import Derived.Test.YtjkakgkiikjdmaaQ1
import Derived.Test.YtjkakgkiikjdmaaQ3
import Derived.Test.YtjkakgkiikjdmaaC5
import Derived.Test.YtjkakgkiikjdmaaQ4
namespace Go.Proofs.Ytjkakgkiikjdmaa.G
open Go.RowKit Go.Proofs.YtjkakgkiikjdmaaW.PrintWords Go.Proofs.YtjkakgkiikjdmaaW.PrintLast Go.Proofs.YtjkakgkiikjdmaaW.PrintMore
attribute [local go_sem] max2_int min2_int max_two min_two max_three min_three max_four min_four   -- for this text's walks alone
set_option linter.unusedVariables false
set_option linter.unusedSimpArgs false

def papermilllaw40_SpliceCuts.f (k : Nat) (a0 : Int) (l1 : List (S49)) (a2 : Int) : Option (Bool) := (papermilllaw40_great.f l1).bind fun t4001 => (if t4001 = true then ((papermilllaw40_awake.f).bind fun t4002 => (some t4002)) else ((splice_Keep.f a0 l1 a2).bind fun bt4003 => ((papermillref40_Keep.f k a0 l1 a2).bind fun bt4007 => ((splice_Waste.f k a0 l1 a2).bind fun bt4011 => ((papermillref40_Waste.f k a0 l1 a2).bind fun bt4013 => ((papermillref04_Same.f k bt4003.1 bt4007.1).bind fun t4015 => (if t4015 = true then (if bt4003.2 = bt4007.2 then (if bt4011.1 = bt4013.1 then (if bt4011.2 = bt4013.2 then ((papermilllaw40_awake.f).bind fun t4016 => (some t4016)) else (some false)) else (some false)) else (some false)) else (some false))))))))
set_option maxHeartbeats 8000000 in
set_option maxRecDepth 100000 in
theorem papermilllaw40_SpliceCuts.calls (k : Nat) (a0 : Int) (A1 : Option Addr) (c1 : Nat) (l1 : List (S49)) (a2 : Int) (r : Bool) (w : World) (hr1 : Kd.C k49 w A1 l1.length l1) (hc1 : l1.length ≤ c1) (h : papermilllaw40_SpliceCuts.f k a0 l1 a2 = some r) :
  Calls Try.prog 3 #[.int .i64 a0, .slice A1 l1.length c1, .int .i64 a2] w fun e w' => e = .returned (.bool r) ∧ Below w.heap.size w w' := by
 have HR1 := Aside0.mk hr1
 have HC1 := Aside0.mk hc1
 clear hr1 hc1
 have HB := Aside0.mk (Below.refl w.heap.size w)
 have H : ((papermilllaw40_great.f l1).bind fun t4001 => (if t4001 = true then ((papermilllaw40_awake.f).bind fun t4002 => (some t4002)) else ((splice_Keep.f a0 l1 a2).bind fun bt4003 => ((papermillref40_Keep.f k a0 l1 a2).bind fun bt4007 => ((splice_Waste.f k a0 l1 a2).bind fun bt4011 => ((papermillref40_Waste.f k a0 l1 a2).bind fun bt4013 => ((papermillref04_Same.f k bt4003.1 bt4007.1).bind fun t4015 => (if t4015 = true then (if bt4003.2 = bt4007.2 then (if bt4011.1 = bt4013.1 then (if bt4011.2 = bt4013.2 then ((papermilllaw40_awake.f).bind fun t4016 => (some t4016)) else (some false)) else (some false)) else (some false)) else (some false))))))))) = some r := h
 clear h
 replace H := Option.bind_eq_some_iff.mp H
 obtain ⟨t4001, A40, H⟩ := H
 replace H : (if t4001 = true then ((papermilllaw40_awake.f).bind fun t4002 => (some t4002)) else ((splice_Keep.f a0 l1 a2).bind fun bt4003 => ((papermillref40_Keep.f k a0 l1 a2).bind fun bt4007 => ((splice_Waste.f k a0 l1 a2).bind fun bt4011 => ((papermillref40_Waste.f k a0 l1 a2).bind fun bt4013 => ((papermillref04_Same.f k bt4003.1 bt4007.1).bind fun t4015 => (if t4015 = true then (if bt4003.2 = bt4007.2 then (if bt4011.1 = bt4013.1 then (if bt4011.2 = bt4013.2 then ((papermilllaw40_awake.f).bind fun t4016 => (some t4016)) else (some false)) else (some false)) else (some false)) else (some false)))))))) = some r := H
 have A4 := Aside0.mk A40
 clear A40
 by_cases c5 : t4001 = true
 ·subst c5
  have H1 : ((papermilllaw40_awake.f).bind fun t4002 => (some t4002)) = some r := by rw [if_pos rfl] at H; exact H
  clear H
  have H := H1
  clear H1
  replace H := Option.bind_eq_some_iff.mp H
  obtain ⟨t4002, A60, H⟩ := H
  replace H : (some t4002) = some r := H
  have A6 := Aside0.mk A60
  clear A60
  obtain rfl := Option.some.inj H
  go_enter Try.func3, Try.ntmps3
  go_wp2_with (first | ((with_reducible refine gate_callee (f := 11) rfl ?_); refine goesL_ (some 16) rfl rfl Try.func11 (by kernel_rfl) rfl #[.slice A1 l1.length c1] rfl (by (try simp only [List.map_toArray, List.map_cons, List.map_nil]); first | done | rfl | (simp only [List.length_drop, List.length_take]; rfl)) ?_; (with_reducible refine (papermilllaw40_great.calls _ _ l1 true _ ?side1 ?side2 A4.out).mono ?_); (case side1 => repeat (first | exact HR1.out | (with_reducible refine Kd.C_alloc ?_ _) | (with_reducible refine Kd.C_drewN ?_ _) | (with_reducible refine Kd.C_drew ?_))); (case side2 => exact HC1.out); rintro e w' ⟨rfl, ⟨nd, rfl⟩⟩; refine ⟨_, rfl, ?_⟩) | ((with_reducible refine gate_callee (f := 12) rfl ?_); refine goesL_ (some 17) rfl rfl Try.func12 (by kernel_rfl) rfl #[] rfl (by (try simp only [List.map_toArray, List.map_cons, List.map_nil]); first | done | rfl | (simp only [List.length_drop, List.length_take]; rfl)) ?_; (with_reducible refine (papermilllaw40_awake.calls  t4002 _ A6.out).mono ?_); rintro e w7 ⟨rfl, hb⟩; refine ⟨_, rfl, ?_⟩; have n0_ := Aside0.mk (below_step (by repeat (first | exact HB.out | apply below_alloc | apply pw_below_drewN | apply below_drew1)) hb); clear HB; have HB := n0_; clear n0_; (try clear hb); (try clear hb2); (try clear hk); (try clear hi)))
  go_ret
  exact ⟨by first | rfl | (simp [errW_none, errW_some] <;> rfl) | (simp [*, errW_none, errW_some] <;> rfl), by repeat (first | exact HB.out | apply below_alloc | apply pw_below_drewN | apply below_drew1)⟩
 ·replace c5 := Bool.eq_false_iff.mpr c5
  subst c5
  have H1 : ((splice_Keep.f a0 l1 a2).bind fun bt4003 => ((papermillref40_Keep.f k a0 l1 a2).bind fun bt4007 => ((splice_Waste.f k a0 l1 a2).bind fun bt4011 => ((papermillref40_Waste.f k a0 l1 a2).bind fun bt4013 => ((papermillref04_Same.f k bt4003.1 bt4007.1).bind fun t4015 => (if t4015 = true then (if bt4003.2 = bt4007.2 then (if bt4011.1 = bt4013.1 then (if bt4011.2 = bt4013.2 then ((papermilllaw40_awake.f).bind fun t4016 => (some t4016)) else (some false)) else (some false)) else (some false)) else (some false))))))) = some r := by rw [if_neg (show ¬ (false = true) by decide)] at H; first | exact H | simpa using H
  clear H
  have H := H1
  clear H1
  replace H := Option.bind_eq_some_iff.mp H
  obtain ⟨⟨t4003, t4004⟩, A80, H⟩ := H
  replace H : ((papermillref40_Keep.f k a0 l1 a2).bind fun bt4007 => ((splice_Waste.f k a0 l1 a2).bind fun bt4011 => ((papermillref40_Waste.f k a0 l1 a2).bind fun bt4013 => ((papermillref04_Same.f k t4003 bt4007.1).bind fun t4015 => (if t4015 = true then (if t4004 = bt4007.2 then (if bt4011.1 = bt4013.1 then (if bt4011.2 = bt4013.2 then ((papermilllaw40_awake.f).bind fun t4016 => (some t4016)) else (some false)) else (some false)) else (some false)) else (some false)))))) = some r := H
  have A8 := Aside0.mk A80
  clear A80
  replace H := Option.bind_eq_some_iff.mp H
  obtain ⟨⟨t4007, t4008⟩, A90, H⟩ := H
  replace H : ((splice_Waste.f k a0 l1 a2).bind fun bt4011 => ((papermillref40_Waste.f k a0 l1 a2).bind fun bt4013 => ((papermillref04_Same.f k t4003 t4007).bind fun t4015 => (if t4015 = true then (if t4004 = t4008 then (if bt4011.1 = bt4013.1 then (if bt4011.2 = bt4013.2 then ((papermilllaw40_awake.f).bind fun t4016 => (some t4016)) else (some false)) else (some false)) else (some false)) else (some false))))) = some r := H
  have A9 := Aside0.mk A90
  clear A90
  replace H := Option.bind_eq_some_iff.mp H
  obtain ⟨⟨t4011, t4012⟩, A100, H⟩ := H
  replace H : ((papermillref40_Waste.f k a0 l1 a2).bind fun bt4013 => ((papermillref04_Same.f k t4003 t4007).bind fun t4015 => (if t4015 = true then (if t4004 = t4008 then (if t4011 = bt4013.1 then (if t4012 = bt4013.2 then ((papermilllaw40_awake.f).bind fun t4016 => (some t4016)) else (some false)) else (some false)) else (some false)) else (some false)))) = some r := H
  have A10 := Aside0.mk A100
  clear A100
  replace H := Option.bind_eq_some_iff.mp H
  obtain ⟨⟨t4013, t4014⟩, A110, H⟩ := H
  replace H : ((papermillref04_Same.f k t4003 t4007).bind fun t4015 => (if t4015 = true then (if t4004 = t4008 then (if t4011 = t4013 then (if t4012 = t4014 then ((papermilllaw40_awake.f).bind fun t4016 => (some t4016)) else (some false)) else (some false)) else (some false)) else (some false))) = some r := H
  have A11 := Aside0.mk A110
  clear A110
  replace H := Option.bind_eq_some_iff.mp H
  obtain ⟨t4015, A120, H⟩ := H
  replace H : (if t4015 = true then (if t4004 = t4008 then (if t4011 = t4013 then (if t4012 = t4014 then ((papermilllaw40_awake.f).bind fun t4016 => (some t4016)) else (some false)) else (some false)) else (some false)) else (some false)) = some r := H
  have A12 := Aside0.mk A120
  clear A120
  by_cases c13 : t4015 = true
  ·subst c13
   have H1 : (if t4004 = t4008 then (if t4011 = t4013 then (if t4012 = t4014 then ((papermilllaw40_awake.f).bind fun t4016 => (some t4016)) else (some false)) else (some false)) else (some false)) = some r := by rw [if_pos rfl] at H; exact H
   clear H
   have H := H1
   clear H1
   by_cases c14 : t4004 = t4008
   ·rw [if_pos c14] at H
    have c14b0 : (t4004 == t4008) = true := beq_iff_eq.mpr c14
    have c14b1 : (t4004 != t4008) = false := bne_eq_false_iff_eq.mpr c14
    clear c14
    by_cases c15 : t4011 = t4013
    ·rw [if_pos c15] at H
     have c15b0 : (t4011 == t4013) = true := beq_iff_eq.mpr c15
     have c15b1 : (t4011 != t4013) = false := bne_eq_false_iff_eq.mpr c15
     clear c15
     by_cases c16 : t4012 = t4014
     ·rw [if_pos c16] at H
      have c16b0 : (t4012 == t4014) = true := beq_iff_eq.mpr c16
      have c16b1 : (t4012 != t4014) = false := bne_eq_false_iff_eq.mpr c16
      clear c16
      replace H := Option.bind_eq_some_iff.mp H
      obtain ⟨t4016, A170, H⟩ := H
      replace H : (some t4016) = some r := H
      have A17 := Aside0.mk A170
      clear A170
      obtain rfl := Option.some.inj H
      go_enter Try.func3, Try.ntmps3
      go_wp2_with (first | ((with_reducible refine gate_callee (f := 11) rfl ?_); refine goesL_ (some 16) rfl rfl Try.func11 (by kernel_rfl) rfl #[.slice A1 l1.length c1] rfl (by (try simp only [List.map_toArray, List.map_cons, List.map_nil]); first | done | rfl | (simp only [List.length_drop, List.length_take]; rfl)) ?_; (with_reducible refine (papermilllaw40_great.calls _ _ l1 false _ ?side1 ?side2 A4.out).mono ?_); (case side1 => repeat (first | exact HR1.out | (with_reducible refine Kd.C_alloc ?_ _) | (with_reducible refine Kd.C_drewN ?_ _) | (with_reducible refine Kd.C_drew ?_))); (case side2 => exact HC1.out); rintro e w' ⟨rfl, ⟨nd, rfl⟩⟩; refine ⟨_, rfl, ?_⟩) | ((with_reducible refine gate_callee (f := 13) rfl ?_); refine goesL_ (some 22) rfl rfl Try.func13 (by kernel_rfl) rfl #[.int .i64 a0, .slice A1 l1.length c1, .int .i64 a2] rfl (by (try simp only [List.map_toArray, List.map_cons, List.map_nil]); first | done | rfl | (simp only [List.length_drop, List.length_take]; rfl)) ?_; (with_reducible refine (splice_Keep.calls a0 _ _ l1 a2 t4003 t4004 _ ?side1 ?side2 A8.out).mono ?_); (case side1 => repeat (first | exact HR1.out | (with_reducible refine Kd.C_alloc ?_ _) | (with_reducible refine Kd.C_drewN ?_ _) | (with_reducible refine Kd.C_drew ?_))); (case side2 => exact HC1.out); rintro e w18 ⟨v4005, rfl, ho0, hb⟩; refine ⟨_, rfl, ?_⟩; have n0_ := Aside0.mk (Kd.R_lower ho0 (below_size (by repeat (first | exact HB.out | apply below_alloc | apply pw_below_drewN | apply below_drew1)))); have n1_ := Aside0.mk (below_step (by repeat (first | exact HB.out | apply below_alloc | apply pw_below_drewN | apply below_drew1)) hb); clear HB; have HO4006 := n0_; have HB := n1_; clear n0_ n1_; (try clear hb); (try clear hb2); (try clear hk); (try clear hi); (try clear ho0)) | ((with_reducible refine gate_callee (f := 14) rfl ?_); refine goesL_ (some 29) rfl rfl Try.func14 (by kernel_rfl) rfl #[.int .i64 a0, .slice A1 l1.length c1, .int .i64 a2] rfl (by (try simp only [List.map_toArray, List.map_cons, List.map_nil]); first | done | rfl | (simp only [List.length_drop, List.length_take]; rfl)) ?_; (with_reducible refine (papermillref40_Keep.calls k a0 _ _ l1 a2 t4007 t4008 _ ?side1 ?side2 A9.out).mono ?_); (case side1 => repeat (first | exact (Kd.C_below HR1.out HB.out) | (with_reducible refine Kd.C_alloc ?_ _) | (with_reducible refine Kd.C_drewN ?_ _) | (with_reducible refine Kd.C_drew ?_))); (case side2 => exact HC1.out); rintro e w19 ⟨v4009, rfl, ho0, hb⟩; refine ⟨_, rfl, ?_⟩; have n0_ := Aside0.mk (Kd.R_elder' (by (with_reducible repeat (first | apply Kd.R_alloc | apply Kd.R_drewN | apply Kd.R_drew)); exact HO4006.out) (Kd.R_base ho0) hb); have n1_ := Aside0.mk (Kd.R_lower (Kd.R_new' ho0 (Kd.R_lt (by (with_reducible repeat (first | apply Kd.R_alloc | apply Kd.R_drewN | apply Kd.R_drew)); exact HO4006.out))) (below_size (by repeat (first | exact HB.out | apply below_alloc | apply pw_below_drewN | apply below_drew1)))); have n2_ := Aside0.mk (below_step (by repeat (first | exact HB.out | apply below_alloc | apply pw_below_drewN | apply below_drew1)) hb); clear HO4006; clear HB; have HO4006 := n0_; have HO4010 := n1_; have HB := n2_; clear n0_ n1_ n2_; (try clear hb); (try clear hb2); (try clear hk); (try clear hi); (try clear ho0)) | ((with_reducible refine gate_callee (f := 15) rfl ?_); refine goesL_ (some 36) rfl rfl Try.func15 (by kernel_rfl) rfl #[.int .i64 a0, .slice A1 l1.length c1, .int .i64 a2] rfl (by (try simp only [List.map_toArray, List.map_cons, List.map_nil]); first | done | rfl | (simp only [List.length_drop, List.length_take]; rfl)) ?_; (with_reducible refine (splice_Waste.calls k a0 _ _ l1 a2 t4011 t4012 _ ?side1 ?side2 A10.out).mono ?_); (case side1 => repeat (first | exact (Kd.C_below HR1.out HB.out) | (with_reducible refine Kd.C_alloc ?_ _) | (with_reducible refine Kd.C_drewN ?_ _) | (with_reducible refine Kd.C_drew ?_))); (case side2 => exact HC1.out); rintro e w20 ⟨rfl, hb⟩; refine ⟨_, rfl, ?_⟩; have n0_ := Aside0.mk (Kd.R_below (by (with_reducible repeat (first | apply Kd.R_alloc | apply Kd.R_drewN | apply Kd.R_drew)); exact HO4006.out) hb); have n1_ := Aside0.mk (Kd.R_below (by (with_reducible repeat (first | apply Kd.R_alloc | apply Kd.R_drewN | apply Kd.R_drew)); exact HO4010.out) hb); have n2_ := Aside0.mk (below_step (by repeat (first | exact HB.out | apply below_alloc | apply pw_below_drewN | apply below_drew1)) hb); clear HO4006; clear HO4010; clear HB; have HO4006 := n0_; have HO4010 := n1_; have HB := n2_; clear n0_ n1_ n2_; (try clear hb); (try clear hb2); (try clear hk); (try clear hi)) | ((with_reducible refine gate_callee (f := 16) rfl ?_); refine goesL_ (some 43) rfl rfl Try.func16 (by kernel_rfl) rfl #[.int .i64 a0, .slice A1 l1.length c1, .int .i64 a2] rfl (by (try simp only [List.map_toArray, List.map_cons, List.map_nil]); first | done | rfl | (simp only [List.length_drop, List.length_take]; rfl)) ?_; (with_reducible refine (papermillref40_Waste.calls k a0 _ _ l1 a2 t4013 t4014 _ ?side1 ?side2 A11.out).mono ?_); (case side1 => repeat (first | exact (Kd.C_below HR1.out HB.out) | (with_reducible refine Kd.C_alloc ?_ _) | (with_reducible refine Kd.C_drewN ?_ _) | (with_reducible refine Kd.C_drew ?_))); (case side2 => exact HC1.out); rintro e w21 ⟨rfl, hb⟩; refine ⟨_, rfl, ?_⟩; have n0_ := Aside0.mk (Kd.R_below (by (with_reducible repeat (first | apply Kd.R_alloc | apply Kd.R_drewN | apply Kd.R_drew)); exact HO4006.out) hb); have n1_ := Aside0.mk (Kd.R_below (by (with_reducible repeat (first | apply Kd.R_alloc | apply Kd.R_drewN | apply Kd.R_drew)); exact HO4010.out) hb); have n2_ := Aside0.mk (below_step (by repeat (first | exact HB.out | apply below_alloc | apply pw_below_drewN | apply below_drew1)) hb); clear HO4006; clear HO4010; clear HB; have HO4006 := n0_; have HO4010 := n1_; have HB := n2_; clear n0_ n1_ n2_; (try clear hb); (try clear hb2); (try clear hk); (try clear hi); obtain ⟨Ao22, co22, eo22⟩ := Kd.R_slice HO4006.out; subst eo22; obtain ⟨Ao23, co23, eo23⟩ := Kd.R_slice HO4010.out; subst eo23) | ((with_reducible refine gate_callee (f := 17) rfl ?_); refine goesL_ (some 48) rfl rfl Try.func17 (by kernel_rfl) rfl #[.slice Ao22 t4003.length co22, .slice Ao23 t4007.length co23] rfl (by (try simp only [List.map_toArray, List.map_cons, List.map_nil]); first | done | rfl | (simp only [List.length_drop, List.length_take]; rfl)) ?_; (with_reducible refine (papermillref04_Same.calls k _ _ t4003 _ _ t4007 true _ ?side1 ?side2 ?side3 ?side4 A12.out).mono ?_); (case side1 => repeat (first | exact (Kd.R_reads' HO4006.out).2.2 | (with_reducible refine Kd.C_alloc ?_ _) | (with_reducible refine Kd.C_drewN ?_ _) | (with_reducible refine Kd.C_drew ?_))); (case side2 => exact (Kd.R_reads' HO4006.out).2.1); (case side3 => repeat (first | exact (Kd.R_reads' HO4010.out).2.2 | (with_reducible refine Kd.C_alloc ?_ _) | (with_reducible refine Kd.C_drewN ?_ _) | (with_reducible refine Kd.C_drew ?_))); (case side4 => exact (Kd.R_reads' HO4010.out).2.1); rintro e w' ⟨rfl, ⟨nd, rfl⟩⟩; refine ⟨_, rfl, ?_⟩) | (go_at_call 12; (with_reducible refine (papermilllaw40_awake.calls  t4016 _ A17.out).mono ?_); rintro e w24 ⟨rfl, hb⟩; have n0_ := Aside0.mk (Kd.R_below (by (with_reducible repeat (first | apply Kd.R_alloc | apply Kd.R_drewN | apply Kd.R_drew)); exact HO4006.out) hb); have n1_ := Aside0.mk (Kd.R_below (by (with_reducible repeat (first | apply Kd.R_alloc | apply Kd.R_drewN | apply Kd.R_drew)); exact HO4010.out) hb); have n2_ := Aside0.mk (below_step (by repeat (first | exact HB.out | apply below_alloc | apply pw_below_drewN | apply below_drew1)) hb); clear HO4006; clear HO4010; clear HB; have HO4006 := n0_; have HO4010 := n1_; have HB := n2_; clear n0_ n1_ n2_; (try clear hb); (try clear hb2); (try clear hk); (try clear hi)))
      go_ret
      exact ⟨by first | rfl | (simp [errW_none, errW_some] <;> rfl) | (simp [*, errW_none, errW_some] <;> rfl), by repeat (first | exact HB.out | apply below_alloc | apply pw_below_drewN | apply below_drew1)⟩
     ·rw [if_neg c16] at H
      have c16b0 : (t4012 == t4014) = false := beq_eq_false_iff_ne.mpr c16
      have c16b1 : (t4012 != t4014) = true := bne_iff_ne.mpr c16
      obtain rfl := Option.some.inj H
      go_enter Try.func3, Try.ntmps3
      go_wp2_with (first | ((with_reducible refine gate_callee (f := 11) rfl ?_); refine goesL_ (some 16) rfl rfl Try.func11 (by kernel_rfl) rfl #[.slice A1 l1.length c1] rfl (by (try simp only [List.map_toArray, List.map_cons, List.map_nil]); first | done | rfl | (simp only [List.length_drop, List.length_take]; rfl)) ?_; (with_reducible refine (papermilllaw40_great.calls _ _ l1 false _ ?side1 ?side2 A4.out).mono ?_); (case side1 => repeat (first | exact HR1.out | (with_reducible refine Kd.C_alloc ?_ _) | (with_reducible refine Kd.C_drewN ?_ _) | (with_reducible refine Kd.C_drew ?_))); (case side2 => exact HC1.out); rintro e w' ⟨rfl, ⟨nd, rfl⟩⟩; refine ⟨_, rfl, ?_⟩) | ((with_reducible refine gate_callee (f := 13) rfl ?_); refine goesL_ (some 22) rfl rfl Try.func13 (by kernel_rfl) rfl #[.int .i64 a0, .slice A1 l1.length c1, .int .i64 a2] rfl (by (try simp only [List.map_toArray, List.map_cons, List.map_nil]); first | done | rfl | (simp only [List.length_drop, List.length_take]; rfl)) ?_; (with_reducible refine (splice_Keep.calls a0 _ _ l1 a2 t4003 t4004 _ ?side1 ?side2 A8.out).mono ?_); (case side1 => repeat (first | exact HR1.out | (with_reducible refine Kd.C_alloc ?_ _) | (with_reducible refine Kd.C_drewN ?_ _) | (with_reducible refine Kd.C_drew ?_))); (case side2 => exact HC1.out); rintro e w25 ⟨v4005, rfl, ho0, hb⟩; refine ⟨_, rfl, ?_⟩; have n0_ := Aside0.mk (Kd.R_lower ho0 (below_size (by repeat (first | exact HB.out | apply below_alloc | apply pw_below_drewN | apply below_drew1)))); have n1_ := Aside0.mk (below_step (by repeat (first | exact HB.out | apply below_alloc | apply pw_below_drewN | apply below_drew1)) hb); clear HB; have HO4006 := n0_; have HB := n1_; clear n0_ n1_; (try clear hb); (try clear hb2); (try clear hk); (try clear hi); (try clear ho0)) | ((with_reducible refine gate_callee (f := 14) rfl ?_); refine goesL_ (some 29) rfl rfl Try.func14 (by kernel_rfl) rfl #[.int .i64 a0, .slice A1 l1.length c1, .int .i64 a2] rfl (by (try simp only [List.map_toArray, List.map_cons, List.map_nil]); first | done | rfl | (simp only [List.length_drop, List.length_take]; rfl)) ?_; (with_reducible refine (papermillref40_Keep.calls k a0 _ _ l1 a2 t4007 t4008 _ ?side1 ?side2 A9.out).mono ?_); (case side1 => repeat (first | exact (Kd.C_below HR1.out HB.out) | (with_reducible refine Kd.C_alloc ?_ _) | (with_reducible refine Kd.C_drewN ?_ _) | (with_reducible refine Kd.C_drew ?_))); (case side2 => exact HC1.out); rintro e w26 ⟨v4009, rfl, ho0, hb⟩; refine ⟨_, rfl, ?_⟩; have n0_ := Aside0.mk (Kd.R_elder' (by (with_reducible repeat (first | apply Kd.R_alloc | apply Kd.R_drewN | apply Kd.R_drew)); exact HO4006.out) (Kd.R_base ho0) hb); have n1_ := Aside0.mk (Kd.R_lower (Kd.R_new' ho0 (Kd.R_lt (by (with_reducible repeat (first | apply Kd.R_alloc | apply Kd.R_drewN | apply Kd.R_drew)); exact HO4006.out))) (below_size (by repeat (first | exact HB.out | apply below_alloc | apply pw_below_drewN | apply below_drew1)))); have n2_ := Aside0.mk (below_step (by repeat (first | exact HB.out | apply below_alloc | apply pw_below_drewN | apply below_drew1)) hb); clear HO4006; clear HB; have HO4006 := n0_; have HO4010 := n1_; have HB := n2_; clear n0_ n1_ n2_; (try clear hb); (try clear hb2); (try clear hk); (try clear hi); (try clear ho0)) | ((with_reducible refine gate_callee (f := 15) rfl ?_); refine goesL_ (some 36) rfl rfl Try.func15 (by kernel_rfl) rfl #[.int .i64 a0, .slice A1 l1.length c1, .int .i64 a2] rfl (by (try simp only [List.map_toArray, List.map_cons, List.map_nil]); first | done | rfl | (simp only [List.length_drop, List.length_take]; rfl)) ?_; (with_reducible refine (splice_Waste.calls k a0 _ _ l1 a2 t4011 t4012 _ ?side1 ?side2 A10.out).mono ?_); (case side1 => repeat (first | exact (Kd.C_below HR1.out HB.out) | (with_reducible refine Kd.C_alloc ?_ _) | (with_reducible refine Kd.C_drewN ?_ _) | (with_reducible refine Kd.C_drew ?_))); (case side2 => exact HC1.out); rintro e w27 ⟨rfl, hb⟩; refine ⟨_, rfl, ?_⟩; have n0_ := Aside0.mk (Kd.R_below (by (with_reducible repeat (first | apply Kd.R_alloc | apply Kd.R_drewN | apply Kd.R_drew)); exact HO4006.out) hb); have n1_ := Aside0.mk (Kd.R_below (by (with_reducible repeat (first | apply Kd.R_alloc | apply Kd.R_drewN | apply Kd.R_drew)); exact HO4010.out) hb); have n2_ := Aside0.mk (below_step (by repeat (first | exact HB.out | apply below_alloc | apply pw_below_drewN | apply below_drew1)) hb); clear HO4006; clear HO4010; clear HB; have HO4006 := n0_; have HO4010 := n1_; have HB := n2_; clear n0_ n1_ n2_; (try clear hb); (try clear hb2); (try clear hk); (try clear hi)) | ((with_reducible refine gate_callee (f := 16) rfl ?_); refine goesL_ (some 43) rfl rfl Try.func16 (by kernel_rfl) rfl #[.int .i64 a0, .slice A1 l1.length c1, .int .i64 a2] rfl (by (try simp only [List.map_toArray, List.map_cons, List.map_nil]); first | done | rfl | (simp only [List.length_drop, List.length_take]; rfl)) ?_; (with_reducible refine (papermillref40_Waste.calls k a0 _ _ l1 a2 t4013 t4014 _ ?side1 ?side2 A11.out).mono ?_); (case side1 => repeat (first | exact (Kd.C_below HR1.out HB.out) | (with_reducible refine Kd.C_alloc ?_ _) | (with_reducible refine Kd.C_drewN ?_ _) | (with_reducible refine Kd.C_drew ?_))); (case side2 => exact HC1.out); rintro e w28 ⟨rfl, hb⟩; refine ⟨_, rfl, ?_⟩; have n0_ := Aside0.mk (Kd.R_below (by (with_reducible repeat (first | apply Kd.R_alloc | apply Kd.R_drewN | apply Kd.R_drew)); exact HO4006.out) hb); have n1_ := Aside0.mk (Kd.R_below (by (with_reducible repeat (first | apply Kd.R_alloc | apply Kd.R_drewN | apply Kd.R_drew)); exact HO4010.out) hb); have n2_ := Aside0.mk (below_step (by repeat (first | exact HB.out | apply below_alloc | apply pw_below_drewN | apply below_drew1)) hb); clear HO4006; clear HO4010; clear HB; have HO4006 := n0_; have HO4010 := n1_; have HB := n2_; clear n0_ n1_ n2_; (try clear hb); (try clear hb2); (try clear hk); (try clear hi); obtain ⟨Ao29, co29, eo29⟩ := Kd.R_slice HO4006.out; subst eo29; obtain ⟨Ao30, co30, eo30⟩ := Kd.R_slice HO4010.out; subst eo30) | ((with_reducible refine gate_callee (f := 17) rfl ?_); refine goesL_ (some 48) rfl rfl Try.func17 (by kernel_rfl) rfl #[.slice Ao29 t4003.length co29, .slice Ao30 t4007.length co30] rfl (by (try simp only [List.map_toArray, List.map_cons, List.map_nil]); first | done | rfl | (simp only [List.length_drop, List.length_take]; rfl)) ?_; (with_reducible refine (papermillref04_Same.calls k _ _ t4003 _ _ t4007 true _ ?side1 ?side2 ?side3 ?side4 A12.out).mono ?_); (case side1 => repeat (first | exact (Kd.R_reads' HO4006.out).2.2 | (with_reducible refine Kd.C_alloc ?_ _) | (with_reducible refine Kd.C_drewN ?_ _) | (with_reducible refine Kd.C_drew ?_))); (case side2 => exact (Kd.R_reads' HO4006.out).2.1); (case side3 => repeat (first | exact (Kd.R_reads' HO4010.out).2.2 | (with_reducible refine Kd.C_alloc ?_ _) | (with_reducible refine Kd.C_drewN ?_ _) | (with_reducible refine Kd.C_drew ?_))); (case side4 => exact (Kd.R_reads' HO4010.out).2.1); rintro e w' ⟨rfl, ⟨nd, rfl⟩⟩; refine ⟨_, rfl, ?_⟩))
      go_ret
      exact ⟨by first | rfl | (simp [errW_none, errW_some] <;> rfl) | (simp [*, errW_none, errW_some] <;> rfl), by repeat (first | exact HB.out | apply below_alloc | apply pw_below_drewN | apply below_drew1)⟩
    ·rw [if_neg c15] at H
     have c15b0 : (t4011 == t4013) = false := beq_eq_false_iff_ne.mpr c15
     have c15b1 : (t4011 != t4013) = true := bne_iff_ne.mpr c15
     obtain rfl := Option.some.inj H
     go_enter Try.func3, Try.ntmps3
     go_wp2_with (first | ((with_reducible refine gate_callee (f := 11) rfl ?_); refine goesL_ (some 16) rfl rfl Try.func11 (by kernel_rfl) rfl #[.slice A1 l1.length c1] rfl (by (try simp only [List.map_toArray, List.map_cons, List.map_nil]); first | done | rfl | (simp only [List.length_drop, List.length_take]; rfl)) ?_; (with_reducible refine (papermilllaw40_great.calls _ _ l1 false _ ?side1 ?side2 A4.out).mono ?_); (case side1 => repeat (first | exact HR1.out | (with_reducible refine Kd.C_alloc ?_ _) | (with_reducible refine Kd.C_drewN ?_ _) | (with_reducible refine Kd.C_drew ?_))); (case side2 => exact HC1.out); rintro e w' ⟨rfl, ⟨nd, rfl⟩⟩; refine ⟨_, rfl, ?_⟩) | ((with_reducible refine gate_callee (f := 13) rfl ?_); refine goesL_ (some 22) rfl rfl Try.func13 (by kernel_rfl) rfl #[.int .i64 a0, .slice A1 l1.length c1, .int .i64 a2] rfl (by (try simp only [List.map_toArray, List.map_cons, List.map_nil]); first | done | rfl | (simp only [List.length_drop, List.length_take]; rfl)) ?_; (with_reducible refine (splice_Keep.calls a0 _ _ l1 a2 t4003 t4004 _ ?side1 ?side2 A8.out).mono ?_); (case side1 => repeat (first | exact HR1.out | (with_reducible refine Kd.C_alloc ?_ _) | (with_reducible refine Kd.C_drewN ?_ _) | (with_reducible refine Kd.C_drew ?_))); (case side2 => exact HC1.out); rintro e w31 ⟨v4005, rfl, ho0, hb⟩; refine ⟨_, rfl, ?_⟩; have n0_ := Aside0.mk (Kd.R_lower ho0 (below_size (by repeat (first | exact HB.out | apply below_alloc | apply pw_below_drewN | apply below_drew1)))); have n1_ := Aside0.mk (below_step (by repeat (first | exact HB.out | apply below_alloc | apply pw_below_drewN | apply below_drew1)) hb); clear HB; have HO4006 := n0_; have HB := n1_; clear n0_ n1_; (try clear hb); (try clear hb2); (try clear hk); (try clear hi); (try clear ho0)) | ((with_reducible refine gate_callee (f := 14) rfl ?_); refine goesL_ (some 29) rfl rfl Try.func14 (by kernel_rfl) rfl #[.int .i64 a0, .slice A1 l1.length c1, .int .i64 a2] rfl (by (try simp only [List.map_toArray, List.map_cons, List.map_nil]); first | done | rfl | (simp only [List.length_drop, List.length_take]; rfl)) ?_; (with_reducible refine (papermillref40_Keep.calls k a0 _ _ l1 a2 t4007 t4008 _ ?side1 ?side2 A9.out).mono ?_); (case side1 => repeat (first | exact (Kd.C_below HR1.out HB.out) | (with_reducible refine Kd.C_alloc ?_ _) | (with_reducible refine Kd.C_drewN ?_ _) | (with_reducible refine Kd.C_drew ?_))); (case side2 => exact HC1.out); rintro e w32 ⟨v4009, rfl, ho0, hb⟩; refine ⟨_, rfl, ?_⟩; have n0_ := Aside0.mk (Kd.R_elder' (by (with_reducible repeat (first | apply Kd.R_alloc | apply Kd.R_drewN | apply Kd.R_drew)); exact HO4006.out) (Kd.R_base ho0) hb); have n1_ := Aside0.mk (Kd.R_lower (Kd.R_new' ho0 (Kd.R_lt (by (with_reducible repeat (first | apply Kd.R_alloc | apply Kd.R_drewN | apply Kd.R_drew)); exact HO4006.out))) (below_size (by repeat (first | exact HB.out | apply below_alloc | apply pw_below_drewN | apply below_drew1)))); have n2_ := Aside0.mk (below_step (by repeat (first | exact HB.out | apply below_alloc | apply pw_below_drewN | apply below_drew1)) hb); clear HO4006; clear HB; have HO4006 := n0_; have HO4010 := n1_; have HB := n2_; clear n0_ n1_ n2_; (try clear hb); (try clear hb2); (try clear hk); (try clear hi); (try clear ho0)) | ((with_reducible refine gate_callee (f := 15) rfl ?_); refine goesL_ (some 36) rfl rfl Try.func15 (by kernel_rfl) rfl #[.int .i64 a0, .slice A1 l1.length c1, .int .i64 a2] rfl (by (try simp only [List.map_toArray, List.map_cons, List.map_nil]); first | done | rfl | (simp only [List.length_drop, List.length_take]; rfl)) ?_; (with_reducible refine (splice_Waste.calls k a0 _ _ l1 a2 t4011 t4012 _ ?side1 ?side2 A10.out).mono ?_); (case side1 => repeat (first | exact (Kd.C_below HR1.out HB.out) | (with_reducible refine Kd.C_alloc ?_ _) | (with_reducible refine Kd.C_drewN ?_ _) | (with_reducible refine Kd.C_drew ?_))); (case side2 => exact HC1.out); rintro e w33 ⟨rfl, hb⟩; refine ⟨_, rfl, ?_⟩; have n0_ := Aside0.mk (Kd.R_below (by (with_reducible repeat (first | apply Kd.R_alloc | apply Kd.R_drewN | apply Kd.R_drew)); exact HO4006.out) hb); have n1_ := Aside0.mk (Kd.R_below (by (with_reducible repeat (first | apply Kd.R_alloc | apply Kd.R_drewN | apply Kd.R_drew)); exact HO4010.out) hb); have n2_ := Aside0.mk (below_step (by repeat (first | exact HB.out | apply below_alloc | apply pw_below_drewN | apply below_drew1)) hb); clear HO4006; clear HO4010; clear HB; have HO4006 := n0_; have HO4010 := n1_; have HB := n2_; clear n0_ n1_ n2_; (try clear hb); (try clear hb2); (try clear hk); (try clear hi)) | ((with_reducible refine gate_callee (f := 16) rfl ?_); refine goesL_ (some 43) rfl rfl Try.func16 (by kernel_rfl) rfl #[.int .i64 a0, .slice A1 l1.length c1, .int .i64 a2] rfl (by (try simp only [List.map_toArray, List.map_cons, List.map_nil]); first | done | rfl | (simp only [List.length_drop, List.length_take]; rfl)) ?_; (with_reducible refine (papermillref40_Waste.calls k a0 _ _ l1 a2 t4013 t4014 _ ?side1 ?side2 A11.out).mono ?_); (case side1 => repeat (first | exact (Kd.C_below HR1.out HB.out) | (with_reducible refine Kd.C_alloc ?_ _) | (with_reducible refine Kd.C_drewN ?_ _) | (with_reducible refine Kd.C_drew ?_))); (case side2 => exact HC1.out); rintro e w34 ⟨rfl, hb⟩; refine ⟨_, rfl, ?_⟩; have n0_ := Aside0.mk (Kd.R_below (by (with_reducible repeat (first | apply Kd.R_alloc | apply Kd.R_drewN | apply Kd.R_drew)); exact HO4006.out) hb); have n1_ := Aside0.mk (Kd.R_below (by (with_reducible repeat (first | apply Kd.R_alloc | apply Kd.R_drewN | apply Kd.R_drew)); exact HO4010.out) hb); have n2_ := Aside0.mk (below_step (by repeat (first | exact HB.out | apply below_alloc | apply pw_below_drewN | apply below_drew1)) hb); clear HO4006; clear HO4010; clear HB; have HO4006 := n0_; have HO4010 := n1_; have HB := n2_; clear n0_ n1_ n2_; (try clear hb); (try clear hb2); (try clear hk); (try clear hi); obtain ⟨Ao35, co35, eo35⟩ := Kd.R_slice HO4006.out; subst eo35; obtain ⟨Ao36, co36, eo36⟩ := Kd.R_slice HO4010.out; subst eo36) | ((with_reducible refine gate_callee (f := 17) rfl ?_); refine goesL_ (some 48) rfl rfl Try.func17 (by kernel_rfl) rfl #[.slice Ao35 t4003.length co35, .slice Ao36 t4007.length co36] rfl (by (try simp only [List.map_toArray, List.map_cons, List.map_nil]); first | done | rfl | (simp only [List.length_drop, List.length_take]; rfl)) ?_; (with_reducible refine (papermillref04_Same.calls k _ _ t4003 _ _ t4007 true _ ?side1 ?side2 ?side3 ?side4 A12.out).mono ?_); (case side1 => repeat (first | exact (Kd.R_reads' HO4006.out).2.2 | (with_reducible refine Kd.C_alloc ?_ _) | (with_reducible refine Kd.C_drewN ?_ _) | (with_reducible refine Kd.C_drew ?_))); (case side2 => exact (Kd.R_reads' HO4006.out).2.1); (case side3 => repeat (first | exact (Kd.R_reads' HO4010.out).2.2 | (with_reducible refine Kd.C_alloc ?_ _) | (with_reducible refine Kd.C_drewN ?_ _) | (with_reducible refine Kd.C_drew ?_))); (case side4 => exact (Kd.R_reads' HO4010.out).2.1); rintro e w' ⟨rfl, ⟨nd, rfl⟩⟩; refine ⟨_, rfl, ?_⟩))
     go_ret
     exact ⟨by first | rfl | (simp [errW_none, errW_some] <;> rfl) | (simp [*, errW_none, errW_some] <;> rfl), by repeat (first | exact HB.out | apply below_alloc | apply pw_below_drewN | apply below_drew1)⟩
   ·rw [if_neg c14] at H
    have c14b0 : (t4004 == t4008) = false := beq_eq_false_iff_ne.mpr c14
    have c14b1 : (t4004 != t4008) = true := bne_iff_ne.mpr c14
    obtain rfl := Option.some.inj H
    go_enter Try.func3, Try.ntmps3
    go_wp2_with (first | ((with_reducible refine gate_callee (f := 11) rfl ?_); refine goesL_ (some 16) rfl rfl Try.func11 (by kernel_rfl) rfl #[.slice A1 l1.length c1] rfl (by (try simp only [List.map_toArray, List.map_cons, List.map_nil]); first | done | rfl | (simp only [List.length_drop, List.length_take]; rfl)) ?_; (with_reducible refine (papermilllaw40_great.calls _ _ l1 false _ ?side1 ?side2 A4.out).mono ?_); (case side1 => repeat (first | exact HR1.out | (with_reducible refine Kd.C_alloc ?_ _) | (with_reducible refine Kd.C_drewN ?_ _) | (with_reducible refine Kd.C_drew ?_))); (case side2 => exact HC1.out); rintro e w' ⟨rfl, ⟨nd, rfl⟩⟩; refine ⟨_, rfl, ?_⟩) | ((with_reducible refine gate_callee (f := 13) rfl ?_); refine goesL_ (some 22) rfl rfl Try.func13 (by kernel_rfl) rfl #[.int .i64 a0, .slice A1 l1.length c1, .int .i64 a2] rfl (by (try simp only [List.map_toArray, List.map_cons, List.map_nil]); first | done | rfl | (simp only [List.length_drop, List.length_take]; rfl)) ?_; (with_reducible refine (splice_Keep.calls a0 _ _ l1 a2 t4003 t4004 _ ?side1 ?side2 A8.out).mono ?_); (case side1 => repeat (first | exact HR1.out | (with_reducible refine Kd.C_alloc ?_ _) | (with_reducible refine Kd.C_drewN ?_ _) | (with_reducible refine Kd.C_drew ?_))); (case side2 => exact HC1.out); rintro e w37 ⟨v4005, rfl, ho0, hb⟩; refine ⟨_, rfl, ?_⟩; have n0_ := Aside0.mk (Kd.R_lower ho0 (below_size (by repeat (first | exact HB.out | apply below_alloc | apply pw_below_drewN | apply below_drew1)))); have n1_ := Aside0.mk (below_step (by repeat (first | exact HB.out | apply below_alloc | apply pw_below_drewN | apply below_drew1)) hb); clear HB; have HO4006 := n0_; have HB := n1_; clear n0_ n1_; (try clear hb); (try clear hb2); (try clear hk); (try clear hi); (try clear ho0)) | ((with_reducible refine gate_callee (f := 14) rfl ?_); refine goesL_ (some 29) rfl rfl Try.func14 (by kernel_rfl) rfl #[.int .i64 a0, .slice A1 l1.length c1, .int .i64 a2] rfl (by (try simp only [List.map_toArray, List.map_cons, List.map_nil]); first | done | rfl | (simp only [List.length_drop, List.length_take]; rfl)) ?_; (with_reducible refine (papermillref40_Keep.calls k a0 _ _ l1 a2 t4007 t4008 _ ?side1 ?side2 A9.out).mono ?_); (case side1 => repeat (first | exact (Kd.C_below HR1.out HB.out) | (with_reducible refine Kd.C_alloc ?_ _) | (with_reducible refine Kd.C_drewN ?_ _) | (with_reducible refine Kd.C_drew ?_))); (case side2 => exact HC1.out); rintro e w38 ⟨v4009, rfl, ho0, hb⟩; refine ⟨_, rfl, ?_⟩; have n0_ := Aside0.mk (Kd.R_elder' (by (with_reducible repeat (first | apply Kd.R_alloc | apply Kd.R_drewN | apply Kd.R_drew)); exact HO4006.out) (Kd.R_base ho0) hb); have n1_ := Aside0.mk (Kd.R_lower (Kd.R_new' ho0 (Kd.R_lt (by (with_reducible repeat (first | apply Kd.R_alloc | apply Kd.R_drewN | apply Kd.R_drew)); exact HO4006.out))) (below_size (by repeat (first | exact HB.out | apply below_alloc | apply pw_below_drewN | apply below_drew1)))); have n2_ := Aside0.mk (below_step (by repeat (first | exact HB.out | apply below_alloc | apply pw_below_drewN | apply below_drew1)) hb); clear HO4006; clear HB; have HO4006 := n0_; have HO4010 := n1_; have HB := n2_; clear n0_ n1_ n2_; (try clear hb); (try clear hb2); (try clear hk); (try clear hi); (try clear ho0)) | ((with_reducible refine gate_callee (f := 15) rfl ?_); refine goesL_ (some 36) rfl rfl Try.func15 (by kernel_rfl) rfl #[.int .i64 a0, .slice A1 l1.length c1, .int .i64 a2] rfl (by (try simp only [List.map_toArray, List.map_cons, List.map_nil]); first | done | rfl | (simp only [List.length_drop, List.length_take]; rfl)) ?_; (with_reducible refine (splice_Waste.calls k a0 _ _ l1 a2 t4011 t4012 _ ?side1 ?side2 A10.out).mono ?_); (case side1 => repeat (first | exact (Kd.C_below HR1.out HB.out) | (with_reducible refine Kd.C_alloc ?_ _) | (with_reducible refine Kd.C_drewN ?_ _) | (with_reducible refine Kd.C_drew ?_))); (case side2 => exact HC1.out); rintro e w39 ⟨rfl, hb⟩; refine ⟨_, rfl, ?_⟩; have n0_ := Aside0.mk (Kd.R_below (by (with_reducible repeat (first | apply Kd.R_alloc | apply Kd.R_drewN | apply Kd.R_drew)); exact HO4006.out) hb); have n1_ := Aside0.mk (Kd.R_below (by (with_reducible repeat (first | apply Kd.R_alloc | apply Kd.R_drewN | apply Kd.R_drew)); exact HO4010.out) hb); have n2_ := Aside0.mk (below_step (by repeat (first | exact HB.out | apply below_alloc | apply pw_below_drewN | apply below_drew1)) hb); clear HO4006; clear HO4010; clear HB; have HO4006 := n0_; have HO4010 := n1_; have HB := n2_; clear n0_ n1_ n2_; (try clear hb); (try clear hb2); (try clear hk); (try clear hi)) | ((with_reducible refine gate_callee (f := 16) rfl ?_); refine goesL_ (some 43) rfl rfl Try.func16 (by kernel_rfl) rfl #[.int .i64 a0, .slice A1 l1.length c1, .int .i64 a2] rfl (by (try simp only [List.map_toArray, List.map_cons, List.map_nil]); first | done | rfl | (simp only [List.length_drop, List.length_take]; rfl)) ?_; (with_reducible refine (papermillref40_Waste.calls k a0 _ _ l1 a2 t4013 t4014 _ ?side1 ?side2 A11.out).mono ?_); (case side1 => repeat (first | exact (Kd.C_below HR1.out HB.out) | (with_reducible refine Kd.C_alloc ?_ _) | (with_reducible refine Kd.C_drewN ?_ _) | (with_reducible refine Kd.C_drew ?_))); (case side2 => exact HC1.out); rintro e w40 ⟨rfl, hb⟩; refine ⟨_, rfl, ?_⟩; have n0_ := Aside0.mk (Kd.R_below (by (with_reducible repeat (first | apply Kd.R_alloc | apply Kd.R_drewN | apply Kd.R_drew)); exact HO4006.out) hb); have n1_ := Aside0.mk (Kd.R_below (by (with_reducible repeat (first | apply Kd.R_alloc | apply Kd.R_drewN | apply Kd.R_drew)); exact HO4010.out) hb); have n2_ := Aside0.mk (below_step (by repeat (first | exact HB.out | apply below_alloc | apply pw_below_drewN | apply below_drew1)) hb); clear HO4006; clear HO4010; clear HB; have HO4006 := n0_; have HO4010 := n1_; have HB := n2_; clear n0_ n1_ n2_; (try clear hb); (try clear hb2); (try clear hk); (try clear hi); obtain ⟨Ao41, co41, eo41⟩ := Kd.R_slice HO4006.out; subst eo41; obtain ⟨Ao42, co42, eo42⟩ := Kd.R_slice HO4010.out; subst eo42) | ((with_reducible refine gate_callee (f := 17) rfl ?_); refine goesL_ (some 48) rfl rfl Try.func17 (by kernel_rfl) rfl #[.slice Ao41 t4003.length co41, .slice Ao42 t4007.length co42] rfl (by (try simp only [List.map_toArray, List.map_cons, List.map_nil]); first | done | rfl | (simp only [List.length_drop, List.length_take]; rfl)) ?_; (with_reducible refine (papermillref04_Same.calls k _ _ t4003 _ _ t4007 true _ ?side1 ?side2 ?side3 ?side4 A12.out).mono ?_); (case side1 => repeat (first | exact (Kd.R_reads' HO4006.out).2.2 | (with_reducible refine Kd.C_alloc ?_ _) | (with_reducible refine Kd.C_drewN ?_ _) | (with_reducible refine Kd.C_drew ?_))); (case side2 => exact (Kd.R_reads' HO4006.out).2.1); (case side3 => repeat (first | exact (Kd.R_reads' HO4010.out).2.2 | (with_reducible refine Kd.C_alloc ?_ _) | (with_reducible refine Kd.C_drewN ?_ _) | (with_reducible refine Kd.C_drew ?_))); (case side4 => exact (Kd.R_reads' HO4010.out).2.1); rintro e w' ⟨rfl, ⟨nd, rfl⟩⟩; refine ⟨_, rfl, ?_⟩))
    go_ret
    exact ⟨by first | rfl | (simp [errW_none, errW_some] <;> rfl) | (simp [*, errW_none, errW_some] <;> rfl), by repeat (first | exact HB.out | apply below_alloc | apply pw_below_drewN | apply below_drew1)⟩
  ·replace c13 := Bool.eq_false_iff.mpr c13
   subst c13
   have H1 : (some false) = some r := by rw [if_neg (show ¬ (false = true) by decide)] at H; first | exact H | simpa using H
   clear H
   have H := H1
   clear H1
   obtain rfl := Option.some.inj H
   go_enter Try.func3, Try.ntmps3
   go_wp2_with (first | ((with_reducible refine gate_callee (f := 11) rfl ?_); refine goesL_ (some 16) rfl rfl Try.func11 (by kernel_rfl) rfl #[.slice A1 l1.length c1] rfl (by (try simp only [List.map_toArray, List.map_cons, List.map_nil]); first | done | rfl | (simp only [List.length_drop, List.length_take]; rfl)) ?_; (with_reducible refine (papermilllaw40_great.calls _ _ l1 false _ ?side1 ?side2 A4.out).mono ?_); (case side1 => repeat (first | exact HR1.out | (with_reducible refine Kd.C_alloc ?_ _) | (with_reducible refine Kd.C_drewN ?_ _) | (with_reducible refine Kd.C_drew ?_))); (case side2 => exact HC1.out); rintro e w' ⟨rfl, ⟨nd, rfl⟩⟩; refine ⟨_, rfl, ?_⟩) | ((with_reducible refine gate_callee (f := 13) rfl ?_); refine goesL_ (some 22) rfl rfl Try.func13 (by kernel_rfl) rfl #[.int .i64 a0, .slice A1 l1.length c1, .int .i64 a2] rfl (by (try simp only [List.map_toArray, List.map_cons, List.map_nil]); first | done | rfl | (simp only [List.length_drop, List.length_take]; rfl)) ?_; (with_reducible refine (splice_Keep.calls a0 _ _ l1 a2 t4003 t4004 _ ?side1 ?side2 A8.out).mono ?_); (case side1 => repeat (first | exact HR1.out | (with_reducible refine Kd.C_alloc ?_ _) | (with_reducible refine Kd.C_drewN ?_ _) | (with_reducible refine Kd.C_drew ?_))); (case side2 => exact HC1.out); rintro e w43 ⟨v4005, rfl, ho0, hb⟩; refine ⟨_, rfl, ?_⟩; have n0_ := Aside0.mk (Kd.R_lower ho0 (below_size (by repeat (first | exact HB.out | apply below_alloc | apply pw_below_drewN | apply below_drew1)))); have n1_ := Aside0.mk (below_step (by repeat (first | exact HB.out | apply below_alloc | apply pw_below_drewN | apply below_drew1)) hb); clear HB; have HO4006 := n0_; have HB := n1_; clear n0_ n1_; (try clear hb); (try clear hb2); (try clear hk); (try clear hi); (try clear ho0)) | ((with_reducible refine gate_callee (f := 14) rfl ?_); refine goesL_ (some 29) rfl rfl Try.func14 (by kernel_rfl) rfl #[.int .i64 a0, .slice A1 l1.length c1, .int .i64 a2] rfl (by (try simp only [List.map_toArray, List.map_cons, List.map_nil]); first | done | rfl | (simp only [List.length_drop, List.length_take]; rfl)) ?_; (with_reducible refine (papermillref40_Keep.calls k a0 _ _ l1 a2 t4007 t4008 _ ?side1 ?side2 A9.out).mono ?_); (case side1 => repeat (first | exact (Kd.C_below HR1.out HB.out) | (with_reducible refine Kd.C_alloc ?_ _) | (with_reducible refine Kd.C_drewN ?_ _) | (with_reducible refine Kd.C_drew ?_))); (case side2 => exact HC1.out); rintro e w44 ⟨v4009, rfl, ho0, hb⟩; refine ⟨_, rfl, ?_⟩; have n0_ := Aside0.mk (Kd.R_elder' (by (with_reducible repeat (first | apply Kd.R_alloc | apply Kd.R_drewN | apply Kd.R_drew)); exact HO4006.out) (Kd.R_base ho0) hb); have n1_ := Aside0.mk (Kd.R_lower (Kd.R_new' ho0 (Kd.R_lt (by (with_reducible repeat (first | apply Kd.R_alloc | apply Kd.R_drewN | apply Kd.R_drew)); exact HO4006.out))) (below_size (by repeat (first | exact HB.out | apply below_alloc | apply pw_below_drewN | apply below_drew1)))); have n2_ := Aside0.mk (below_step (by repeat (first | exact HB.out | apply below_alloc | apply pw_below_drewN | apply below_drew1)) hb); clear HO4006; clear HB; have HO4006 := n0_; have HO4010 := n1_; have HB := n2_; clear n0_ n1_ n2_; (try clear hb); (try clear hb2); (try clear hk); (try clear hi); (try clear ho0)) | ((with_reducible refine gate_callee (f := 15) rfl ?_); refine goesL_ (some 36) rfl rfl Try.func15 (by kernel_rfl) rfl #[.int .i64 a0, .slice A1 l1.length c1, .int .i64 a2] rfl (by (try simp only [List.map_toArray, List.map_cons, List.map_nil]); first | done | rfl | (simp only [List.length_drop, List.length_take]; rfl)) ?_; (with_reducible refine (splice_Waste.calls k a0 _ _ l1 a2 t4011 t4012 _ ?side1 ?side2 A10.out).mono ?_); (case side1 => repeat (first | exact (Kd.C_below HR1.out HB.out) | (with_reducible refine Kd.C_alloc ?_ _) | (with_reducible refine Kd.C_drewN ?_ _) | (with_reducible refine Kd.C_drew ?_))); (case side2 => exact HC1.out); rintro e w45 ⟨rfl, hb⟩; refine ⟨_, rfl, ?_⟩; have n0_ := Aside0.mk (Kd.R_below (by (with_reducible repeat (first | apply Kd.R_alloc | apply Kd.R_drewN | apply Kd.R_drew)); exact HO4006.out) hb); have n1_ := Aside0.mk (Kd.R_below (by (with_reducible repeat (first | apply Kd.R_alloc | apply Kd.R_drewN | apply Kd.R_drew)); exact HO4010.out) hb); have n2_ := Aside0.mk (below_step (by repeat (first | exact HB.out | apply below_alloc | apply pw_below_drewN | apply below_drew1)) hb); clear HO4006; clear HO4010; clear HB; have HO4006 := n0_; have HO4010 := n1_; have HB := n2_; clear n0_ n1_ n2_; (try clear hb); (try clear hb2); (try clear hk); (try clear hi)) | ((with_reducible refine gate_callee (f := 16) rfl ?_); refine goesL_ (some 43) rfl rfl Try.func16 (by kernel_rfl) rfl #[.int .i64 a0, .slice A1 l1.length c1, .int .i64 a2] rfl (by (try simp only [List.map_toArray, List.map_cons, List.map_nil]); first | done | rfl | (simp only [List.length_drop, List.length_take]; rfl)) ?_; (with_reducible refine (papermillref40_Waste.calls k a0 _ _ l1 a2 t4013 t4014 _ ?side1 ?side2 A11.out).mono ?_); (case side1 => repeat (first | exact (Kd.C_below HR1.out HB.out) | (with_reducible refine Kd.C_alloc ?_ _) | (with_reducible refine Kd.C_drewN ?_ _) | (with_reducible refine Kd.C_drew ?_))); (case side2 => exact HC1.out); rintro e w46 ⟨rfl, hb⟩; refine ⟨_, rfl, ?_⟩; have n0_ := Aside0.mk (Kd.R_below (by (with_reducible repeat (first | apply Kd.R_alloc | apply Kd.R_drewN | apply Kd.R_drew)); exact HO4006.out) hb); have n1_ := Aside0.mk (Kd.R_below (by (with_reducible repeat (first | apply Kd.R_alloc | apply Kd.R_drewN | apply Kd.R_drew)); exact HO4010.out) hb); have n2_ := Aside0.mk (below_step (by repeat (first | exact HB.out | apply below_alloc | apply pw_below_drewN | apply below_drew1)) hb); clear HO4006; clear HO4010; clear HB; have HO4006 := n0_; have HO4010 := n1_; have HB := n2_; clear n0_ n1_ n2_; (try clear hb); (try clear hb2); (try clear hk); (try clear hi); obtain ⟨Ao47, co47, eo47⟩ := Kd.R_slice HO4006.out; subst eo47; obtain ⟨Ao48, co48, eo48⟩ := Kd.R_slice HO4010.out; subst eo48) | ((with_reducible refine gate_callee (f := 17) rfl ?_); refine goesL_ (some 48) rfl rfl Try.func17 (by kernel_rfl) rfl #[.slice Ao47 t4003.length co47, .slice Ao48 t4007.length co48] rfl (by (try simp only [List.map_toArray, List.map_cons, List.map_nil]); first | done | rfl | (simp only [List.length_drop, List.length_take]; rfl)) ?_; (with_reducible refine (papermillref04_Same.calls k _ _ t4003 _ _ t4007 false _ ?side1 ?side2 ?side3 ?side4 A12.out).mono ?_); (case side1 => repeat (first | exact (Kd.R_reads' HO4006.out).2.2 | (with_reducible refine Kd.C_alloc ?_ _) | (with_reducible refine Kd.C_drewN ?_ _) | (with_reducible refine Kd.C_drew ?_))); (case side2 => exact (Kd.R_reads' HO4006.out).2.1); (case side3 => repeat (first | exact (Kd.R_reads' HO4010.out).2.2 | (with_reducible refine Kd.C_alloc ?_ _) | (with_reducible refine Kd.C_drewN ?_ _) | (with_reducible refine Kd.C_drew ?_))); (case side4 => exact (Kd.R_reads' HO4010.out).2.1); rintro e w' ⟨rfl, ⟨nd, rfl⟩⟩; refine ⟨_, rfl, ?_⟩))
   go_ret
   exact ⟨by first | rfl | (simp [errW_none, errW_some] <;> rfl) | (simp [*, errW_none, errW_some] <;> rfl), by repeat (first | exact HB.out | apply below_alloc | apply pw_below_drewN | apply below_drew1)⟩

end Go.Proofs.Ytjkakgkiikjdmaa.G

namespace Go.Proofs.Ytjkakgkiikjdmaa.G
open Go.RowKit Go.Proofs.YtjkakgkiikjdmaaW.PrintWords Go.Proofs.YtjkakgkiikjdmaaW.PrintLast Go.Proofs.YtjkakgkiikjdmaaW.PrintMore
set_option linter.unusedVariables false
set_option linter.unusedSimpArgs false
theorem with_l0 (l : List Int) (n : Int) (hl : l.length < 1000000) : ∀ (d i : Nat), l.length - i = d → i ≤ l.length → Ends (fun k => papermillref04_with.l0 k l n (i : Int)) (l.take i ++ withOf (l.drop i) n) := by
 intro d
 induction d with
 | zero =>
  intro i hd hi
  rw [List.drop_of_length_le (by omega)]
  refine Ends.succ ?_
  simp only [papermillref04_with.l0, Option.bind_some, Int.toNat_natCast, List.nil_append]
  refine Ends.neg (by omega) (Ends.pos (by omega) (Ends.pos (by omega) (Ends.pos (by simp only [List.length_nil, List.length_take]; omega) (Ends.pos (by simp only [List.length_append, List.length_take]; omega) (Ends.pos (by simp only [List.length_append, List.length_take, List.length_drop, List.length_cons, List.length_nil]; omega) ?_)))))
  rw [List.drop_of_length_le (l := l) (i := i) (by omega)]
  simpa [withOf] using Ends.ret _
 | succ d ih =>
  intro i hd hi
  have hlen := List.length_drop (i := i) (l := l)
  rw [dropI l i (by omega)] at hlen
  rw [dropI l i (by omega)]
  refine Ends.succ ?_
  simp only [papermillref04_with.l0, Option.bind_some, Int.toNat_natCast, List.nil_append, wrap_nat i (by omega)]
  refine Ends.pos (by omega) (Ends.pos (by omega) ?_)
  by_cases h1 : rd l i < n
  ·refine Ends.pos h1 ?_
   have := ih (i + 1) (by omega) (by omega)
   rw [List.take_succ_eq_append_getElem (by omega), ← rdI l i (by omega)] at this
   simpa [withOf, h1] using this
  ·refine Ends.neg h1 ?_
   by_cases h2 : rd l i = n
   ·refine Ends.pos h2 ?_
    have e : l.take i ++ withOf (rd l i :: l.drop (i + 1)) n = l := by
     rw [withOf, if_neg h1, if_pos h2, ← dropI l i (by omega), List.take_append_drop]
    rw [e]; exact Ends.ret _
   ·refine Ends.neg h2 (Ends.pos (by omega) (Ends.pos (by simp only [List.length_nil, List.length_take]; omega) (Ends.pos (by simp only [List.length_take]; omega) (Ends.pos (by simp only [List.length_append, List.length_take, List.length_drop, List.length_cons, List.length_nil]; omega) ?_))))
    rw [withOf, if_neg h1, if_neg h2, ← dropI l i (by omega)]
    simpa using Ends.ret _
theorem with_ends (l : List Int) (n : Int) (hl : l.length < 1000000) : Ends (fun k => papermillref04_with.f k l n) (withOf l n) := by
 simpa [papermillref04_with.f] using with_l0 l n hl l.length 0 rfl (Nat.zero_le _)
theorem ends_l1 (b : List S49) (hb : b.length ≤ 256) : ∀ (d i : Nat) (o : List Int), b.length - i = d → i ≤ b.length → o.length + 2 * d < 1000000 → Ends (fun k => papermillref04_ends.l1 k b o (i : Int)) ((b.drop i).foldl endStep o) := by
 intro d
 induction d with
 | zero =>
  intro i o hd hi ho
  rw [List.drop_of_length_le (by omega)]
  refine Ends.succ ?_
  simp only [papermillref04_ends.l1]
  exact Ends.neg (by omega) (Ends.ret _)
 | succ d ih =>
  intro i o hd hi ho
  rw [drop36 b i (by omega), List.foldl_cons]
  refine Ends.succ ?_
  simp only [papermillref04_ends.l1, wrap_nat i (by omega)]
  have h1 := withOf_len o (rd_T49 b i).f0
  have h2 := endStep_len o (rd_T49 b i)
  exact Ends.pos (by omega) (Ends.pos (by omega) (Ends.bind (with_ends _ _ (by omega)) (Ends.bind (with_ends _ _ (by omega)) (ih (i + 1) _ (by omega) (by omega) (by show (endStep o (rd_T49 b i)).length + _ < _; omega)))))
theorem ends_l0 (a b : List S49) (ha : a.length ≤ 256) (hb : b.length ≤ 256) : ∀ (d i : Nat) (o : List Int), a.length - i = d → i ≤ a.length → o.length + 2 * d < 900000 → Ends (fun k => papermillref04_ends.l0 k a b o (i : Int)) (b.foldl endStep ((a.drop i).foldl endStep o)) := by
 intro d
 induction d with
 | zero =>
  intro i o hd hi ho
  rw [List.drop_of_length_le (by omega)]
  refine Ends.succ ?_
  simp only [papermillref04_ends.l0]
  exact Ends.neg (by omega) (by simpa using ends_l1 b hb b.length 0 o rfl (Nat.zero_le _) (by omega))
 | succ d ih =>
  intro i o hd hi ho
  rw [drop36 a i (by omega), List.foldl_cons]
  refine Ends.succ ?_
  simp only [papermillref04_ends.l0, wrap_nat i (by omega)]
  have h1 := withOf_len o (rd_T49 a i).f0
  have h2 := endStep_len o (rd_T49 a i)
  exact Ends.pos (by omega) (Ends.pos (by omega) (Ends.bind (with_ends _ _ (by omega)) (Ends.bind (with_ends _ _ (by omega)) (ih (i + 1) _ (by omega) (by omega) (by show (endStep o (rd_T49 a i)).length + _ < _; omega)))))
theorem ends_ends (a b : List S49) (ha : a.length ≤ 256) (hb : b.length ≤ 256) : Ends (fun k => papermillref04_ends.f k a b) (endsOf a b) := by
 simpa [papermillref04_ends.f, endsOf] using ends_l0 a b ha hb a.length 0 [] rfl (Nat.zero_le _) (by simp; omega)
theorem has_l0 (l : List S49) (x : Int) (hl : l.length < 1000000) : ∀ (d i : Nat), l.length - i = d → i ≤ l.length → Ends (fun k => papermillref04_Has.l0 k l x (i : Int)) (hasOf (l.drop i) x) := by
 intro d
 induction d with
 | zero =>
  intro i hd hi
  rw [List.drop_of_length_le (by omega)]
  refine Ends.succ ?_
  simp only [papermillref04_Has.l0]
  exact Ends.neg (by omega) (Ends.ret _)
 | succ d ih =>
  intro i hd hi
  have := ih (i + 1) (by omega) (by omega)
  rw [drop36 l i (by omega)]
  refine Ends.succ ?_
  simp only [papermillref04_Has.l0, wrap_nat i (by omega)]
  refine Ends.pos (by omega) (Ends.pos (by omega) ?_)
  by_cases h1 : (rd_T49 l i).f0 ≤ x
  ·refine Ends.pos h1 ?_
   by_cases h2 : x < (rd_T49 l i).f1
   ·refine Ends.pos h2 ?_
    simpa [hasOf, h1, h2] using Ends.ret true
   ·refine Ends.neg h2 ?_
    simpa [hasOf, h1, h2] using this
  ·refine Ends.neg h1 ?_
   simpa [hasOf, h1] using this
theorem has_ends (l : List S49) (x : Int) (hl : l.length < 1000000) : Ends (fun k => papermillref04_Has.f k l x) (hasOf l x) := by
 simpa [papermillref04_Has.f] using has_l0 l x hl l.length 0 rfl (Nat.zero_le _)

theorem comb_j1 (a b : List S49) (w : Int) (cuts : List Int) (i : Nat) (out : List S49) (hi : i + 1 < cuts.length) (hc : cuts.length < 1000000) (ho : out.length < 1000000) (sk : Bool) (r : List S49)
  (h : Ends (fun k => papermillref04_combine.l0 k a b w cuts (if sk = true then out else push out (rd cuts i) (rd cuts (i + 1 : Nat))) ((i + 1 : Nat) : Int)) r) :
  Ends (fun k => papermillref04_combine.j1 k a b w cuts out (i : Int) sk) r := by
 refine Ends.succ ?_
 simp only [papermillref04_combine.j1, wrap_nat i (by omega)]
 cases sk with
 | true => exact Ends.pos rfl (by simpa using h)
 | false =>
  refine Ends.neg (by simp) ?_
  simp only [Bool.false_eq_true, if_false] at h
  by_cases h0 : out.length = 0
  ·have e : out = [] := List.length_eq_zero_iff.1 h0
   subst e
   have e2 : push [] (rd cuts i) (rd cuts (i + 1 : Nat)) = [⟨rd cuts i, rd cuts (i + 1 : Nat)⟩] := rfl
   rw [e2] at h
   exact Ends.neg (by simp [wrap64]) (Ends.pos (by omega) (Ends.pos (by omega) (Ends.pos (by omega) (Ends.pos (by omega) (Ends.pos (by omega) h)))))
  ·have hw : wrap64 ((out.length : Int) - 1) = ((out.length - 1 : Nat) : Int) := by unfold wrap64; omega
   have hl := getLast_rd out h0
   simp only [hw, Int.toNat_natCast]
   refine Ends.pos (by omega) (Ends.pos (by omega) (Ends.pos (by omega) (Ends.pos (by omega) (Ends.pos (by omega) ?_))))
   by_cases h1 : (rd_T49 out ((out.length - 1 : Nat) : Int)).f1 = rd cuts i
   ·refine Ends.pos h1 (Ends.pos (by omega) (Ends.pos (by omega) ?_))
    rw [dropLast_set out h0]
    simpa [push, hl, h1] using h
   ·refine Ends.neg h1 (Ends.pos (by omega) (Ends.pos (by omega) (Ends.pos (by omega) ?_)))
    simpa [push, hl, h1] using h
theorem comb_l0 (a b : List S49) (ha : a.length ≤ 256) (hb : b.length ≤ 256) (w : Int) (hw : w = 0 ∨ w = 1 ∨ w = 2) (cuts : List Int) (hc : cuts.length < 10000) : ∀ (d i : Nat) (out : List S49), cuts.length - i = d → i ≤ cuts.length → out.length + d < 900000 → Ends (fun k => papermillref04_combine.l0 k a b w cuts out (i : Int)) (combGo a b w out (cuts.drop i)) := by
 intro d
 induction d with
 | zero =>
  intro i out hd hi ho
  rw [List.drop_of_length_le (by omega)]
  refine Ends.succ ?_
  simp only [papermillref04_combine.l0, wrap_nat i (by omega)]
  exact Ends.neg (by omega) (Ends.ret _)
 | succ d ih =>
  intro i out hd hi ho
  by_cases h1 : i + 1 < cuts.length
  ·rw [dropI cuts i (by omega), dropI cuts (i + 1) h1]
   refine Ends.succ ?_
   simp only [papermillref04_combine.l0, wrap_nat i (by omega)]
   refine Ends.pos (by omega) (Ends.pos (by omega) (Ends.pos (by omega) (Ends.bind (has_ends a _ (by omega)) (Ends.bind (has_ends b _ (by omega)) ?_))))
   have hp := push_len out (rd cuts i) (rd cuts (i + 1 : Nat))
   have hj := comb_j1 a b w cuts i out h1 (by omega) (by omega) (skips w (hasOf a (rd cuts i)) (hasOf b (rd cuts i))) _ (ih (i + 1) _ (by omega) (by omega) (by split <;> omega))
   rw [dropI cuts (i + 1) h1] at hj
   rw [combGo]
   revert hj
   generalize hasOf a (rd cuts i) = p
   generalize hasOf b (rd cuts i) = q
   intro hj
   rcases hw with rfl | rfl | rfl <;> cases p <;> cases q <;> simpa [skips] using hj
  ·refine Ends.succ ?_
   simp only [papermillref04_combine.l0, wrap_nat i (by omega)]
   rw [dropI cuts i (by omega), List.drop_of_length_le (l := cuts) (i := i + 1) (by omega)]
   exact Ends.neg (by omega) (Ends.ret _)
theorem comb_ends (a b : List S49) (ha : a.length ≤ 256) (hb : b.length ≤ 256) (w : Int) (hw : w = 0 ∨ w = 1 ∨ w = 2) : Ends (fun k => papermillref04_combine.f k a b w) (combOf a b w) := by
 have h := endsOf_len a b
 unfold papermillref04_combine.f combOf
 exact Ends.bind (ends_ends a b ha hb) (by simpa using comb_l0 a b ha hb w hw (endsOf a b) (by omega) (endsOf a b).length 0 [] rfl (Nat.zero_le _) (by simp; omega))
theorem check_l0 (l : List S49) (hl : l.length ≤ 256) : ∀ (d i : Nat), l.length - i = d → i ≤ l.length → Ends (fun k => papermillref04_Check.l0 k l (i : Int)) (if ∃ s ∈ l.drop i, badS s then 1 else 0) := by
 intro d
 induction d with
 | zero =>
  intro i hd hi
  rw [List.drop_of_length_le (by omega)]
  refine Ends.succ ?_
  simp only [papermillref04_Check.l0]
  exact Ends.neg (by omega) (by simpa using Ends.ret (0 : Int))
 | succ d ih =>
  intro i hd hi
  have := ih (i + 1) (by omega) (by omega)
  rw [drop36 l i (by omega)]
  refine Ends.succ ?_
  simp only [papermillref04_Check.l0, wrap_nat i (by omega)]
  refine Ends.pos (by omega) (Ends.pos (by omega) ?_)
  by_cases hb : badS (rd_T49 l i)
  ·rw [if_pos ⟨_, by simp, hb⟩]
   unfold badS at hb
   by_cases h1 : (rd_T49 l i).f0 < 0
   ·exact Ends.pos h1 (Ends.ret _)
   ·refine Ends.neg h1 ?_
    by_cases h2 : (rd_T49 l i).f0 > (rd_T49 l i).f1
    ·exact Ends.pos h2 (Ends.ret _)
    ·exact Ends.neg h2 (Ends.pos (by omega) (Ends.ret _))
  ·have e : (∃ s ∈ rd_T49 l i :: l.drop (i + 1), badS s) ↔ ∃ s ∈ l.drop (i + 1), badS s := by
    constructor
    ·rintro ⟨s, hs, k⟩
     rcases List.mem_cons.1 hs with rfl | hs
     ·exact absurd k hb
     ·exact ⟨s, hs, k⟩
    ·rintro ⟨s, hs, k⟩; exact ⟨s, by simp [hs], k⟩
   simp only [e]
   unfold badS at hb
   exact Ends.neg (by omega) (Ends.neg (by omega) (Ends.neg (by omega) this))
theorem check04_ends (l : List S49) : Ends (fun k => papermillref04_Check.f k l) (check04 l) := by
 simp only [papermillref04_Check.f, check04]
 by_cases h : l.length > 256
 ·rw [if_pos h]; exact Ends.pos (by omega) (Ends.ret _)
 ·rw [if_neg h]; exact Ends.neg (by omega) (by simpa using check_l0 l (by omega) l.length 0 rfl (Nat.zero_le _))
theorem both_ends (a b : List S49) (w : Int) (hw : w = 0 ∨ w = 1 ∨ w = 2) : Ends (fun k => papermillref04_both.f k a b w) (bothOf a b w) := by
 unfold papermillref04_both.f bothOf
 refine Ends.bind (check04_ends a) ?_
 by_cases h1 : check04 a = 0
 ·rw [if_pos h1]; refine Ends.pos h1 (Ends.bind (check04_ends b) ?_)
  by_cases h2 : check04 b = 0
  ·rw [if_pos h2]; refine Ends.pos h2 (Ends.bind (comb_ends a b (check04_zero h1).1 (check04_zero h2).1 w hw) ?_)
   by_cases h3 : (combOf a b w).length > 256
   ·rw [if_pos h3]; exact Ends.pos (by omega) (Ends.ret _)
   ·rw [if_neg h3]; exact Ends.neg (by omega) (Ends.ret _)
  ·rw [if_neg h2]; exact Ends.neg h2 (Ends.ret _)
 ·rw [if_neg h1]; exact Ends.neg h1 (Ends.ret _)
end Go.Proofs.Ytjkakgkiikjdmaa.G

namespace Go.Proofs.Ytjkakgkiikjdmaa.G
open Go.RowKit Go.Proofs.YtjkakgkiikjdmaaW.PrintWords Go.Proofs.YtjkakgkiikjdmaaW.PrintLast Go.Proofs.YtjkakgkiikjdmaaW.PrintMore
set_option linter.unusedVariables false
set_option linter.unusedSimpArgs false
theorem same_l0 (l : List S49) (hl : l.length ≤ 1000000) : ∀ (d i : Nat), l.length - i = d → i ≤ l.length → Ends (fun k => papermillref04_Same.l0 k l l (i : Int)) true := by
 intro d
 induction d with
 | zero =>
  intro i hd hi
  refine Ends.succ ?_
  simp only [papermillref04_Same.l0]
  exact Ends.neg (by omega) (Ends.ret _)
 | succ d ih =>
  intro i hd hi
  refine Ends.succ ?_
  simp only [papermillref04_Same.l0, wrap_nat i (by omega)]
  exact Ends.pos (by omega) (Ends.pos (by omega) (Ends.pos (by omega) (Ends.neg (by simp) (ih (i + 1) (by omega) (by omega)))))
theorem same_ends (l : List S49) (hl : l.length ≤ 1000000) : Ends (fun k => papermillref04_Same.f k l l) true := by
 unfold papermillref04_Same.f
 exact Ends.pos rfl (same_l0 l hl _ 0 rfl (by omega))
end Go.Proofs.Ytjkakgkiikjdmaa.G

namespace Go.Proofs.Ytjkakgkiikjdmaa.G
open Go.RowKit Go.Proofs.YtjkakgkiikjdmaaW.PrintWords Go.Proofs.YtjkakgkiikjdmaaW.PrintLast Go.Proofs.YtjkakgkiikjdmaaW.PrintMore
set_option linter.unusedVariables false
set_option linter.unusedSimpArgs false
theorem rnorm_ends (l : List S49) : Ends (fun k => papermillref04_Norm.f k l) (bothOf l [] 0) := by
 unfold papermillref04_Norm.f
 exact Ends.bind (both_ends l [] 0 (.inl rfl)) (Ends.ret _)
end Go.Proofs.Ytjkakgkiikjdmaa.G

namespace Go.Proofs.Ytjkakgkiikjdmaa.G
open Go.RowKit Go.Proofs.YtjkakgkiikjdmaaW.PrintWords Go.Proofs.YtjkakgkiikjdmaaW.PrintLast Go.Proofs.YtjkakgkiikjdmaaW.PrintMore
set_option linter.unusedVariables false
set_option linter.unusedSimpArgs false
def capF (o : List S49) : List S49 × Int := if o.length > 256 then ([], 8) else (o, 0)
theorem rkeep_l0 (n least : Int) (hn : 0 ≤ n ∧ n ≤ 17179869184) (g l : List S49) (hg : g = l ++ [⟨17179869184, 17179869184⟩]) (hl : l.length ≤ 256) (hv : ∀ s ∈ l, 0 ≤ s.f0 ∧ s.f0 ≤ s.f1 ∧ s.f1 ≤ 17179869184) : ∀ (d i : Nat) (o : List S49) (a : Int), l.length - i = d → i ≤ l.length → o.length ≤ i → 0 ≤ a → a ≤ 17179869184 → Ends (fun k => papermillref40_Keep.l0 k n least g o a (i : Int)) (capF (o ++ keepGo n least a (l.drop i))) := by
 intro d
 have hgl : g.length = l.length + 1 := by rw [hg]; simp
 induction d with
 | zero =>
  intro i o a hd hi ho h0 h1
  refine Ends.succ ?_
  obtain rfl : i = l.length := by omega
  have hx : rd_T49 g (l.length : Int) = ⟨17179869184, 17179869184⟩ := by
   rw [rd36 g l.length (by omega)]
   simp [hg]
  have hm : mn 17179869184 n = n := by unfold mn; split <;> omega
  have hw : wrap64 (n - a) = n - a := by unfold wrap64; omega
  simp only [papermillref40_Keep.l0, wrap_nat l.length (by omega), hx, hm, hw]
  rw [List.drop_of_length_le (by omega)]
  have hend : ∀ (o : List S49) (b : Int), Ends (fun k => papermillref40_Keep.l0 k n least g o b ((l.length + 1 : Nat) : Int)) (capF o) := by
   intro o b
   refine Ends.succ ?_
   simp only [papermillref40_Keep.l0]
   refine Ends.neg (by omega) ?_
   unfold capF
   by_cases hc : o.length > 256
   ·rw [if_pos hc]; exact Ends.pos (by omega) (Ends.ret _)
   ·rw [if_neg hc]; exact Ends.neg (by omega) (Ends.ret _)
  unfold keepGo
  refine Ends.pos (by omega) (Ends.pos (by omega) ?_)
  by_cases hk : least ≤ n - a
  ·rw [if_pos hk]
   exact Ends.pos hk (Ends.pos (by omega) (hend _ _))
  ·rw [if_neg hk, List.append_nil]
   exact Ends.neg hk (hend _ _)
 | succ d ih =>
  intro i o a hd hi ho h0 h1
  refine Ends.succ ?_
  have hx : rd_T49 g (i : Int) = rd_T49 l (i : Int) := by
   rw [rd36 g i (by omega), rd36 l i (by omega)]
   simp only [hg]
   rw [List.getElem_append_left (by omega)]
  have hs := hv (rd_T49 l (i : Int)) (by rw [rd36 l i (by omega)]; exact List.getElem_mem _)
  rw [drop36 l i (by omega)]
  simp only [papermillref40_Keep.l0, wrap_nat i (by omega), hx]
  generalize rd_T49 l (i : Int) = s at *
  have hm : mn s.f0 n = min n s.f0 := by unfold mn; split <;> omega
  have hw : wrap64 (min n s.f0 - a) = min n s.f0 - a := by unfold wrap64; omega
  rw [hm, hw]
  unfold keepGo
  refine Ends.pos (by omega) (Ends.pos (by omega) ?_)
  by_cases hk : least ≤ min n s.f0 - a
  ·rw [if_pos hk]
   exact Ends.pos hk (Ends.pos (by omega) ((ih (i + 1) (o ++ [⟨a, min n s.f0⟩]) s.f1 (by omega) (by omega) (by simp; omega) (by omega) (by omega)).congr (by rw [List.append_assoc])))
  ·rw [if_neg hk, List.nil_append]
   exact Ends.neg hk (ih (i + 1) o s.f1 (by omega) (by omega) (by omega) (by omega) (by omega))
theorem rkeep_j0 (n : Int) (bad : List S49) (least : Int) (z : Bool) (hz : z = true → wide n least) (hz2 : z = false → ¬ wide n least) : Ends (fun k => papermillref40_Keep.j0 k n bad least z) (keepOf n bad least) := by
 refine Ends.succ ?_
 simp only [papermillref40_Keep.j0]
 unfold keepOf
 cases z with
 | true => rw [if_pos (hz rfl)]; exact Ends.pos rfl (Ends.ret _)
 | false =>
  have hw := hz2 rfl
  rw [if_neg hw]
  unfold wide at hw
  refine Ends.neg (by simp) (Ends.bind (rnorm_ends bad) ?_)
  by_cases hc : check04 bad = 0
  ·obtain ⟨h1, h2, h3⟩ := joinOf_fit hc
   have hj := joinOf_few hc
   rw [norm_fits hc, if_pos hc]
   simp only [Option.bind_some, List.nil_append]
   refine Ends.pos trivial (Ends.pos (by simp; omega) (Ends.pos (by omega) ?_))
   refine (rkeep_l0 n least (by omega) _ (joinOf bad) rfl hj (fun s hs => by have := h3 s hs; omega) _ 0 [] 0 rfl (by omega) (by simp) (by omega) (by omega)).congr ?_
   rfl
  ·have e : bothOf bad [] 0 = ([], check04 bad) := by unfold bothOf; rw [if_neg hc]
   rw [e, if_neg hc]
   exact Ends.neg hc (Ends.ret _)
theorem rkeep_ends (n : Int) (bad : List S49) (least : Int) : Ends (fun k => papermillref40_Keep.f k n bad least) (keepOf n bad least) := by
 unfold papermillref40_Keep.f
 by_cases h1 : n < 0
 ·exact Ends.pos h1 (rkeep_j0 n bad least true (fun _ => .inl h1) (by simp))
 ·refine Ends.neg h1 ?_
  by_cases h2 : n > 17179869184
  ·exact Ends.pos h2 (rkeep_j0 n bad least true (fun _ => .inr (.inl h2)) (by simp))
  ·refine Ends.neg h2 ?_
   by_cases h3 : least < 1
   ·exact Ends.pos h3 (rkeep_j0 n bad least true (fun _ => .inr (.inr (.inl h3))) (by simp))
   ·refine Ends.neg h3 (rkeep_j0 n bad least _ (fun h => ?_) (fun h => ?_))
    ·exact .inr (.inr (.inr (by simpa using h)))
    ·have := of_decide_eq_false h
     unfold wide
     omega
end Go.Proofs.Ytjkakgkiikjdmaa.G

namespace Go.Proofs.Ytjkakgkiikjdmaa.G
open Go.RowKit Go.Proofs.YtjkakgkiikjdmaaW.PrintWords Go.Proofs.YtjkakgkiikjdmaaW.PrintLast Go.Proofs.YtjkakgkiikjdmaaW.PrintMore
set_option linter.unusedVariables false
set_option linter.unusedSimpArgs false
theorem rtotal_l0 (l : List S49) (e : Int) (hl : l.length ≤ 1000) (hv : ∀ s ∈ l, 0 ≤ s.f0 ∧ s.f0 ≤ s.f1 ∧ s.f1 ≤ 17179869184) : ∀ (d i : Nat) (n : Int), l.length - i = d → i ≤ l.length → 0 ≤ n → n ≤ i * 17179869184 → Ends (fun k => papermillref04_Total.l0 k l e n (i : Int)) (n + tot (l.drop i), e) := by
 intro d
 induction d with
 | zero =>
  intro i n hd hi h0 h1
  refine Ends.succ ?_
  simp only [papermillref04_Total.l0]
  rw [List.drop_of_length_le (by omega)]
  exact Ends.neg (by omega) ((Ends.ret _).congr (by simp [tot]))
 | succ d ih =>
  intro i n hd hi h0 h1
  refine Ends.succ ?_
  have hx := hv (rd_T49 l (i : Int)) (by rw [rd36 l i (by omega)]; exact List.getElem_mem _)
  rw [drop36 l i (by omega), tot_cons]
  simp only [papermillref04_Total.l0, wrap_nat i (by omega)]
  generalize rd_T49 l (i : Int) = s at *
  have e1 : wrap64 (n + s.f1) = n + s.f1 := by unfold wrap64; omega
  have e2 : wrap64 (n + s.f1 - s.f0) = n + (s.f1 - s.f0) := by unfold wrap64; omega
  simp only [e1, e2]
  exact Ends.pos (by omega) (Ends.pos (by omega) ((ih (i + 1) (n + (s.f1 - s.f0)) (by omega) (by omega) (by omega) (by omega)).congr (by rw [Int.add_assoc])))
theorem rtotal_ends (l : List S49) : Ends (fun k => papermillref04_Total.f k l) (totalOf l) := by
 unfold papermillref04_Total.f totalOf
 refine Ends.bind (rnorm_ends l) ?_
 by_cases h0 : check04 l = 0
 ·rw [norm_fits h0, if_pos h0]
  obtain ⟨g0, v0⟩ := good04 h0
  have n0 := joinOf_len l (-1) (fun s hs => by have := v0 s hs; omega)
  have b0 := joinOf_bound l (-1) 17179869184 (fun s hs => by have := v0 s hs; omega)
  exact (rtotal_l0 (joinOf l) 0 (by omega) (fun s hs => by have := b0 s hs; omega) _ 0 0 rfl (by omega) (by omega) (by omega)).congr (by simp)
 ·have e : bothOf l [] 0 = ([], check04 l) := by unfold bothOf; rw [if_neg h0]
  rw [e, if_neg h0]
  exact (rtotal_l0 [] (check04 l) (by simp) (by simp) _ 0 0 rfl (by simp) (by omega) (by omega)).congr (by simp [tot])
end Go.Proofs.Ytjkakgkiikjdmaa.G

namespace Go.Proofs.Ytjkakgkiikjdmaa.G
open Go.RowKit Go.Proofs.YtjkakgkiikjdmaaW.PrintWords Go.Proofs.YtjkakgkiikjdmaaW.PrintLast Go.Proofs.YtjkakgkiikjdmaaW.PrintMore
set_option linter.unusedVariables false
set_option linter.unusedSimpArgs false
theorem rwaste_ends (n : Int) (bad : List S49) (least : Int) : Ends (fun k => papermillref40_Waste.f k n bad least) (wasteOf n bad least) := by
 unfold papermillref40_Waste.f wasteOf
 refine Ends.bind (rkeep_ends n bad least) ?_
 by_cases h : (keepOf n bad least).2 = 0
 ·obtain ⟨h1, h2, h3, h4⟩ := keep_split n bad least h
  rw [if_pos h]
  refine Ends.pos h (Ends.bind (rtotal_ends _) ?_)
  have e : totalOf (keepOf n bad least).1 = (tot (keepOf n bad least).1, 0) := by unfold totalOf; rw [if_pos (h4.check h1), h4.join h1]
  rw [e]
  have ht := h4.tot_
  unfold wide at h1
  have hw : wrap64 (n - tot (keepOf n bad least).1) = n - tot (keepOf n bad least).1 := by unfold wrap64; omega
  simp only [hw]
  exact Ends.ret _
 ·rw [if_neg h]
  exact Ends.neg h (Ends.ret _)
end Go.Proofs.Ytjkakgkiikjdmaa.G
