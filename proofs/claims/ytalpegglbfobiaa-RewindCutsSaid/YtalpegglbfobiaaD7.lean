import Derived.Test.YtalpegglbfobiaaQ1
import Derived.Test.YtalpegglbfobiaaQ4
import Derived.Test.YtalpegglbfobiaaQ5
import Derived.Test.YtalpegglbfobiaaD6
import Derived.Test.YtalpegglbfobiaaQ3
namespace Go.Proofs.Ytalpegglbfobiaa.G
open Go.RowKit Go.Proofs.YtalpegglbfobiaaW.PrintWords Go.Proofs.YtalpegglbfobiaaW.PrintLast Go.Proofs.YtalpegglbfobiaaW.PrintMore
attribute [local go_sem] max2_int min2_int max_two min_two max_three min_three max_four min_four   -- for this text's walks alone
set_option linter.unusedVariables false
set_option linter.unusedSimpArgs false

mutual
def papermilllaw41_RewindCuts.j0 : Nat → Int → List (S55) → Int → List (S44) → Int → Bool → Option (Bool)
 | 0, _, _, _, _, _, _ => none
 | k + 1, x0, x1, x3, x9, x11, x62 => if x62 = true then none else ((rewind_Whole.f x11).bind fun bt10010 => ((rewind_After_2.f k x9 bt10010.1).bind fun bt10014 => (if bt10010.2 = 0 then (if bt10014.2 = 0 then ((papermillref13_Check.f k bt10014.1).bind fun t10018 => (papermilllaw41_RewindCuts.j1 k x0 x1 x3 x9 x11 bt10014.1 (t10018 != 0))) else (papermilllaw41_RewindCuts.j1 k x0 x1 x3 x9 x11 bt10014.1 true)) else (papermilllaw41_RewindCuts.j1 k x0 x1 x3 x9 x11 bt10014.1 true))))
def papermilllaw41_RewindCuts.j1 : Nat → Int → List (S55) → Int → List (S44) → Int → List (S44) → Bool → Option (Bool)
 | 0, _, _, _, _, _, _, _ => none
 | k + 1, x0, x1, x3, x9, x11, x15, x85 => if x85 = true then none else (if x3 < 0 then (papermilllaw41_RewindCuts.j2 k x0 x1 x3 x9 x11 x15 true) else (papermilllaw41_RewindCuts.j2 k x0 x1 x3 x9 x11 x15 (decide (x3 ≥ x11))))
def papermilllaw41_RewindCuts.j2 : Nat → Int → List (S55) → Int → List (S44) → Int → List (S44) → Bool → Option (Bool)
 | 0, _, _, _, _, _, _, _ => none
 | k + 1, x0, x1, x3, x9, x11, x15, x92 => if x92 = true then ((papermilllaw41_awake.f).bind fun t10019 => (some t10019)) else ((papermillref13_At.f k x9 x3).bind fun bt10020 => ((papermillref13_At.f k x15 (wrap64 ((wrap64 (x11 - 1)) - x3))).bind fun bt10022 => (if bt10020.2 = 0 then (if bt10022.2 = 0 then (if bt10020.1 = bt10022.1 then (if bt10020.1 ≥ x0 then (papermilllaw41_RewindCuts.j3 k x3 x9 bt10020.1 true) else ((papermillref04_Has.f k x1 bt10020.1).bind fun t10024 => (papermilllaw41_RewindCuts.j3 k x3 x9 bt10020.1 t10024))) else (papermilllaw41_RewindCuts.j3 k x3 x9 bt10020.1 true)) else (papermilllaw41_RewindCuts.j3 k x3 x9 bt10020.1 true)) else (papermilllaw41_RewindCuts.j3 k x3 x9 bt10020.1 true))))
def papermilllaw41_RewindCuts.j3 : Nat → Int → List (S44) → Int → Bool → Option (Bool)
 | 0, _, _, _, _ => none
 | k + 1, x3, x9, x17, x129 => if x129 = true then none else (if x3 = 0 then ((papermilllaw41_awake.f).bind fun t10025 => (some t10025)) else ((papermillref13_At.f k x9 (wrap64 (x3 - 1))).bind fun bt10026 => (if bt10026.2 = 0 then (if bt10026.1 > x17 then ((papermilllaw41_awake.f).bind fun t10028 => (some t10028)) else none) else none)))
end
def papermilllaw41_RewindCuts.f (k : Nat) (a0 : Int) (l1 : List (S55)) (a2 : Int) (a3 : Int) : Option (Bool) := if (l1.length : Int) > 300 then ((papermilllaw41_awake.f).bind fun t10001 => (some t10001)) else ((rewind_Cull.f k a0 l1 a2).bind fun bt10002 => (if bt10002.2 = 0 then ((papermillref13_Length.f k bt10002.1).bind fun bt10007 => (if bt10007.2 = 0 then (if bt10007.1 < 1 then (papermilllaw41_RewindCuts.j0 k a0 l1 a3 bt10002.1 bt10007.1 true) else (if bt10007.1 > a0 then (papermilllaw41_RewindCuts.j0 k a0 l1 a3 bt10002.1 bt10007.1 true) else ((papermillref13_Single.f k bt10002.1).bind fun t10009 => (papermilllaw41_RewindCuts.j0 k a0 l1 a3 bt10002.1 bt10007.1 (!t10009))))) else (papermilllaw41_RewindCuts.j0 k a0 l1 a3 bt10002.1 bt10007.1 true))) else (if (bt10002.1.length : Int) = 0 then ((papermilllaw41_awake.f).bind fun t10006 => (some t10006)) else none)))
set_option maxHeartbeats 8000000 in
set_option maxRecDepth 100000 in
theorem papermilllaw41_RewindCuts.calls (k : Nat) (a0 : Int) (A1 : Option Addr) (c1 : Nat) (l1 : List (S55)) (a2 : Int) (a3 : Int) (r : Bool) (w : World) (hr1 : Kd.C k55 w A1 l1.length l1) (hc1 : l1.length ≤ c1) (h : papermilllaw41_RewindCuts.f k a0 l1 a2 a3 = some r) :
  Calls Try.prog 9 #[.int .i64 a0, .slice A1 l1.length c1, .int .i64 a2, .int .i64 a3] w fun e w' => e = .returned (.bool r) ∧ Below w.heap.size w w' := by
 have HR1 := Aside0.mk hr1
 have HC1 := Aside0.mk hc1
 clear hr1 hc1
 have HB := Aside0.mk (Below.refl w.heap.size w)
 have H : (if (l1.length : Int) > 300 then ((papermilllaw41_awake.f).bind fun t10001 => (some t10001)) else ((rewind_Cull.f k a0 l1 a2).bind fun bt10002 => (if bt10002.2 = 0 then ((papermillref13_Length.f k bt10002.1).bind fun bt10007 => (if bt10007.2 = 0 then (if bt10007.1 < 1 then (papermilllaw41_RewindCuts.j0 k a0 l1 a3 bt10002.1 bt10007.1 true) else (if bt10007.1 > a0 then (papermilllaw41_RewindCuts.j0 k a0 l1 a3 bt10002.1 bt10007.1 true) else ((papermillref13_Single.f k bt10002.1).bind fun t10009 => (papermilllaw41_RewindCuts.j0 k a0 l1 a3 bt10002.1 bt10007.1 (!t10009))))) else (papermilllaw41_RewindCuts.j0 k a0 l1 a3 bt10002.1 bt10007.1 true))) else (if (bt10002.1.length : Int) = 0 then ((papermilllaw41_awake.f).bind fun t10006 => (some t10006)) else none)))) = some r := h
 clear h
 by_cases c5 : (l1.length : Int) > 300
 ·rw [if_pos c5] at H
  have c5b0 : decide (300 < (l1.length : Int)) = true := decide_eq_true c5
  have c5b1 : decide (300 < l1.length) = true := decide_eq_true (by omega)
  clear c5
  replace H := Option.bind_eq_some_iff.mp H
  obtain ⟨t10001, A60, H⟩ := H
  replace H : (some t10001) = some r := H
  have A6 := Aside0.mk A60
  clear A60
  obtain rfl := Option.some.inj H
  go_enter Try.func9, Try.ntmps9
  go_wp2_with (first | ((with_reducible refine gate_callee (f := 14) rfl ?_); refine goesL_ (some 26) rfl rfl Try.func14 (by kernel_rfl) rfl #[] rfl (by (try simp only [List.map_toArray, List.map_cons, List.map_nil]); first | done | rfl | (simp only [List.length_drop, List.length_take]; rfl)) ?_; (with_reducible refine (papermilllaw41_awake.calls  t10001 _ A6.out).mono ?_); rintro e w7 ⟨rfl, hb⟩; refine ⟨_, rfl, ?_⟩; have n0_ := Aside0.mk (below_step (by repeat (first | exact HB.out | apply below_alloc | apply pw_below_drewN | apply below_drew1)) hb); clear HB; have HB := n0_; clear n0_; (try clear hb); (try clear hb2); (try clear hk); (try clear hi)))
  go_ret
  exact ⟨by first | rfl | (simp [errW_none, errW_some] <;> rfl) | (simp [*, errW_none, errW_some] <;> rfl), by repeat (first | exact HB.out | apply below_alloc | apply pw_below_drewN | apply below_drew1)⟩
 ·rw [if_neg c5] at H
  have c5b0 : decide (300 < (l1.length : Int)) = false := decide_eq_false c5
  have c5b1 : decide (300 < l1.length) = false := decide_eq_false (by omega)
  clear c5
  replace H := Option.bind_eq_some_iff.mp H
  obtain ⟨⟨t10002, t10003⟩, A80, H⟩ := H
  replace H : (if t10003 = 0 then ((papermillref13_Length.f k t10002).bind fun bt10007 => (if bt10007.2 = 0 then (if bt10007.1 < 1 then (papermilllaw41_RewindCuts.j0 k a0 l1 a3 t10002 bt10007.1 true) else (if bt10007.1 > a0 then (papermilllaw41_RewindCuts.j0 k a0 l1 a3 t10002 bt10007.1 true) else ((papermillref13_Single.f k t10002).bind fun t10009 => (papermilllaw41_RewindCuts.j0 k a0 l1 a3 t10002 bt10007.1 (!t10009))))) else (papermilllaw41_RewindCuts.j0 k a0 l1 a3 t10002 bt10007.1 true))) else (if (t10002.length : Int) = 0 then ((papermilllaw41_awake.f).bind fun t10006 => (some t10006)) else none)) = some r := H
  have A8 := Aside0.mk A80
  clear A80
  by_cases c9 : t10003 = 0
  ·rw [if_pos c9] at H
   have c9b0 : (t10003 == 0) = true := beq_iff_eq.mpr c9
   have c9b1 : (t10003 != 0) = false := bne_eq_false_iff_eq.mpr c9
   clear c9
   replace H := Option.bind_eq_some_iff.mp H
   obtain ⟨⟨t10007, t10008⟩, A100, H⟩ := H
   replace H : (if t10008 = 0 then (if t10007 < 1 then (papermilllaw41_RewindCuts.j0 k a0 l1 a3 t10002 t10007 true) else (if t10007 > a0 then (papermilllaw41_RewindCuts.j0 k a0 l1 a3 t10002 t10007 true) else ((papermillref13_Single.f k t10002).bind fun t10009 => (papermilllaw41_RewindCuts.j0 k a0 l1 a3 t10002 t10007 (!t10009))))) else (papermilllaw41_RewindCuts.j0 k a0 l1 a3 t10002 t10007 true)) = some r := H
   have A10 := Aside0.mk A100
   clear A100
   have HC11 := Aside0.mk H
   clear H
   go_enter Try.func9, Try.ntmps9
   go_upto_region 7 with (first | ((with_reducible refine gate_callee (f := 15) rfl ?_); refine goesL_ (some 31) rfl rfl Try.func15 (by kernel_rfl) rfl #[.int .i64 a0, .slice A1 l1.length c1, .int .i64 a2] rfl (by (try simp only [List.map_toArray, List.map_cons, List.map_nil]); first | done | rfl | (simp only [List.length_drop, List.length_take]; rfl)) ?_; (with_reducible refine (rewind_Cull.calls k a0 _ _ l1 a2 t10002 t10003 _ ?side1 ?side2 A8.out).mono ?_); (case side1 => repeat (first | exact HR1.out | (with_reducible refine Kd.C_alloc ?_ _) | (with_reducible refine Kd.C_drewN ?_ _) | (with_reducible refine Kd.C_drew ?_))); (case side2 => exact HC1.out); rintro e w12 ⟨v10004, rfl, ho0, hb⟩; refine ⟨_, rfl, ?_⟩; have n0_ := Aside0.mk (Kd.R_lower ho0 (below_size (by repeat (first | exact HB.out | apply below_alloc | apply pw_below_drewN | apply below_drew1)))); have n1_ := Aside0.mk (below_step (by repeat (first | exact HB.out | apply below_alloc | apply pw_below_drewN | apply below_drew1)) hb); clear HB; have HO10005 := n0_; have HB := n1_; clear n0_ n1_; (try clear hb); (try clear hb2); (try clear hk); (try clear hi); (try clear ho0); obtain ⟨Ao13, co13, eo13⟩ := Kd.R_slice HO10005.out; subst eo13) | ((with_reducible refine gate_callee (f := 27) rfl ?_); refine goesL_ (some 44) rfl rfl Try.func27 (by kernel_rfl) rfl #[.slice Ao13 t10002.length co13] rfl (by (try simp only [List.map_toArray, List.map_cons, List.map_nil]); first | done | rfl | (simp only [List.length_drop, List.length_take]; rfl)) ?_; (with_reducible refine (papermillref13_Length.calls k _ _ t10002 t10007 t10008 _ ?side1 ?side2 A10.out).mono ?_); (case side1 => repeat (first | exact (Kd.R_reads' HO10005.out).2.2 | (with_reducible refine Kd.C_alloc ?_ _) | (with_reducible refine Kd.C_drewN ?_ _) | (with_reducible refine Kd.C_drew ?_))); (case side2 => exact (Kd.R_reads' HO10005.out).2.1); rintro e w14 ⟨rfl, hb⟩; refine ⟨_, rfl, ?_⟩; have n0_ := Aside0.mk (Kd.R_below (by (with_reducible repeat (first | apply Kd.R_alloc | apply Kd.R_drewN | apply Kd.R_drew)); exact HO10005.out) hb); have n1_ := Aside0.mk (below_step (by repeat (first | exact HB.out | apply below_alloc | apply pw_below_drewN | apply below_drew1)) hb); clear HO10005; clear HB; have HO10005 := n0_; have HB := n1_; clear n0_ n1_; (try clear hb); (try clear hb2); (try clear hk); (try clear hi)))
   (try simp only [Act.put, List.setIfInBounds_toArray, List.set_cons_zero, List.set_cons_succ])
   go_cut [62] (fun v62 wc => ∃ (kq : Nat) (x62_10 : Bool), v62 = .bool x62_10 ∧ Aside0 (papermilllaw41_RewindCuts.j0 kq a0 l1 a3 t10002 t10007 x62_10 = some r) ∧ Aside0 (kq ≤ k) ∧ Aside0 (Kd.R k44 44 wc w.heap.size (fun _ => True) (.slice Ao13 t10002.length co13) t10002) ∧ Aside0 (Below w.heap.size w wc))
   case first =>
    have H := HC11.out
    clear HC11
    by_cases c15 : t10008 = 0
    ·rw [if_pos c15] at H
     have c15b0 : (t10008 == 0) = true := beq_iff_eq.mpr c15
     have c15b1 : (t10008 != 0) = false := bne_eq_false_iff_eq.mpr c15
     clear c15
     (first | rw [c15b0] | (simp only [i64_w, i32_w]; rw [c15b0]) | skip)
     by_cases c16 : t10007 < 1
     ·rw [if_pos c16] at H
      have c16b0 : decide (t10007 < 1) = true := decide_eq_true c16
      clear c16
      have H' := Aside0.mk H
      clear H
      go_wp2
      go_meet
      case rel => exact ⟨_, (true), (by first | rfl | (simp; done) | (simp [*]; done)), H', ⟨by first | omega | exact Nat.le_refl _⟩, ⟨by (with_reducible repeat (first | apply Kd.R_alloc | apply Kd.R_drewN | apply Kd.R_drew)); exact HO10005.out⟩, ⟨by repeat (first | exact HB.out | apply below_alloc | apply pw_below_drewN | apply below_drew1)⟩⟩
     ·rw [if_neg c16] at H
      have c16b0 : decide (t10007 < 1) = false := decide_eq_false c16
      clear c16
      by_cases c17 : t10007 > a0
      ·rw [if_pos c17] at H
       have c17b0 : decide (a0 < t10007) = true := decide_eq_true c17
       clear c17
       have H' := Aside0.mk H
       clear H
       go_wp2
       go_meet
       case rel => exact ⟨_, (true), (by first | rfl | (simp; done) | (simp [*]; done)), H', ⟨by first | omega | exact Nat.le_refl _⟩, ⟨by (with_reducible repeat (first | apply Kd.R_alloc | apply Kd.R_drewN | apply Kd.R_drew)); exact HO10005.out⟩, ⟨by repeat (first | exact HB.out | apply below_alloc | apply pw_below_drewN | apply below_drew1)⟩⟩
      ·rw [if_neg c17] at H
       have c17b0 : decide (a0 < t10007) = false := decide_eq_false c17
       clear c17
       replace H := Option.bind_eq_some_iff.mp H
       obtain ⟨t10009, A180, H⟩ := H
       replace H : (papermilllaw41_RewindCuts.j0 k a0 l1 a3 t10002 t10007 (!t10009)) = some r := H
       have A18 := Aside0.mk A180
       clear A180
       have H' := Aside0.mk H
       clear H
       go_wp2_with (first | (go_at_call 28; (with_reducible refine (papermillref13_Single.calls k _ _ t10002 t10009 _ ?side1 ?side2 A18.out).mono ?_); (case side1 => repeat (first | exact (Kd.R_reads' HO10005.out).2.2 | (with_reducible refine Kd.C_alloc ?_ _) | (with_reducible refine Kd.C_drewN ?_ _) | (with_reducible refine Kd.C_drew ?_))); (case side2 => exact (Kd.R_reads' HO10005.out).2.1); rintro e w19 ⟨rfl, hb⟩; have n0_ := Aside0.mk (Kd.R_below (by (with_reducible repeat (first | apply Kd.R_alloc | apply Kd.R_drewN | apply Kd.R_drew)); exact HO10005.out) hb); have n1_ := Aside0.mk (below_step (by repeat (first | exact HB.out | apply below_alloc | apply pw_below_drewN | apply below_drew1)) hb); clear HO10005; clear HB; have HO10005 := n0_; have HB := n1_; clear n0_ n1_; (try clear hb); (try clear hb2); (try clear hk); (try clear hi)))
       go_meet
       case rel => exact ⟨_, (!t10009), (by first | rfl | (simp; done) | (simp [*]; done)), H', ⟨by first | omega | exact Nat.le_refl _⟩, ⟨by (with_reducible repeat (first | apply Kd.R_alloc | apply Kd.R_drewN | apply Kd.R_drew)); exact HO10005.out⟩, ⟨by repeat (first | exact HB.out | apply below_alloc | apply pw_below_drewN | apply below_drew1)⟩⟩
    ·rw [if_neg c15] at H
     have c15b0 : (t10008 == 0) = false := beq_eq_false_iff_ne.mpr c15
     have c15b1 : (t10008 != 0) = true := bne_iff_ne.mpr c15
     (first | rw [c15b0] | (simp only [i64_w, i32_w]; rw [c15b0]) | skip)
     have H' := Aside0.mk H
     clear H
     go_wp2
     go_meet
     case rel => exact ⟨_, (true), (by first | rfl | (simp; done) | (simp [*]; done)), H', ⟨by first | omega | exact Nat.le_refl _⟩, ⟨by (with_reducible repeat (first | apply Kd.R_alloc | apply Kd.R_drewN | apply Kd.R_drew)); exact HO10005.out⟩, ⟨by repeat (first | exact HB.out | apply below_alloc | apply pw_below_drewN | apply below_drew1)⟩⟩
   case rest =>
    clear HC11
    try clear c1
    try clear c2
    try clear p2
    try clear c5
    try clear c5b0
    try clear c5b1
    try clear c9
    try clear c9b0
    try clear c9b1
    try clear c14
    try clear c15
    try clear c15b0
    try clear c15b1
    try clear c16
    try clear c16b0
    try clear c17
    try clear c17b0
    obtain ⟨kq, x62_10, rfl, HA, HJ10, HO_9, HB⟩ := hcut
    cases kq with
    | zero => exact absurd HA.out (by simp [papermilllaw41_RewindCuts.j0])
    | succ kj10 =>
     have H := HA.out
     clear HA
     simp only [papermilllaw41_RewindCuts.j0] at H
     by_cases c20 : x62_10 = true
     ·subst c20
      have H1 : none = some r := by rw [if_pos rfl] at H; exact H
      clear H
      have H := H1
      clear H1
      cases H
     ·replace c20 := Bool.eq_false_iff.mpr c20
      subst c20
      have H1 : ((rewind_Whole.f t10007).bind fun bt10010 => ((rewind_After_2.f kj10 t10002 bt10010.1).bind fun bt10014 => (if bt10010.2 = 0 then (if bt10014.2 = 0 then ((papermillref13_Check.f kj10 bt10014.1).bind fun t10018 => (papermilllaw41_RewindCuts.j1 kj10 a0 l1 a3 t10002 t10007 bt10014.1 (t10018 != 0))) else (papermilllaw41_RewindCuts.j1 kj10 a0 l1 a3 t10002 t10007 bt10014.1 true)) else (papermilllaw41_RewindCuts.j1 kj10 a0 l1 a3 t10002 t10007 bt10014.1 true)))) = some r := by rw [if_neg (show ¬ (false = true) by decide)] at H; first | exact H | simpa using H
      clear H
      have H := H1
      clear H1
      replace H := Option.bind_eq_some_iff.mp H
      obtain ⟨⟨t10010, t10011⟩, A210, H⟩ := H
      replace H : ((rewind_After_2.f kj10 t10002 t10010).bind fun bt10014 => (if t10011 = 0 then (if bt10014.2 = 0 then ((papermillref13_Check.f kj10 bt10014.1).bind fun t10018 => (papermilllaw41_RewindCuts.j1 kj10 a0 l1 a3 t10002 t10007 bt10014.1 (t10018 != 0))) else (papermilllaw41_RewindCuts.j1 kj10 a0 l1 a3 t10002 t10007 bt10014.1 true)) else (papermilllaw41_RewindCuts.j1 kj10 a0 l1 a3 t10002 t10007 bt10014.1 true))) = some r := H
      have A21 := Aside0.mk A210
      clear A210
      replace H := Option.bind_eq_some_iff.mp H
      obtain ⟨⟨t10014, t10015⟩, A220, H⟩ := H
      replace H : (if t10011 = 0 then (if t10015 = 0 then ((papermillref13_Check.f kj10 t10014).bind fun t10018 => (papermilllaw41_RewindCuts.j1 kj10 a0 l1 a3 t10002 t10007 t10014 (t10018 != 0))) else (papermilllaw41_RewindCuts.j1 kj10 a0 l1 a3 t10002 t10007 t10014 true)) else (papermilllaw41_RewindCuts.j1 kj10 a0 l1 a3 t10002 t10007 t10014 true)) = some r := H
      have A22 := Aside0.mk A220
      clear A220
      have HC23 := Aside0.mk H
      clear H
      go_upto_region 11 with (first | ((with_reducible refine gate_callee (f := 11) rfl ?_); refine goesL_ (some 65) rfl rfl Try.func11 (by kernel_rfl) rfl #[.int .i64 t10007] rfl (by (try simp only [List.map_toArray, List.map_cons, List.map_nil]); first | done | rfl | (simp only [List.length_drop, List.length_take]; rfl)) ?_; (with_reducible refine (rewind_Whole.calls t10007 t10010 t10011 _ A21.out).mono ?_); rintro e w24 ⟨v10012, rfl, ho0, hb⟩; refine ⟨_, rfl, ?_⟩; have n0_ := Aside0.mk (Kd.R_elder' (by (with_reducible repeat (first | apply Kd.R_alloc | apply Kd.R_drewN | apply Kd.R_drew)); exact HO_9.out) (Kd.R_base ho0) hb); have n1_ := Aside0.mk (Kd.R_lower (Kd.R_new' ho0 (Kd.R_lt (by (with_reducible repeat (first | apply Kd.R_alloc | apply Kd.R_drewN | apply Kd.R_drew)); exact HO_9.out))) (below_size (by repeat (first | exact HB.out | apply below_alloc | apply pw_below_drewN | apply below_drew1)))); have n2_ := Aside0.mk (below_step (by repeat (first | exact HB.out | apply below_alloc | apply pw_below_drewN | apply below_drew1)) hb); clear HO_9; clear HB; have HO_9 := n0_; have HO10013 := n1_; have HB := n2_; clear n0_ n1_ n2_; (try clear hb); (try clear hb2); (try clear hk); (try clear hi); (try clear ho0); obtain ⟨Ao25, co25, eo25⟩ := Kd.R_slice HO10013.out; subst eo25) | (go_at_call 21; (with_reducible refine (rewind_After_2.calls kj10 _ _ t10002 _ _ t10010 t10014 t10015 _ ?side1 ?side2 ?side3 ?side4 A22.out).mono ?_); (case side1 => repeat (first | exact (Kd.R_reads' HO_9.out).2.2 | (with_reducible refine Kd.C_alloc ?_ _) | (with_reducible refine Kd.C_drewN ?_ _) | (with_reducible refine Kd.C_drew ?_))); (case side2 => exact (Kd.R_reads' HO_9.out).2.1); (case side3 => repeat (first | exact (Kd.R_reads' HO10013.out).2.2 | (with_reducible refine Kd.C_alloc ?_ _) | (with_reducible refine Kd.C_drewN ?_ _) | (with_reducible refine Kd.C_drew ?_))); (case side4 => exact (Kd.R_reads' HO10013.out).2.1); rintro e w26 ⟨v10016, rfl, ho0, hb⟩; have n0_ := Aside0.mk (Kd.R_elder' (by (with_reducible repeat (first | apply Kd.R_alloc | apply Kd.R_drewN | apply Kd.R_drew)); exact HO_9.out) (Kd.R_base ho0) hb); have n1_ := Aside0.mk (Kd.R_elder' (by (with_reducible repeat (first | apply Kd.R_alloc | apply Kd.R_drewN | apply Kd.R_drew)); exact HO10013.out) (Kd.R_base ho0) hb); have n2_ := Aside0.mk (Kd.R_lower (Kd.R_new' (Kd.R_new' ho0 (Kd.R_lt (by (with_reducible repeat (first | apply Kd.R_alloc | apply Kd.R_drewN | apply Kd.R_drew)); exact HO_9.out))) (Kd.R_lt (by (with_reducible repeat (first | apply Kd.R_alloc | apply Kd.R_drewN | apply Kd.R_drew)); exact HO10013.out))) (below_size (by repeat (first | exact HB.out | apply below_alloc | apply pw_below_drewN | apply below_drew1)))); have n3_ := Aside0.mk (below_step (by repeat (first | exact HB.out | apply below_alloc | apply pw_below_drewN | apply below_drew1)) hb); clear HO_9; clear HO10013; clear HB; have HO_9 := n0_; have HO10013 := n1_; have HO10017 := n2_; have HB := n3_; clear n0_ n1_ n2_ n3_; (try clear hb); (try clear hb2); (try clear hk); (try clear hi); (try clear ho0)))
      (try simp only [Act.put, List.setIfInBounds_toArray, List.set_cons_zero, List.set_cons_succ])
      go_cut [85] (fun v85 wc => ∃ (kq : Nat) (x85_22 : Bool), v85 = .bool x85_22 ∧ Aside0 (papermilllaw41_RewindCuts.j1 kq a0 l1 a3 t10002 t10007 t10014 x85_22 = some r) ∧ Aside0 (kq ≤ kj10) ∧ Aside0 (Kd.R k44 44 wc w.heap.size (fun k_ => some k_ ≠ (v10016 : Value).ownBlock) (.slice Ao13 t10002.length co13) t10002) ∧ Aside0 (Kd.R k44 44 wc w.heap.size (fun k_ => some k_ ≠ ((.slice Ao13 t10002.length co13) : Value).ownBlock) v10016 t10014) ∧ Aside0 (Below w.heap.size w wc))
      case first =>
       have H := HC23.out
       clear HC23
       by_cases c27 : t10011 = 0
       ·rw [if_pos c27] at H
        have c27b0 : (t10011 == 0) = true := beq_iff_eq.mpr c27
        have c27b1 : (t10011 != 0) = false := bne_eq_false_iff_eq.mpr c27
        clear c27
        (first | rw [c27b0] | (simp only [i64_w, i32_w]; rw [c27b0]) | skip)
        by_cases c28 : t10015 = 0
        ·rw [if_pos c28] at H
         have c28b0 : (t10015 == 0) = true := beq_iff_eq.mpr c28
         have c28b1 : (t10015 != 0) = false := bne_eq_false_iff_eq.mpr c28
         clear c28
         replace H := Option.bind_eq_some_iff.mp H
         obtain ⟨t10018, A290, H⟩ := H
         replace H : (papermilllaw41_RewindCuts.j1 kj10 a0 l1 a3 t10002 t10007 t10014 (t10018 != 0)) = some r := H
         have A29 := Aside0.mk A290
         clear A290
         have H' := Aside0.mk H
         clear H
         obtain ⟨Ao30, co30, eo30⟩ := Kd.R_slice HO10017.out
         subst eo30
         go_wp2_with (first | (go_at_call 25; (with_reducible refine (papermillref13_Check.calls kj10 _ _ t10014 t10018 _ ?side1 ?side2 A29.out).mono ?_); (case side1 => repeat (first | exact (Kd.R_reads' HO10017.out).2.2 | (with_reducible refine Kd.C_alloc ?_ _) | (with_reducible refine Kd.C_drewN ?_ _) | (with_reducible refine Kd.C_drew ?_))); (case side2 => exact (Kd.R_reads' HO10017.out).2.1); rintro e w31 ⟨rfl, hb⟩; have n0_ := Aside0.mk (Kd.R_below (by (with_reducible repeat (first | apply Kd.R_alloc | apply Kd.R_drewN | apply Kd.R_drew)); exact HO_9.out) hb); have n1_ := Aside0.mk (Kd.R_below (by (with_reducible repeat (first | apply Kd.R_alloc | apply Kd.R_drewN | apply Kd.R_drew)); exact HO10013.out) hb); have n2_ := Aside0.mk (Kd.R_below (by (with_reducible repeat (first | apply Kd.R_alloc | apply Kd.R_drewN | apply Kd.R_drew)); exact HO10017.out) hb); have n3_ := Aside0.mk (below_step (by repeat (first | exact HB.out | apply below_alloc | apply pw_below_drewN | apply below_drew1)) hb); clear HO_9; clear HO10013; clear HO10017; clear HB; have HO_9 := n0_; have HO10013 := n1_; have HO10017 := n2_; have HB := n3_; clear n0_ n1_ n2_ n3_; (try clear hb); (try clear hb2); (try clear hk); (try clear hi)))
         go_meet
         case rel => exact ⟨_, ((t10018 != 0)), (by first | rfl | (simp; done) | (simp [*]; done)), H', ⟨by have := HJ10.out; first | omega | exact Nat.le_refl _⟩, ⟨by (with_reducible repeat (first | apply Kd.R_alloc | apply Kd.R_drewN | apply Kd.R_drew)); exact Kd.R_mono HO_9.out (fun _ hk => hk.2)⟩, ⟨by (with_reducible repeat (first | apply Kd.R_alloc | apply Kd.R_drewN | apply Kd.R_drew)); exact Kd.R_mono HO10017.out (fun _ hk => hk.1.2)⟩, ⟨by repeat (first | exact HB.out | apply below_alloc | apply pw_below_drewN | apply below_drew1)⟩⟩
        ·rw [if_neg c28] at H
         have c28b0 : (t10015 == 0) = false := beq_eq_false_iff_ne.mpr c28
         have c28b1 : (t10015 != 0) = true := bne_iff_ne.mpr c28
         have H' := Aside0.mk H
         clear H
         go_wp2
         go_meet
         case rel => exact ⟨_, (true), (by first | rfl | (simp; done) | (simp [*]; done)), H', ⟨by have := HJ10.out; first | omega | exact Nat.le_refl _⟩, ⟨by (with_reducible repeat (first | apply Kd.R_alloc | apply Kd.R_drewN | apply Kd.R_drew)); exact Kd.R_mono HO_9.out (fun _ hk => hk.2)⟩, ⟨by (with_reducible repeat (first | apply Kd.R_alloc | apply Kd.R_drewN | apply Kd.R_drew)); exact Kd.R_mono HO10017.out (fun _ hk => hk.1.2)⟩, ⟨by repeat (first | exact HB.out | apply below_alloc | apply pw_below_drewN | apply below_drew1)⟩⟩
       ·rw [if_neg c27] at H
        have c27b0 : (t10011 == 0) = false := beq_eq_false_iff_ne.mpr c27
        have c27b1 : (t10011 != 0) = true := bne_iff_ne.mpr c27
        (first | rw [c27b0] | (simp only [i64_w, i32_w]; rw [c27b0]) | skip)
        have H' := Aside0.mk H
        clear H
        go_wp2
        go_meet
        case rel => exact ⟨_, (true), (by first | rfl | (simp; done) | (simp [*]; done)), H', ⟨by have := HJ10.out; first | omega | exact Nat.le_refl _⟩, ⟨by (with_reducible repeat (first | apply Kd.R_alloc | apply Kd.R_drewN | apply Kd.R_drew)); exact Kd.R_mono HO_9.out (fun _ hk => hk.2)⟩, ⟨by (with_reducible repeat (first | apply Kd.R_alloc | apply Kd.R_drewN | apply Kd.R_drew)); exact Kd.R_mono HO10017.out (fun _ hk => hk.1.2)⟩, ⟨by repeat (first | exact HB.out | apply below_alloc | apply pw_below_drewN | apply below_drew1)⟩⟩
      case rest =>
       clear HC23
       try clear c1
       try clear c2
       try clear p2
       try clear c5
       try clear c5b0
       try clear c5b1
       try clear c9
       try clear c9b0
       try clear c9b1
       try clear c10
       try clear c11
       try clear c14
       try clear c15
       try clear c15b0
       try clear c15b1
       try clear c16
       try clear c16b0
       try clear c17
       try clear c17b0
       try clear c20
       try clear c27
       try clear c27b0
       try clear c27b1
       try clear c28
       try clear c28b0
       try clear c28b1
       try clear p2
       obtain ⟨kq, x85_22, rfl, HA, HJ22, HO_9, HO_15, HB⟩ := hcut
       cases kq with
       | zero => exact absurd HA.out (by simp [papermilllaw41_RewindCuts.j1])
       | succ kj22 =>
        have H := HA.out
        clear HA
        simp only [papermilllaw41_RewindCuts.j1] at H
        by_cases c32 : x85_22 = true
        ·subst c32
         have H1 : none = some r := by rw [if_pos rfl] at H; exact H
         clear H
         have H := H1
         clear H1
         cases H
        ·replace c32 := Bool.eq_false_iff.mpr c32
         subst c32
         have H1 : (if a3 < 0 then (papermilllaw41_RewindCuts.j2 kj22 a0 l1 a3 t10002 t10007 t10014 true) else (papermilllaw41_RewindCuts.j2 kj22 a0 l1 a3 t10002 t10007 t10014 (decide (a3 ≥ t10007)))) = some r := by rw [if_neg (show ¬ (false = true) by decide)] at H; first | exact H | simpa using H
         clear H
         have H := H1
         clear H1
         have HC33 := Aside0.mk H
         clear H
         go_upto_region 13 with (fail)
         go_cut [92] (fun v92 wc => ∃ (kq : Nat) (x92_32 : Bool), v92 = .bool x92_32 ∧ Aside0 (papermilllaw41_RewindCuts.j2 kq a0 l1 a3 t10002 t10007 t10014 x92_32 = some r) ∧ Aside0 (kq ≤ kj22) ∧ Aside0 (Kd.R k44 44 wc w.heap.size (fun k_ => some k_ ≠ (v10016 : Value).ownBlock) (.slice Ao13 t10002.length co13) t10002) ∧ Aside0 (Kd.R k44 44 wc w.heap.size (fun k_ => some k_ ≠ ((.slice Ao13 t10002.length co13) : Value).ownBlock) v10016 t10014) ∧ Aside0 (Below w.heap.size w wc))
         case first =>
          have H := HC33.out
          clear HC33
          by_cases c34 : a3 < 0
          ·rw [if_pos c34] at H
           have c34b0 : decide (a3 < 0) = true := decide_eq_true c34
           clear c34
           (first | rw [c34b0] | (simp only [i64_w, i32_w]; rw [c34b0]) | skip)
           have H' := Aside0.mk H
           clear H
           go_wp2
           go_meet
           case rel => exact ⟨_, (true), (by first | rfl | (simp; done) | (simp [*]; done)), H', ⟨by have := HJ10.out; have := HJ22.out; first | omega | exact Nat.le_refl _⟩, ⟨by (with_reducible repeat (first | apply Kd.R_alloc | apply Kd.R_drewN | apply Kd.R_drew)); exact HO_9.out⟩, ⟨by (with_reducible repeat (first | apply Kd.R_alloc | apply Kd.R_drewN | apply Kd.R_drew)); exact HO_15.out⟩, ⟨by repeat (first | exact HB.out | apply below_alloc | apply pw_below_drewN | apply below_drew1)⟩⟩
          ·rw [if_neg c34] at H
           have c34b0 : decide (a3 < 0) = false := decide_eq_false c34
           clear c34
           (first | rw [c34b0] | (simp only [i64_w, i32_w]; rw [c34b0]) | skip)
           have H' := Aside0.mk H
           clear H
           go_wp2
           go_meet
           case rel => exact ⟨_, (decide (a3 ≥ t10007)), (by first | rfl | (simp; done) | (simp [*]; done)), H', ⟨by have := HJ10.out; have := HJ22.out; first | omega | exact Nat.le_refl _⟩, ⟨by (with_reducible repeat (first | apply Kd.R_alloc | apply Kd.R_drewN | apply Kd.R_drew)); exact HO_9.out⟩, ⟨by (with_reducible repeat (first | apply Kd.R_alloc | apply Kd.R_drewN | apply Kd.R_drew)); exact HO_15.out⟩, ⟨by repeat (first | exact HB.out | apply below_alloc | apply pw_below_drewN | apply below_drew1)⟩⟩
         case rest =>
          clear HC33
          try clear c1
          try clear c2
          try clear p2
          try clear c3
          try clear c5
          try clear c5b0
          try clear c5b1
          try clear c9
          try clear c9b0
          try clear c9b1
          try clear c10
          try clear c11
          try clear c14
          try clear c15
          try clear c15b0
          try clear c15b1
          try clear c16
          try clear c16b0
          try clear c17
          try clear c17b0
          try clear c20
          try clear c27
          try clear c27b0
          try clear c27b1
          try clear c28
          try clear c28b0
          try clear c28b1
          try clear c32
          try clear c34
          try clear c34b0
          try clear p2
          obtain ⟨kq, x92_32, rfl, HA, HJ32, HO_9, HO_15, HB⟩ := hcut
          cases kq with
          | zero => exact absurd HA.out (by simp [papermilllaw41_RewindCuts.j2])
          | succ kj32 =>
           have H := HA.out
           clear HA
           simp only [papermilllaw41_RewindCuts.j2] at H
           by_cases c35 : x92_32 = true
           ·subst c35
            have H1 : ((papermilllaw41_awake.f).bind fun t10019 => (some t10019)) = some r := by rw [if_pos rfl] at H; exact H
            clear H
            have H := H1
            clear H1
            replace H := Option.bind_eq_some_iff.mp H
            obtain ⟨t10019, A360, H⟩ := H
            replace H : (some t10019) = some r := H
            have A36 := Aside0.mk A360
            clear A360
            obtain rfl := Option.some.inj H
            go_wp2_with (first | ((with_reducible refine gate_callee (f := 14) rfl ?_); refine goesL_ (some 93) rfl rfl Try.func14 (by kernel_rfl) rfl #[] rfl (by (try simp only [List.map_toArray, List.map_cons, List.map_nil]); first | done | rfl | (simp only [List.length_drop, List.length_take]; rfl)) ?_; (with_reducible refine (papermilllaw41_awake.calls  t10019 _ A36.out).mono ?_); rintro e w37 ⟨rfl, hb⟩; refine ⟨_, rfl, ?_⟩; have n0_ := Aside0.mk (Kd.R_below (by (with_reducible repeat (first | apply Kd.R_alloc | apply Kd.R_drewN | apply Kd.R_drew)); exact HO_9.out) hb); have n1_ := Aside0.mk (Kd.R_below (by (with_reducible repeat (first | apply Kd.R_alloc | apply Kd.R_drewN | apply Kd.R_drew)); exact HO_15.out) hb); have n2_ := Aside0.mk (below_step (by repeat (first | exact HB.out | apply below_alloc | apply pw_below_drewN | apply below_drew1)) hb); clear HO_9; clear HO_15; clear HB; have HO_9 := n0_; have HO_15 := n1_; have HB := n2_; clear n0_ n1_ n2_; (try clear hb); (try clear hb2); (try clear hk); (try clear hi)))
            go_ret
            exact ⟨by first | rfl | (simp [errW_none, errW_some] <;> rfl) | (simp [*, errW_none, errW_some] <;> rfl), by repeat (first | exact HB.out | apply below_alloc | apply pw_below_drewN | apply below_drew1)⟩
           ·replace c35 := Bool.eq_false_iff.mpr c35
            subst c35
            have H1 : ((papermillref13_At.f kj32 t10002 a3).bind fun bt10020 => ((papermillref13_At.f kj32 t10014 (wrap64 ((wrap64 (t10007 - 1)) - a3))).bind fun bt10022 => (if bt10020.2 = 0 then (if bt10022.2 = 0 then (if bt10020.1 = bt10022.1 then (if bt10020.1 ≥ a0 then (papermilllaw41_RewindCuts.j3 kj32 a3 t10002 bt10020.1 true) else ((papermillref04_Has.f kj32 l1 bt10020.1).bind fun t10024 => (papermilllaw41_RewindCuts.j3 kj32 a3 t10002 bt10020.1 t10024))) else (papermilllaw41_RewindCuts.j3 kj32 a3 t10002 bt10020.1 true)) else (papermilllaw41_RewindCuts.j3 kj32 a3 t10002 bt10020.1 true)) else (papermilllaw41_RewindCuts.j3 kj32 a3 t10002 bt10020.1 true)))) = some r := by rw [if_neg (show ¬ (false = true) by decide)] at H; first | exact H | simpa using H
            clear H
            have H := H1
            clear H1
            replace H := Option.bind_eq_some_iff.mp H
            obtain ⟨⟨t10020, t10021⟩, A380, H⟩ := H
            replace H : ((papermillref13_At.f kj32 t10014 (wrap64 ((wrap64 (t10007 - 1)) - a3))).bind fun bt10022 => (if t10021 = 0 then (if bt10022.2 = 0 then (if t10020 = bt10022.1 then (if t10020 ≥ a0 then (papermilllaw41_RewindCuts.j3 kj32 a3 t10002 t10020 true) else ((papermillref04_Has.f kj32 l1 t10020).bind fun t10024 => (papermilllaw41_RewindCuts.j3 kj32 a3 t10002 t10020 t10024))) else (papermilllaw41_RewindCuts.j3 kj32 a3 t10002 t10020 true)) else (papermilllaw41_RewindCuts.j3 kj32 a3 t10002 t10020 true)) else (papermilllaw41_RewindCuts.j3 kj32 a3 t10002 t10020 true))) = some r := H
            have A38 := Aside0.mk A380
            clear A380
            replace H := Option.bind_eq_some_iff.mp H
            obtain ⟨⟨t10022, t10023⟩, A390, H⟩ := H
            replace H : (if t10021 = 0 then (if t10023 = 0 then (if t10020 = t10022 then (if t10020 ≥ a0 then (papermilllaw41_RewindCuts.j3 kj32 a3 t10002 t10020 true) else ((papermillref04_Has.f kj32 l1 t10020).bind fun t10024 => (papermilllaw41_RewindCuts.j3 kj32 a3 t10002 t10020 t10024))) else (papermilllaw41_RewindCuts.j3 kj32 a3 t10002 t10020 true)) else (papermilllaw41_RewindCuts.j3 kj32 a3 t10002 t10020 true)) else (papermilllaw41_RewindCuts.j3 kj32 a3 t10002 t10020 true)) = some r := H
            have A39 := Aside0.mk A390
            clear A390
            have HC40 := Aside0.mk H
            clear H
            go_upto_region 17 with (first | ((with_reducible refine gate_callee (f := 26) rfl ?_); refine goesL_ (some 97) rfl rfl Try.func26 (by kernel_rfl) rfl #[.slice Ao13 t10002.length co13, .int .i64 a3] rfl (by (try simp only [List.map_toArray, List.map_cons, List.map_nil]); first | done | rfl | (simp only [List.length_drop, List.length_take]; rfl)) ?_; (with_reducible refine (papermillref13_At.calls kj32 _ _ t10002 a3 t10020 t10021 _ ?side1 ?side2 A38.out).mono ?_); (case side1 => repeat (first | exact (Kd.R_reads' HO_9.out).2.2 | (with_reducible refine Kd.C_alloc ?_ _) | (with_reducible refine Kd.C_drewN ?_ _) | (with_reducible refine Kd.C_drew ?_))); (case side2 => exact (Kd.R_reads' HO_9.out).2.1); rintro e w41 ⟨rfl, hb⟩; refine ⟨_, rfl, ?_⟩; have n0_ := Aside0.mk (Kd.R_below (by (with_reducible repeat (first | apply Kd.R_alloc | apply Kd.R_drewN | apply Kd.R_drew)); exact HO_9.out) hb); have n1_ := Aside0.mk (Kd.R_below (by (with_reducible repeat (first | apply Kd.R_alloc | apply Kd.R_drewN | apply Kd.R_drew)); exact HO_15.out) hb); have n2_ := Aside0.mk (below_step (by repeat (first | exact HB.out | apply below_alloc | apply pw_below_drewN | apply below_drew1)) hb); clear HO_9; clear HO_15; clear HB; have HO_9 := n0_; have HO_15 := n1_; have HB := n2_; clear n0_ n1_ n2_; (try clear hb); (try clear hb2); (try clear hk); (try clear hi); obtain ⟨Ao42, co42, eo42⟩ := Kd.R_slice HO_15.out; subst eo42) | ((with_reducible refine gate_callee (f := 26) rfl ?_); refine goesL_ (some 106) rfl rfl Try.func26 (by kernel_rfl) rfl #[.slice Ao42 t10014.length co42, .int .i64 (wrap64 ((wrap64 (t10007 - 1)) - a3))] rfl (by (try simp only [List.map_toArray, List.map_cons, List.map_nil]); first | done | rfl | (simp only [List.length_drop, List.length_take]; rfl)) ?_; (with_reducible refine (papermillref13_At.calls kj32 _ _ t10014 (wrap64 ((wrap64 (t10007 - 1)) - a3)) t10022 t10023 _ ?side1 ?side2 A39.out).mono ?_); (case side1 => repeat (first | exact (Kd.R_reads' HO_15.out).2.2 | (with_reducible refine Kd.C_alloc ?_ _) | (with_reducible refine Kd.C_drewN ?_ _) | (with_reducible refine Kd.C_drew ?_))); (case side2 => exact (Kd.R_reads' HO_15.out).2.1); rintro e w43 ⟨rfl, hb⟩; refine ⟨_, rfl, ?_⟩; have n0_ := Aside0.mk (Kd.R_below (by (with_reducible repeat (first | apply Kd.R_alloc | apply Kd.R_drewN | apply Kd.R_drew)); exact HO_9.out) hb); have n1_ := Aside0.mk (Kd.R_below (by (with_reducible repeat (first | apply Kd.R_alloc | apply Kd.R_drewN | apply Kd.R_drew)); exact HO_15.out) hb); have n2_ := Aside0.mk (below_step (by repeat (first | exact HB.out | apply below_alloc | apply pw_below_drewN | apply below_drew1)) hb); clear HO_9; clear HO_15; clear HB; have HO_9 := n0_; have HO_15 := n1_; have HB := n2_; clear n0_ n1_ n2_; (try clear hb); (try clear hb2); (try clear hk); (try clear hi)))
            (try simp only [Act.put, List.setIfInBounds_toArray, List.set_cons_zero, List.set_cons_succ])
            go_cut [129] (fun v129 wc => ∃ (kq : Nat) (x129_39 : Bool), v129 = .bool x129_39 ∧ Aside0 (papermilllaw41_RewindCuts.j3 kq a3 t10002 t10020 x129_39 = some r) ∧ Aside0 (kq ≤ kj32) ∧ Aside0 (Kd.R k44 44 wc w.heap.size (fun _ => True) (.slice Ao13 t10002.length co13) t10002) ∧ Aside0 (Below w.heap.size w wc))
            case first =>
             have H := HC40.out
             clear HC40
             by_cases c44 : t10021 = 0
             ·rw [if_pos c44] at H
              have c44b0 : (t10021 == 0) = true := beq_iff_eq.mpr c44
              have c44b1 : (t10021 != 0) = false := bne_eq_false_iff_eq.mpr c44
              clear c44
              (first | rw [c44b0] | (simp only [i64_w, i32_w]; rw [c44b0]) | skip)
              by_cases c45 : t10023 = 0
              ·rw [if_pos c45] at H
               have c45b0 : (t10023 == 0) = true := beq_iff_eq.mpr c45
               have c45b1 : (t10023 != 0) = false := bne_eq_false_iff_eq.mpr c45
               clear c45
               by_cases c46 : t10020 = t10022
               ·rw [if_pos c46] at H
                have c46b0 : (t10020 == t10022) = true := beq_iff_eq.mpr c46
                have c46b1 : (t10020 != t10022) = false := bne_eq_false_iff_eq.mpr c46
                clear c46
                by_cases c47 : t10020 ≥ a0
                ·rw [if_pos c47] at H
                 have c47b0 : decide (a0 ≤ t10020) = true := decide_eq_true c47
                 clear c47
                 have H' := Aside0.mk H
                 clear H
                 go_wp2
                 go_meet
                 case rel => exact ⟨_, (true), (by first | rfl | (simp; done) | (simp [*]; done)), H', ⟨by have := HJ10.out; have := HJ22.out; have := HJ32.out; first | omega | exact Nat.le_refl _⟩, ⟨by (with_reducible repeat (first | apply Kd.R_alloc | apply Kd.R_drewN | apply Kd.R_drew)); exact Kd.R_mono HO_9.out (fun _ hk => trivial)⟩, ⟨by repeat (first | exact HB.out | apply below_alloc | apply pw_below_drewN | apply below_drew1)⟩⟩
                ·rw [if_neg c47] at H
                 have c47b0 : decide (a0 ≤ t10020) = false := decide_eq_false c47
                 clear c47
                 replace H := Option.bind_eq_some_iff.mp H
                 obtain ⟨t10024, A480, H⟩ := H
                 replace H : (papermilllaw41_RewindCuts.j3 kj32 a3 t10002 t10020 t10024) = some r := H
                 have A48 := Aside0.mk A480
                 clear A480
                 have H' := Aside0.mk H
                 clear H
                 go_wp2_with (first | (go_at_call 29; (with_reducible refine (papermillref04_Has.calls kj32 _ _ l1 t10020 t10024 _ ?side1 ?side2 A48.out).mono ?_); (case side1 => repeat (first | exact (Kd.C_below HR1.out HB.out) | (with_reducible refine Kd.C_alloc ?_ _) | (with_reducible refine Kd.C_drewN ?_ _) | (with_reducible refine Kd.C_drew ?_))); (case side2 => exact HC1.out); rintro e w' ⟨rfl, ⟨nd, rfl⟩⟩))
                 go_meet
                 case rel => exact ⟨_, (t10024), (by first | rfl | (simp; done) | (simp [*]; done)), H', ⟨by have := HJ10.out; have := HJ22.out; have := HJ32.out; first | omega | exact Nat.le_refl _⟩, ⟨by (with_reducible repeat (first | apply Kd.R_alloc | apply Kd.R_drewN | apply Kd.R_drew)); exact Kd.R_mono HO_9.out (fun _ hk => trivial)⟩, ⟨by repeat (first | exact HB.out | apply below_alloc | apply pw_below_drewN | apply below_drew1)⟩⟩
               ·rw [if_neg c46] at H
                have c46b0 : (t10020 == t10022) = false := beq_eq_false_iff_ne.mpr c46
                have c46b1 : (t10020 != t10022) = true := bne_iff_ne.mpr c46
                have H' := Aside0.mk H
                clear H
                go_wp2
                go_meet
                case rel => exact ⟨_, (true), (by first | rfl | (simp; done) | (simp [*]; done)), H', ⟨by have := HJ10.out; have := HJ22.out; have := HJ32.out; first | omega | exact Nat.le_refl _⟩, ⟨by (with_reducible repeat (first | apply Kd.R_alloc | apply Kd.R_drewN | apply Kd.R_drew)); exact Kd.R_mono HO_9.out (fun _ hk => trivial)⟩, ⟨by repeat (first | exact HB.out | apply below_alloc | apply pw_below_drewN | apply below_drew1)⟩⟩
              ·rw [if_neg c45] at H
               have c45b0 : (t10023 == 0) = false := beq_eq_false_iff_ne.mpr c45
               have c45b1 : (t10023 != 0) = true := bne_iff_ne.mpr c45
               have H' := Aside0.mk H
               clear H
               go_wp2
               go_meet
               case rel => exact ⟨_, (true), (by first | rfl | (simp; done) | (simp [*]; done)), H', ⟨by have := HJ10.out; have := HJ22.out; have := HJ32.out; first | omega | exact Nat.le_refl _⟩, ⟨by (with_reducible repeat (first | apply Kd.R_alloc | apply Kd.R_drewN | apply Kd.R_drew)); exact Kd.R_mono HO_9.out (fun _ hk => trivial)⟩, ⟨by repeat (first | exact HB.out | apply below_alloc | apply pw_below_drewN | apply below_drew1)⟩⟩
             ·rw [if_neg c44] at H
              have c44b0 : (t10021 == 0) = false := beq_eq_false_iff_ne.mpr c44
              have c44b1 : (t10021 != 0) = true := bne_iff_ne.mpr c44
              (first | rw [c44b0] | (simp only [i64_w, i32_w]; rw [c44b0]) | skip)
              have H' := Aside0.mk H
              clear H
              go_wp2
              go_meet
              case rel => exact ⟨_, (true), (by first | rfl | (simp; done) | (simp [*]; done)), H', ⟨by have := HJ10.out; have := HJ22.out; have := HJ32.out; first | omega | exact Nat.le_refl _⟩, ⟨by (with_reducible repeat (first | apply Kd.R_alloc | apply Kd.R_drewN | apply Kd.R_drew)); exact Kd.R_mono HO_9.out (fun _ hk => trivial)⟩, ⟨by repeat (first | exact HB.out | apply below_alloc | apply pw_below_drewN | apply below_drew1)⟩⟩
            case rest =>
             clear HC40
             try clear c1
             try clear c2
             try clear p2
             try clear c3
             try clear c4
             try clear c5
             try clear c5b0
             try clear c5b1
             try clear p6
             try clear c9
             try clear c9b0
             try clear c9b1
             try clear c10
             try clear c11
             try clear c14
             try clear c15
             try clear c15b0
             try clear c15b1
             try clear c16
             try clear c16b0
             try clear c17
             try clear c17b0
             try clear c20
             try clear c26
             try clear c27
             try clear c27b0
             try clear c27b1
             try clear c28
             try clear c28b0
             try clear c28b1
             try clear c32
             try clear c34
             try clear c34b0
             try clear c35
             try clear c44
             try clear c44b0
             try clear c44b1
             try clear c45
             try clear c45b0
             try clear c45b1
             try clear c46
             try clear c46b0
             try clear c46b1
             try clear c47
             try clear c47b0
             try clear p2
             obtain ⟨kq, x129_39, rfl, HA, HJ39, HO_9, HB⟩ := hcut
             cases kq with
             | zero => exact absurd HA.out (by simp [papermilllaw41_RewindCuts.j3])
             | succ kj39 =>
              have H := HA.out
              clear HA
              simp only [papermilllaw41_RewindCuts.j3] at H
              by_cases c49 : x129_39 = true
              ·subst c49
               have H1 : none = some r := by rw [if_pos rfl] at H; exact H
               clear H
               have H := H1
               clear H1
               cases H
              ·replace c49 := Bool.eq_false_iff.mpr c49
               subst c49
               have H1 : (if a3 = 0 then ((papermilllaw41_awake.f).bind fun t10025 => (some t10025)) else ((papermillref13_At.f kj39 t10002 (wrap64 (a3 - 1))).bind fun bt10026 => (if bt10026.2 = 0 then (if bt10026.1 > t10020 then ((papermilllaw41_awake.f).bind fun t10028 => (some t10028)) else none) else none))) = some r := by rw [if_neg (show ¬ (false = true) by decide)] at H; first | exact H | simpa using H
               clear H
               have H := H1
               clear H1
               by_cases c50 : a3 = 0
               ·rw [if_pos c50] at H
                have c50b0 : (a3 == 0) = true := beq_iff_eq.mpr c50
                have c50b1 : (a3 != 0) = false := bne_eq_false_iff_eq.mpr c50
                clear c50
                replace H := Option.bind_eq_some_iff.mp H
                obtain ⟨t10025, A510, H⟩ := H
                replace H : (some t10025) = some r := H
                have A51 := Aside0.mk A510
                clear A510
                obtain rfl := Option.some.inj H
                go_wp2_with (first | ((with_reducible refine gate_callee (f := 14) rfl ?_); refine goesL_ (some 132) rfl rfl Try.func14 (by kernel_rfl) rfl #[] rfl (by (try simp only [List.map_toArray, List.map_cons, List.map_nil]); first | done | rfl | (simp only [List.length_drop, List.length_take]; rfl)) ?_; (with_reducible refine (papermilllaw41_awake.calls  t10025 _ A51.out).mono ?_); rintro e w52 ⟨rfl, hb⟩; refine ⟨_, rfl, ?_⟩; have n0_ := Aside0.mk (Kd.R_below (by (with_reducible repeat (first | apply Kd.R_alloc | apply Kd.R_drewN | apply Kd.R_drew)); exact HO_9.out) hb); have n1_ := Aside0.mk (below_step (by repeat (first | exact HB.out | apply below_alloc | apply pw_below_drewN | apply below_drew1)) hb); clear HO_9; clear HB; have HO_9 := n0_; have HB := n1_; clear n0_ n1_; (try clear hb); (try clear hb2); (try clear hk); (try clear hi)))
                go_ret
                exact ⟨by first | rfl | (simp [errW_none, errW_some] <;> rfl) | (simp [*, errW_none, errW_some] <;> rfl), by repeat (first | exact HB.out | apply below_alloc | apply pw_below_drewN | apply below_drew1)⟩
               ·rw [if_neg c50] at H
                have c50b0 : (a3 == 0) = false := beq_eq_false_iff_ne.mpr c50
                have c50b1 : (a3 != 0) = true := bne_iff_ne.mpr c50
                replace H := Option.bind_eq_some_iff.mp H
                obtain ⟨⟨t10026, t10027⟩, A530, H⟩ := H
                replace H : (if t10027 = 0 then (if t10026 > t10020 then ((papermilllaw41_awake.f).bind fun t10028 => (some t10028)) else none) else none) = some r := H
                have A53 := Aside0.mk A530
                clear A530
                by_cases c54 : t10027 = 0
                ·rw [if_pos c54] at H
                 have c54b0 : (t10027 == 0) = true := beq_iff_eq.mpr c54
                 have c54b1 : (t10027 != 0) = false := bne_eq_false_iff_eq.mpr c54
                 clear c54
                 by_cases c55 : t10026 > t10020
                 ·rw [if_pos c55] at H
                  have c55b0 : decide (t10020 < t10026) = true := decide_eq_true c55
                  clear c55
                  replace H := Option.bind_eq_some_iff.mp H
                  obtain ⟨t10028, A560, H⟩ := H
                  replace H : (some t10028) = some r := H
                  have A56 := Aside0.mk A560
                  clear A560
                  obtain rfl := Option.some.inj H
                  go_wp2_with (first | ((with_reducible refine gate_callee (f := 26) rfl ?_); refine goesL_ (some 137) rfl rfl Try.func26 (by kernel_rfl) rfl #[.slice Ao13 t10002.length co13, .int .i64 (wrap64 (a3 - 1))] rfl (by (try simp only [List.map_toArray, List.map_cons, List.map_nil]); first | done | rfl | (simp only [List.length_drop, List.length_take]; rfl)) ?_; (with_reducible refine (papermillref13_At.calls kj39 _ _ t10002 (wrap64 (a3 - 1)) t10026 t10027 _ ?side1 ?side2 A53.out).mono ?_); (case side1 => repeat (first | exact (Kd.R_reads' HO_9.out).2.2 | (with_reducible refine Kd.C_alloc ?_ _) | (with_reducible refine Kd.C_drewN ?_ _) | (with_reducible refine Kd.C_drew ?_))); (case side2 => exact (Kd.R_reads' HO_9.out).2.1); rintro e w57 ⟨rfl, hb⟩; refine ⟨_, rfl, ?_⟩; have n0_ := Aside0.mk (Kd.R_below (by (with_reducible repeat (first | apply Kd.R_alloc | apply Kd.R_drewN | apply Kd.R_drew)); exact HO_9.out) hb); have n1_ := Aside0.mk (below_step (by repeat (first | exact HB.out | apply below_alloc | apply pw_below_drewN | apply below_drew1)) hb); clear HO_9; clear HB; have HO_9 := n0_; have HB := n1_; clear n0_ n1_; (try clear hb); (try clear hb2); (try clear hk); (try clear hi)) | (go_at_call 14; (with_reducible refine (papermilllaw41_awake.calls  t10028 _ A56.out).mono ?_); rintro e w58 ⟨rfl, hb⟩; have n0_ := Aside0.mk (Kd.R_below (by (with_reducible repeat (first | apply Kd.R_alloc | apply Kd.R_drewN | apply Kd.R_drew)); exact HO_9.out) hb); have n1_ := Aside0.mk (below_step (by repeat (first | exact HB.out | apply below_alloc | apply pw_below_drewN | apply below_drew1)) hb); clear HO_9; clear HB; have HO_9 := n0_; have HB := n1_; clear n0_ n1_; (try clear hb); (try clear hb2); (try clear hk); (try clear hi)))
                  go_ret
                  exact ⟨by first | rfl | (simp [errW_none, errW_some] <;> rfl) | (simp [*, errW_none, errW_some] <;> rfl), by repeat (first | exact HB.out | apply below_alloc | apply pw_below_drewN | apply below_drew1)⟩
                 ·rw [if_neg c55] at H
                  have c55b0 : decide (t10020 < t10026) = false := decide_eq_false c55
                  clear c55
                  cases H
                ·rw [if_neg c54] at H
                 have c54b0 : (t10027 == 0) = false := beq_eq_false_iff_ne.mpr c54
                 have c54b1 : (t10027 != 0) = true := bne_iff_ne.mpr c54
                 cases H
  ·rw [if_neg c9] at H
   have c9b0 : (t10003 == 0) = false := beq_eq_false_iff_ne.mpr c9
   have c9b1 : (t10003 != 0) = true := bne_iff_ne.mpr c9
   by_cases c61 : (t10002.length : Int) = 0
   ·rw [if_pos c61] at H
    have c61b0 : ((t10002.length : Int) == 0) = true := beq_iff_eq.mpr c61
    have c61b1 : ((t10002.length : Int) != 0) = false := bne_eq_false_iff_eq.mpr c61
    clear c61
    replace H := Option.bind_eq_some_iff.mp H
    obtain ⟨t10006, A620, H⟩ := H
    replace H : (some t10006) = some r := H
    have A62 := Aside0.mk A620
    clear A620
    obtain rfl := Option.some.inj H
    go_enter Try.func9, Try.ntmps9
    go_wp2_with (first | ((with_reducible refine gate_callee (f := 15) rfl ?_); refine goesL_ (some 31) rfl rfl Try.func15 (by kernel_rfl) rfl #[.int .i64 a0, .slice A1 l1.length c1, .int .i64 a2] rfl (by (try simp only [List.map_toArray, List.map_cons, List.map_nil]); first | done | rfl | (simp only [List.length_drop, List.length_take]; rfl)) ?_; (with_reducible refine (rewind_Cull.calls k a0 _ _ l1 a2 t10002 t10003 _ ?side1 ?side2 A8.out).mono ?_); (case side1 => repeat (first | exact HR1.out | (with_reducible refine Kd.C_alloc ?_ _) | (with_reducible refine Kd.C_drewN ?_ _) | (with_reducible refine Kd.C_drew ?_))); (case side2 => exact HC1.out); rintro e w63 ⟨v10004, rfl, ho0, hb⟩; refine ⟨_, rfl, ?_⟩; have n0_ := Aside0.mk (Kd.R_lower ho0 (below_size (by repeat (first | exact HB.out | apply below_alloc | apply pw_below_drewN | apply below_drew1)))); have n1_ := Aside0.mk (below_step (by repeat (first | exact HB.out | apply below_alloc | apply pw_below_drewN | apply below_drew1)) hb); clear HB; have HO10005 := n0_; have HB := n1_; clear n0_ n1_; (try clear hb); (try clear hb2); (try clear hk); (try clear hi); (try clear ho0); obtain ⟨Ao64, co64, eo64⟩ := Kd.R_slice HO10005.out; subst eo64) | (go_at_call 14; (with_reducible refine (papermilllaw41_awake.calls  t10006 _ A62.out).mono ?_); rintro e w65 ⟨rfl, hb⟩; have n0_ := Aside0.mk (Kd.R_below (by (with_reducible repeat (first | apply Kd.R_alloc | apply Kd.R_drewN | apply Kd.R_drew)); exact HO10005.out) hb); have n1_ := Aside0.mk (below_step (by repeat (first | exact HB.out | apply below_alloc | apply pw_below_drewN | apply below_drew1)) hb); clear HO10005; clear HB; have HO10005 := n0_; have HB := n1_; clear n0_ n1_; (try clear hb); (try clear hb2); (try clear hk); (try clear hi)))
    go_ret
    exact ⟨by first | rfl | (simp [errW_none, errW_some] <;> rfl) | (simp [*, errW_none, errW_some] <;> rfl), by repeat (first | exact HB.out | apply below_alloc | apply pw_below_drewN | apply below_drew1)⟩
   ·rw [if_neg c61] at H
    have c61b0 : ((t10002.length : Int) == 0) = false := beq_eq_false_iff_ne.mpr c61
    have c61b1 : ((t10002.length : Int) != 0) = true := bne_iff_ne.mpr c61
    have c61b2 : ¬ (t10002 = []) := fun h_ => c61 (by rw [h_]; rfl)
    cases H

end Go.Proofs.Ytalpegglbfobiaa.G

namespace Go.Proofs.Ytalpegglbfobiaa.G
open Go.RowKit Go.Proofs.YtalpegglbfobiaaW.PrintWords Go.Proofs.YtalpegglbfobiaaW.PrintLast Go.Proofs.YtalpegglbfobiaaW.PrintMore
set_option linter.unusedVariables false
set_option linter.unusedSimpArgs false
theorem back_img (a n x : Int) (h0 : 0 ≤ x) (h1 : x < n) : img (backR a n) x = a - x := by
 unfold img backR
 by_cases h : n > 1
 ·simp [h]
 ·have : x = 0 := by omega
  subst this
  simp
theorem back_check (a n : Int) (h : long n) (h0 : n - 1 ≤ a) (h1 : a < 17179869184) : check13 [backR a n] = 0 := by
 unfold long at h
 have hb : ¬ badR (backR a n) := by
  unfold badR backR
  by_cases h2 : n > 1
  ·simp [h2]; omega
  ·simp [h2]; omega
 have ht : tot13 [backR a n] = n := by simp [tot13, backR]
 unfold check13
 rw [if_neg (by simp), show anyBad [backR a n] = false by simp [anyBad, hb], if_neg (by simp), ht, if_neg (by omega)]
theorem back_tot (a n : Int) : tot13 [backR a n] = n := by simp [tot13, backR]
theorem back_sem (a n : Int) : sem [backR a n] = imgs (backR a n) := by rw [sem_cons, sem_nil, List.append_nil]
theorem back_at (a n x : Int) (h : long n) (h0 : n - 1 ≤ a) (h1 : a < 17179869184) (hx0 : 0 ≤ x) (hx1 : x < n) : atOf13 [backR a n] x = (a - x, 0) := by
 unfold atOf13
 rw [if_pos (back_check a n h h0 h1), back_tot, if_neg (by omega), back_sem, List.getD_eq_getElem?_getD, imgs_get (backR a n) x.toNat (by show ((x.toNat : Nat) : Int) < n; omega), show ((x.toNat : Nat) : Int) = x by omega, back_img a n x hx0 hx1]
 rfl
theorem nrm_one (r : S44) (h : okR r) : nrm (imgs r) = [r] := by
 have e := addAll [r] (by simpa using h.1)
 rw [sem_cons, sem_nil, List.append_nil] at e
 rw [← e]
 obtain ⟨a, n, b⟩ := r
 obtain ⟨h1, h2⟩ := h
 dsimp only at h1 h2
 have hn : ¬ n < 1 := by omega
 simp only [List.foldl_cons, List.foldl_nil, addOf, hn, if_false, List.reverse_nil, addR, partR, img, List.reverse_cons, List.nil_append]
 by_cases hb : n = 1
 ·simp [h2 hb]
 ·have : n > 1 := by omega
  cases b <;> simp [this]
theorem back_twice (n : Int) (h : long n) : compOf13 [backR (n - 1) n] [backR (n - 1) n] = ([⟨0, n, false⟩], 0) := by
 have hl := h
 unfold long at hl
 have hc := back_check (n - 1) n h (by omega) (by omega)
 have hf : ∀ r ∈ [backR (n - 1) n], farR (tot13 [backR (n - 1) n]) r = false := by
  intro r hr
  rw [List.mem_singleton.mp hr, back_tot]
  unfold farR
  rw [show (backR (n - 1) n).f1 = n from rfl, show (backR (n - 1) n).f0 = n - 1 from rfl, back_img (n - 1) n (n - 1) (by omega) (by omega)]
  exact decide_eq_false (by omega)
 have e : cmp [backR (n - 1) n] [backR (n - 1) n] = imgs ⟨0, n, false⟩ := by
  unfold cmp
  rw [back_sem]
  apply List.ext_getElem?
  intro i
  rw [List.getElem?_map]
  by_cases hi : (i : Int) < n
  ·rw [imgs_get (backR (n - 1) n) i (by show (i : Int) < n; exact hi), imgs_get ⟨0, n, false⟩ i hi, Option.map_some, back_img (n - 1) n i (by omega) hi]
   congr 1
   unfold lookOf
   rw [List.getD_eq_getElem?_getD, imgs_get (backR (n - 1) n) (n - 1 - i).toNat (by show (((n - 1 - i).toNat : Nat) : Int) < n; omega), show (((n - 1 - (i : Int)).toNat : Nat) : Int) = n - 1 - i by omega, back_img (n - 1) n _ (by omega) (by omega)]
   simp [img]
   omega
  ·rw [List.getElem?_eq_none (by rw [imgs_len]; show n.toNat ≤ i; omega), List.getElem?_eq_none (by rw [imgs_len]; show n.toNat ≤ i; omega)]
   rfl
 rw [comp_is hc hc hf, e, nrm_one ⟨0, n, false⟩ ⟨hl.1, fun _ => rfl⟩, if_neg (by simp)]
theorem after_twice (n : Int) (h : long n) : afterOf [[backR (n - 1) n], [backR (n - 1) n]] = ([⟨0, n, false⟩], 0) := by
 have hl := h
 unfold long at hl
 have hc := back_check (n - 1) n h (by omega) (by omega)
 have ho : okR (backR (n - 1) n) := ⟨hl.1, fun e => by unfold backR at e ⊢; dsimp only at e ⊢; exact decide_eq_false (by omega)⟩
 unfold afterOf
 rw [if_neg (by simp), if_pos (by simp [badGo, hc])]
 show aftGo [[backR (n - 1) n]] (nrm (sem [backR (n - 1) n])) = _
 rw [back_sem, nrm_one _ ho]
 unfold aftGo
 rw [back_twice n h, if_pos rfl]
 rfl
theorem splitGo_get : ∀ (l : List Int) (n : Int) (k : Nat) (h : k < l.length), (splitGo n l)[k]? = some [backR (n - sumI (l.take k) - 1) l[k]]
 | [], n, k, h => by simp at h
 | x :: l, n, 0, h => by simp [splitGo, sumI]
 | x :: l, n, k + 1, h => by
  rw [splitGo, List.getElem?_cons_succ, splitGo_get l (n - x) k (by simpa using h), List.take_succ_cons, sumI_cons, List.getElem_cons_succ, show n - x - sumI (l.take k) = n - (x + sumI (l.take k)) by omega]
theorem splitOf_zero {n : Int} {l : List Int} (h : (splitOf n l).2 = 0) : long n ∧ l.length ≤ 512 ∧ (∀ x ∈ l, long x) ∧ sumI l ≤ n ∧ (splitOf n l).1 = splitGo n l := by
 unfold splitOf at h ⊢
 split at h
 ·split at h
  ·cases h
  ·split at h
   ·cases h
   ·split at h
    ·split at h
     ·cases h
     ·rename_i h1 h2 h3 h4 h5
      refine ⟨h1, by omega, h4, by omega, ?_⟩
      rw [if_pos h1, if_neg h2, if_neg h3, if_pos h4, if_neg h5]
    ·cases h
 ·cases h
theorem splitOf_bad {n : Int} {l : List Int} (h : ¬ (splitOf n l).2 = 0) : (splitOf n l).1 = [] := by
 unfold splitOf at h ⊢
 split at h
 ·split at h
  ·rename_i h1 h2; rw [if_pos h1, if_pos h2]
  ·split at h
   ·rename_i h1 h2 h3; rw [if_pos h1, if_neg h2, if_pos h3]
   ·split at h
    ·split at h
     ·rename_i h1 h2 h3 h4 h5; rw [if_pos h1, if_neg h2, if_neg h3, if_pos h4, if_pos h5]
     ·exact absurd rfl h
    ·rename_i h1 h2 h3 h4; rw [if_pos h1, if_neg h2, if_neg h3, if_neg h4]
 ·rename_i h1; rw [if_neg h1]
theorem sumI_append : ∀ (l m : List Int), sumI (l ++ m) = sumI l + sumI m
 | [], m => by simp [sumI]
 | x :: l, m => by rw [List.cons_append, sumI_cons, sumI_cons, sumI_append l m]; omega
end Go.Proofs.Ytalpegglbfobiaa.G

namespace Go.Proofs.Ytalpegglbfobiaa.G
open Go.RowKit Go.Proofs.YtalpegglbfobiaaW.PrintWords Go.Proofs.YtalpegglbfobiaaW.PrintLast Go.Proofs.YtalpegglbfobiaaW.PrintMore
set_option linter.unusedVariables false
set_option linter.unusedSimpArgs false
theorem rgood_ends (r : S44) : Ends (fun k => papermillref13_good.f k r.f0 r.f1 r.f2) (decide (¬ badR r)) := by
 have key : ∀ z : Bool, z = decide (r.f1 < 1 ∨ r.f1 > 17179869184 ∨ r.f0 < 0 ∨ r.f0 ≥ 17179869184) → Ends (fun k => papermillref13_good.j0 k z r.f0 r.f1 r.f2) (decide (¬ badR r)) := fun z hz => by
  refine Ends.succ ?_
  simp only [papermillref13_good.j0]
  by_cases hb : r.f1 < 1 ∨ r.f1 > 17179869184 ∨ r.f0 < 0 ∨ r.f0 ≥ 17179869184
  ·exact Ends.pos (by rw [hz]; simpa using hb) ((Ends.ret false).congr (by symm; rw [decide_eq_false_iff_not, Classical.not_not]; unfold badR; omega))
  ·refine Ends.neg (by rw [hz]; simpa using hb) ?_
   cases hf : r.f2 with
   | true =>
    have ew : wrap64 (wrap64 (r.f0 - r.f1) + 1) = r.f0 - r.f1 + 1 := by
     have : wrap64 (r.f0 - r.f1) = r.f0 - r.f1 := by unfold wrap64; omega
     rw [this]; unfold wrap64; omega
    refine Ends.pos rfl ((Ends.ret _).congr ?_)
    rw [ew]
    unfold badR
    rw [decide_eq_decide]
    simp [hf]
    omega
   | false =>
    have ew : wrap64 (r.f0 + r.f1) = r.f0 + r.f1 := by unfold wrap64; omega
    refine Ends.neg (by simp) ((Ends.ret _).congr ?_)
    rw [ew]
    unfold badR
    rw [decide_eq_decide]
    simp [hf]
    omega
 unfold papermillref13_good.f
 by_cases c1 : r.f1 < 1
 ·exact Ends.pos c1 (key true (by simp [c1]))
 ·refine Ends.neg c1 ?_
  by_cases c2 : r.f1 > 17179869184
  ·exact Ends.pos c2 (key true (by simp [c2]))
  ·refine Ends.neg c2 ?_
   by_cases c3 : r.f0 < 0
   ·exact Ends.pos c3 (key true (by simp [c3]))
   ·exact Ends.neg c3 (key _ (by simp [c1, c2, c3]))
theorem rlength_l0 (l : List S44) (hl : l.length ≤ 65536) (hv : ∀ r ∈ l, 0 ≤ r.f1 ∧ r.f1 ≤ 17179869184) : ∀ (d i : Nat) (n : Int), l.length - i = d → i ≤ l.length → 0 ≤ n → n ≤ i * 17179869184 → Ends (fun k => papermillref13_length.l0 k l n (i : Int)) (n + tot13 (l.drop i)) := by
 intro d
 induction d with
 | zero =>
  intro i n hd hi h0 h1
  refine Ends.succ ?_
  simp only [papermillref13_length.l0]
  rw [List.drop_of_length_le (by omega)]
  exact Ends.neg (by omega) ((Ends.ret _).congr (by simp [tot13]))
 | succ d ih =>
  intro i n hd hi h0 h1
  refine Ends.succ ?_
  have hx := hv (rd_T44 l (i : Int)) (by rw [rdR l i (by omega)]; exact List.getElem_mem _)
  rw [dropR l i (by omega), tot13_cons]
  simp only [papermillref13_length.l0, wrap_nat i (by omega)]
  generalize rd_T44 l (i : Int) = r at *
  have ew : wrap64 (n + r.f1) = n + r.f1 := by unfold wrap64; omega
  rw [ew]
  exact Ends.pos (by omega) (Ends.pos (by omega) ((ih (i + 1) (n + r.f1) (by omega) (by omega) (by omega) (by omega)).congr (by rw [Int.add_assoc])))
theorem rlength_ends (l : List S44) (hl : l.length ≤ 65536) (hv : ∀ r ∈ l, 0 ≤ r.f1 ∧ r.f1 ≤ 17179869184) : Ends (fun k => papermillref13_length.f k l) (tot13 l) := by
 unfold papermillref13_length.f
 exact (rlength_l0 l hl hv _ 0 0 rfl (by omega) (by omega) (by omega)).congr (by simp)
theorem rcheck_l0 (l : List S44) (hl : l.length ≤ 256) : ∀ (d i : Nat), l.length - i = d → i ≤ l.length → anyBad (l.take i) = false → Ends (fun k => papermillref13_Check.l0 k l (i : Int)) (if anyBad l = true then 1 else if tot13 l > 17179869184 then 21 else 0) := by
 intro d
 induction d with
 | zero =>
  intro i hd hi hn
  refine Ends.succ ?_
  simp only [papermillref13_Check.l0]
  rw [List.take_of_length_le (by omega)] at hn
  have hg : ∀ r ∈ l, ¬ badR r := fun r hr hb => by
   have : anyBad l = true := List.any_eq_true.mpr ⟨r, hr, by simpa using hb⟩
   rw [hn] at this; cases this
  refine Ends.neg (by omega) (Ends.bind (rlength_ends l (by omega) (fun r hr => by have := fit_of (hg r hr); unfold fitR at this; omega)) ?_)
  by_cases h : tot13 l > 17179869184
  ·exact Ends.pos h ((Ends.ret 21).congr (by rw [hn, if_neg (by simp), if_pos h]))
  ·exact Ends.neg h ((Ends.ret 0).congr (by rw [hn, if_neg (by simp), if_neg h]))
 | succ d ih =>
  intro i hd hi hn
  refine Ends.succ ?_
  simp only [papermillref13_Check.l0, wrap_nat i (by omega)]
  have hmem : rd_T44 l (i : Int) ∈ l := by rw [rdR l i (by omega)]; exact List.getElem_mem _
  have htk : l.take (i + 1) = l.take i ++ [rd_T44 l (i : Int)] := by rw [List.take_succ_eq_append_getElem (by omega : i < l.length), rdR l i (by omega)]
  generalize rd_T44 l (i : Int) = r at *
  refine Ends.pos (by omega) (Ends.pos (by omega) (Ends.bind (rgood_ends r) ?_))
  by_cases hb : badR r
  ·have : anyBad l = true := List.any_eq_true.mpr ⟨r, hmem, by simpa using hb⟩
   rw [if_pos this]
   exact Ends.neg (by simpa using hb) (Ends.ret _)
  ·exact Ends.pos (by simpa using hb) (ih (i + 1) (by omega) (by omega) (by rw [htk]; simp only [anyBad, List.any_append] at hn ⊢; rw [hn]; simpa using hb))
theorem rcheck_ends (l : List S44) : Ends (fun k => papermillref13_Check.f k l) (check13 l) := by
 unfold papermillref13_Check.f check13
 by_cases h : l.length > 256
 ·rw [if_pos h]; exact Ends.pos (by omega) (Ends.ret _)
 ·rw [if_neg h]
  exact Ends.neg (by omega) (rcheck_l0 l (by omega) _ 0 rfl (by omega) (by simp [anyBad]))
end Go.Proofs.Ytalpegglbfobiaa.G

namespace Go.Proofs.Ytalpegglbfobiaa.G
open Go.RowKit Go.Proofs.YtalpegglbfobiaaW.PrintWords Go.Proofs.YtalpegglbfobiaaW.PrintLast Go.Proofs.YtalpegglbfobiaaW.PrintMore
set_option linter.unusedVariables false
set_option linter.unusedSimpArgs false
def placeGo : List S44 → Int → Int → Int × Int
 | [], _, _ => (-1, 0)
 | r :: b, i, y => if y < r.f1 then (i, y) else placeGo b (i + 1) (y - r.f1)
theorem rplace_l0 (b : List S44) (hb : b.length ≤ 256) (hv : ∀ r ∈ b, 0 ≤ r.f1 ∧ r.f1 ≤ 17179869184) : ∀ (d i : Nat) (y : Int), b.length - i = d → i ≤ b.length → 0 ≤ y → y ≤ 9223372036854775807 → Ends (fun k => papermillref13_place.l0 k b y (i : Int)) (placeGo (b.drop i) i y) := by
 intro d
 induction d with
 | zero =>
  intro i y hd hi h0 h1
  refine Ends.succ ?_
  simp only [papermillref13_place.l0]
  rw [List.drop_of_length_le (by omega)]
  refine Ends.neg (by omega) (Ends.succ ?_)
  simp only [papermillref13_place.j1]
  exact Ends.neg (by simp) (Ends.ret _)
 | succ d ih =>
  intro i y hd hi h0 h1
  refine Ends.succ ?_
  have hx := hv (rd_T44 b (i : Int)) (by rw [rdR b i (by omega)]; exact List.getElem_mem _)
  rw [dropR b i (by omega)]
  simp only [papermillref13_place.l0, placeGo]
  refine Ends.pos (by omega) (Ends.succ ?_)
  simp only [papermillref13_place.j1, wrap_nat i (by omega)]
  generalize rd_T44 b (i : Int) = r at *
  have ew : wrap64 (y - r.f1) = y - r.f1 := by unfold wrap64; omega
  refine Ends.pos (by simpa using h0) (Ends.pos (by omega) (Ends.pos (by omega) ?_))
  by_cases h : y < r.f1
  ·rw [if_pos h]; exact Ends.pos h (Ends.ret _)
  ·rw [if_neg h, ew]
   exact Ends.neg h (ih (i + 1) (y - r.f1) (by omega) (by omega) (by omega) (by omega))
theorem rplace_ends (b : List S44) (hb : b.length ≤ 256) (hv : ∀ r ∈ b, 0 ≤ r.f1 ∧ r.f1 ≤ 17179869184) (y : Int) (h0 : 0 ≤ y) (h1 : y ≤ 9223372036854775807) : Ends (fun k => papermillref13_place.f k b y) (placeGo b 0 y) := by
 unfold papermillref13_place.f
 exact (rplace_l0 b hb hv _ 0 y rfl (by omega) h0 h1).congr (by simp)
theorem place_none (b : List S44) : ∀ (i y : Int), tot13 b ≤ y → (∀ r ∈ b, 0 ≤ r.f1) → placeGo b i y = (-1, 0) := by
 induction b with
 | nil => intro i y _ _; rfl
 | cons r b ih =>
  intro i y h hv
  rw [tot13_cons] at h
  have h2 := ih (i + 1) (y - r.f1) (by omega) (fun x hx => hv x (by simp [hx]))
  have h3 : 0 ≤ tot13 b := by
   rw [← sem_len b (fun x hx => hv x (by simp [hx]))]; omega
  simp only [placeGo]
  rw [if_neg (by omega), h2]
theorem look_cons (r : S44) (b : List S44) (h : 0 ≤ r.f1) (y : Int) (h0 : 0 ≤ y) : lookOf (sem (r :: b)) y = if y < r.f1 then img r y else lookOf (sem b) (y - r.f1) := by
 unfold lookOf
 rw [sem_cons, List.getD_eq_getElem?_getD, List.getD_eq_getElem?_getD]
 by_cases hy : y < r.f1
 ·rw [if_pos hy, List.getElem?_append_left (by rw [imgs_len]; omega), imgs_get r y.toNat (by omega), show ((y.toNat : Nat) : Int) = y by omega]
  rfl
 ·rw [if_neg hy, List.getElem?_append_right (by rw [imgs_len]; omega), imgs_len, show y.toNat - r.f1.toNat = (y - r.f1).toNat by omega]
theorem place_some (b : List S44) : ∀ (i : Nat) (y : Int), 0 ≤ y → y < tot13 b → (∀ r ∈ b, 0 ≤ r.f1) → ∃ (j : Nat) (p : Int) (o : S44), placeGo b i y = (((i + j : Nat) : Int), p) ∧ b[j]? = some o ∧ 0 ≤ p ∧ p < o.f1 ∧ ∀ u : Int, 0 ≤ p + u → p + u < o.f1 → (0 ≤ y + u ∧ y + u < tot13 b) ∧ lookOf (sem b) (y + u) = img o (p + u) := by
 induction b with
 | nil => intro i y h0 h1 _; simp [tot13] at h1; omega
 | cons r b ih =>
  intro i y h0 h1 hv
  have hr := hv r (by simp)
  have hT : 0 ≤ tot13 b := by rw [← sem_len b (fun x hx => hv x (by simp [hx]))]; omega
  rw [tot13_cons] at h1
  simp only [placeGo]
  by_cases hy : y < r.f1
  ·rw [if_pos hy]
   refine ⟨0, y, r, by simp, rfl, h0, hy, fun u hu0 hu1 => ⟨⟨hu0, by rw [tot13_cons]; omega⟩, ?_⟩⟩
   rw [look_cons r b hr _ hu0, if_pos hu1]
  ·rw [if_neg hy]
   obtain ⟨j, p, o, e, ho, hp0, hp1, hu⟩ := ih (i + 1) (y - r.f1) (by omega) (by omega) (fun x hx => hv x (by simp [hx]))
   refine ⟨j + 1, p, o, ?_, by simpa using ho, hp0, hp1, fun u hu0 hu1 => ?_⟩
   ·rw [show ((i : Int) + 1) = ((i + 1 : Nat) : Int) by omega, e]
    congr 1
    omega
   ·obtain ⟨h2, h3⟩ := hu u hu0 hu1
    refine ⟨⟨by omega, by rw [tot13_cons]; omega⟩, ?_⟩
    rw [look_cons r b hr _ (by omega), if_neg (by omega), ← h3, show y + u - r.f1 = y - r.f1 + u by omega]
end Go.Proofs.Ytalpegglbfobiaa.G

namespace Go.Proofs.Ytalpegglbfobiaa.G
open Go.RowKit Go.Proofs.YtalpegglbfobiaaW.PrintWords Go.Proofs.YtalpegglbfobiaaW.PrintLast Go.Proofs.YtalpegglbfobiaaW.PrintMore
set_option linter.unusedVariables false
set_option linter.unusedSimpArgs false
theorem rat_ends (l : List S44) (h : check13 l = 0) (x : Int) (h0 : 0 ≤ x) (h1 : x < tot13 l) : Ends (fun k => papermillref13_At.f k l x) (atOf13 l x) := by
 obtain ⟨hl, hg, ht⟩ := check13_zero h
 have hf : ∀ r ∈ l, 0 ≤ r.f1 ∧ r.f1 ≤ 17179869184 := fun r hr => by have := fit_of (hg r hr); unfold fitR at this; omega
 unfold papermillref13_At.f
 refine Ends.bind (rcheck_ends l) ?_
 refine Ends.pos h (Ends.bind (rplace_ends l hl hf x h0 (by omega)) ?_)
 obtain ⟨j, p, o, hpl, hj, hp0, hp1, hu⟩ := place_some l 0 x h0 h1 (fun r hr => (hf r hr).1)
 rw [show ((0 : Nat) : Int) = 0 from rfl] at hpl
 rw [hpl]
 have hjl : j < l.length := by
  rcases Nat.lt_or_ge j l.length with h | h
  ·exact h
  ·rw [List.getElem?_eq_none h] at hj; cases hj
 have ho : rd_T44 l ((0 + j : Nat) : Int) = o := by
  rw [Nat.zero_add, rdR l j hjl]
  rw [List.getElem?_eq_getElem hjl] at hj
  exact Option.some.inj hj
 have hom : o ∈ l := List.mem_of_getElem? hj
 have hof := fit_of (hg o hom)
 unfold fitR at hof
 have himg : papermillref13_image.f o.f0 o.f1 o.f2 p = some (img o p) := image_is o p ⟨by omega, by omega, by omega⟩ (by omega) (by omega)
 refine Ends.neg (by dsimp only; omega) (Ends.pos (by dsimp only; omega) (Ends.pos (by dsimp only; omega) ?_))
 dsimp only
 rw [ho, himg]
 have h2 := (hu 0 (by omega) (by omega)).2
 rw [Int.add_zero, Int.add_zero] at h2
 have e : atOf13 l x = (img o p, 0) := by
  unfold atOf13
  rw [if_pos h, if_neg (by omega), ← h2]
  rfl
 rw [e]
 exact Ends.ret _
end Go.Proofs.Ytalpegglbfobiaa.G

namespace Go.Proofs.Ytalpegglbfobiaa.G
open Go.RowKit Go.Proofs.YtalpegglbfobiaaW.PrintWords Go.Proofs.YtalpegglbfobiaaW.PrintLast Go.Proofs.YtalpegglbfobiaaW.PrintMore
set_option linter.unusedVariables false
set_option linter.unusedSimpArgs false
theorem comb_ends (a b : List S55) (ha : a.length ≤ 256) (hb : b.length ≤ 256) (w : Int) (hw : w = 0 ∨ w = 1 ∨ w = 2) : Ends (fun _ => papermillref04_combine.f a b w) (combOf a b w) :=
 Ends.const (by unfold papermillref04_combine.f; rw [if_pos ⟨ha, hb, hw⟩])
theorem check_l0 (l : List S55) (hl : l.length ≤ 256) : ∀ (d i : Nat), l.length - i = d → i ≤ l.length → Ends (fun k => papermillref04_Check.l0 k l (i : Int)) (if ∃ s ∈ l.drop i, badS s then 1 else 0) := by
 intro d
 induction d with
 | zero =>
  intro i hd hi
  rw [List.drop_of_length_le (by omega)]
  refine Ends.succ ?_
  simp only [papermillref04_Check.l0]
  exact Ends.neg (by omega) (by simpa using Ends.ret (0 : Int))
 | succ d ih =>
  intro i hd hi
  have := ih (i + 1) (by omega) (by omega)
  rw [drop36 l i (by omega)]
  refine Ends.succ ?_
  simp only [papermillref04_Check.l0, wrap_nat i (by omega)]
  refine Ends.pos (by omega) (Ends.pos (by omega) ?_)
  by_cases hb : badS (rd_T55 l i)
  ·rw [if_pos ⟨_, by simp, hb⟩]
   unfold badS at hb
   by_cases h1 : (rd_T55 l i).f0 < 0
   ·exact Ends.pos h1 (Ends.ret _)
   ·refine Ends.neg h1 ?_
    by_cases h2 : (rd_T55 l i).f0 > (rd_T55 l i).f1
    ·exact Ends.pos h2 (Ends.ret _)
    ·exact Ends.neg h2 (Ends.pos (by omega) (Ends.ret _))
  ·have e : (∃ s ∈ rd_T55 l i :: l.drop (i + 1), badS s) ↔ ∃ s ∈ l.drop (i + 1), badS s := by
    constructor
    ·rintro ⟨s, hs, k⟩
     rcases List.mem_cons.1 hs with rfl | hs
     ·exact absurd k hb
     ·exact ⟨s, hs, k⟩
    ·rintro ⟨s, hs, k⟩; exact ⟨s, by simp [hs], k⟩
   simp only [e]
   unfold badS at hb
   exact Ends.neg (by omega) (Ends.neg (by omega) (Ends.neg (by omega) this))
theorem check04_ends (l : List S55) : Ends (fun k => papermillref04_Check.f k l) (check04 l) := by
 simp only [papermillref04_Check.f, check04]
 by_cases h : l.length > 256
 ·rw [if_pos h]; exact Ends.pos (by omega) (Ends.ret _)
 ·rw [if_neg h]; exact Ends.neg (by omega) (by simpa using check_l0 l (by omega) l.length 0 rfl (Nat.zero_le _))
theorem both_ends (a b : List S55) (w : Int) (hw : w = 0 ∨ w = 1 ∨ w = 2) : Ends (fun k => papermillref04_both.f k a b w) (bothOf a b w) := by
 unfold papermillref04_both.f bothOf
 refine Ends.bind (check04_ends a) ?_
 by_cases h1 : check04 a = 0
 ·rw [if_pos h1]; refine Ends.pos h1 (Ends.bind (check04_ends b) ?_)
  by_cases h2 : check04 b = 0
  ·simp only [if_pos h2]; refine Ends.bind (comb_ends a b (check04_zero h1).1 (check04_zero h2).1 w hw) ?_
   by_cases h3 : (combOf a b w).length > 256
   ·rw [if_pos h3]; exact Ends.pos (by omega) (Ends.ret _)
   ·rw [if_neg h3]; exact Ends.neg (by omega) (Ends.ret _)
  ·simp only [if_neg h2]; exact Ends.ret _
 ·rw [if_neg h1]; exact Ends.neg h1 (Ends.ret _)
end Go.Proofs.Ytalpegglbfobiaa.G

namespace Go.Proofs.Ytalpegglbfobiaa.G
open Go.RowKit Go.Proofs.YtalpegglbfobiaaW.PrintWords Go.Proofs.YtalpegglbfobiaaW.PrintLast Go.Proofs.YtalpegglbfobiaaW.PrintMore
attribute [local go_sem] max2_int min2_int max_two min_two max_three min_three max_four min_four   -- for this text's walks alone
set_option linter.unusedVariables false
set_option linter.unusedSimpArgs false

attribute [local go_sem high] eqA55
def papermillref04_Same.l0 : Nat → List (S55) → List (S55) → Int → Option (Bool)
 | 0, _, _, _ => none
 | k + 1, x0, x1, x5 => if x5 < (x0.length : Int) then (if 0 ≤ x5 then (if x5 < (x1.length : Int) then (if (!(((rd_T55 x0 x5).f0) == ((rd_T55 x1 x5).f0)) || (!(((rd_T55 x0 x5).f1) == ((rd_T55 x1 x5).f1)))) = true then (some false) else (papermillref04_Same.l0 k x0 x1 (wrap64 (x5 + 1)))) else (none)) else (none)) else (some true)
def papermillref04_Same.f (k : Nat) (l0 : List (S55)) (l1 : List (S55)) : Option (Bool) := if (l0.length : Int) = (l1.length : Int) then (papermillref04_Same.l0 k l0 l1 0) else (some false)
set_option maxHeartbeats 8000000 in
set_option maxRecDepth 100000 in
theorem papermillref04_Same.calls (k : Nat) (A0 : Option Addr) (c0 : Nat) (l0 : List (S55)) (A1 : Option Addr) (c1 : Nat) (l1 : List (S55)) (r : Bool) (w : World) (hr0 : Kd.C k55 w A0 l0.length l0) (hc0 : l0.length ≤ c0) (hr1 : Kd.C k55 w A1 l1.length l1) (hc1 : l1.length ≤ c1) (h : papermillref04_Same.f k l0 l1 = some r) :
  Calls Try.prog 59 #[.slice A0 l0.length c0, .slice A1 l1.length c1] w fun e w' => e = .returned (.bool r) ∧ Drawn0 w w' := by
 have hu55 := Try.underlying55
 have HR0 := Aside0.mk hr0
 have HC0 := Aside0.mk hc0
 clear hr0 hc0
 have HR1 := Aside0.mk hr1
 have HC1 := Aside0.mk hc1
 clear hr1 hc1
 have H : (if (l0.length : Int) = (l1.length : Int) then (papermillref04_Same.l0 k l0 l1 0) else (some false)) = some r := h
 clear h
 by_cases c3 : (l0.length : Int) = (l1.length : Int)
 ·rw [if_pos c3] at H
  have c3b0 : ((l0.length : Int) == (l1.length : Int)) = true := beq_iff_eq.mpr c3
  have c3b1 : ((l0.length : Int) != (l1.length : Int)) = false := bne_eq_false_iff_eq.mpr c3
  have c3b2 : (l0.length == l1.length) = true := by first | simpa using c3 | (simp at c3 ⊢; omega)
  clear c3
  have H' := Aside0.mk H
  clear H
  go_enter Try.func59, Try.ntmps59
  go_wp2
  repeat (go_quiet (fail); try go_wp2)
  go_loopg [5] k (fun kq v5 w' => ∃ (x5_1 : Int), v5 = .int .i64 x5_1 ∧ Aside0 (papermillref04_Same.l0 kq l0 l1 x5_1 = some r) ∧ Aside0 (kq ≤ k) ∧ Drawn0 w w')
  case atStart => exact ⟨(0), (by first | rfl | (simp; done) | (simp [*]; done)), H', ⟨Nat.le_refl _⟩, by repeat (first | exact Drawn0.refl _ | apply Drawn0.step)⟩
  case round =>
   clear H'
   try clear c1
   try clear p2
   try clear c3
   try clear c3b0
   try clear c3b1
   try clear c3b2
   obtain ⟨x5_1, rfl, HA, HK1, ⟨m1, rfl⟩⟩ := hrel
   cases gk with
   | zero => exact absurd HA.out (by simp [papermillref04_Same.l0])
   | succ k1 =>
    have H := HA.out
    clear HA
    simp only [papermillref04_Same.l0] at H
    by_cases c4 : x5_1 < (l0.length : Int)
    ·rw [if_pos c4] at H
     have c4b0 : decide (x5_1 < (l0.length : Int)) = true := decide_eq_true c4
     clear c4
     by_cases c5 : 0 ≤ x5_1
     ·rw [if_pos c5] at H
      have c5b0 : decide (0 ≤ x5_1) = true := decide_eq_true c5
      clear c5
      by_cases c6 : x5_1 < (l1.length : Int)
      ·rw [if_pos c6] at H
       have c6b0 : decide (x5_1 < (l1.length : Int)) = true := decide_eq_true c6
       clear c6
       by_cases c7 : (!(((rd_T55 l0 x5_1).f0) == ((rd_T55 l1 x5_1).f0)) || (!(((rd_T55 l0 x5_1).f1) == ((rd_T55 l1 x5_1).f1)))) = true
       ·rw [if_pos c7] at H
        have c7b0 : (!(((rd_T55 l0 x5_1).f0) == ((rd_T55 l1 x5_1).f0)) || (!(((rd_T55 l0 x5_1).f1) == ((rd_T55 l1 x5_1).f1)))) = true := c7
        clear c7
        obtain rfl := Option.some.inj H
        have p60001 : 0 ≤ (x5_1 : Int) := of_decide_eq_true (by assumption)
        have q60001 : x5_1 < (l0.length : Int) := of_decide_eq_true (by assumption)
        obtain ⟨ad60001, e60001, hx60001_0, hx60001_1⟩ := at_T55 HR0.out x5_1 p60001 q60001
        cases e60001
        replace p60001 := eq_true p60001
        replace q60001 := eq_true q60001
        have p60002 : 0 ≤ (x5_1 : Int) := of_decide_eq_true (by assumption)
        have q60002 : x5_1 < (l1.length : Int) := of_decide_eq_true (by assumption)
        obtain ⟨ad60002, e60002, hx60002_0, hx60002_1⟩ := at_T55 HR1.out x5_1 p60002 q60002
        cases e60002
        replace p60002 := eq_true p60002
        replace q60002 := eq_true q60002
        go_wp2
        repeat (go_quiet (fail); try go_wp2)
        go_ret
        exact ⟨by first | rfl | (simp; done) | (simp [*]; done), by repeat (first | exact Drawn0.refl _ | apply Drawn0.step)⟩
       ·rw [if_neg c7] at H
        have c7b0 : (!(((rd_T55 l0 x5_1).f0) == ((rd_T55 l1 x5_1).f0)) || (!(((rd_T55 l0 x5_1).f1) == ((rd_T55 l1 x5_1).f1)))) = false := by simpa using c7
        clear c7
        have H' := Aside0.mk H
        clear H
        have p60001 : 0 ≤ (x5_1 : Int) := of_decide_eq_true (by assumption)
        have q60001 : x5_1 < (l0.length : Int) := of_decide_eq_true (by assumption)
        obtain ⟨ad60001, e60001, hx60001_0, hx60001_1⟩ := at_T55 HR0.out x5_1 p60001 q60001
        cases e60001
        replace p60001 := eq_true p60001
        replace q60001 := eq_true q60001
        have p60002 : 0 ≤ (x5_1 : Int) := of_decide_eq_true (by assumption)
        have q60002 : x5_1 < (l1.length : Int) := of_decide_eq_true (by assumption)
        obtain ⟨ad60002, e60002, hx60002_0, hx60002_1⟩ := at_T55 HR1.out x5_1 p60002 q60002
        cases e60002
        replace p60002 := eq_true p60002
        replace q60002 := eq_true q60002
        go_wp2
        repeat (go_quiet (fail); try go_wp2)
        go_roundg k1
        case measure => have := HK1.out; omega
        case rel => exact ⟨(wrap64 (x5_1 + 1)), (by first | rfl | (simp; done) | (simp [*]; done)), H', ⟨by have := HK1.out; omega⟩, by repeat (first | exact Drawn0.refl _ | apply Drawn0.step)⟩
      ·rw [if_neg c6] at H
       exact absurd H (by simp)
     ·rw [if_neg c5] at H
      exact absurd H (by simp)
    ·rw [if_neg c4] at H
     have c4b0 : decide (x5_1 < (l0.length : Int)) = false := decide_eq_false c4
     clear c4
     obtain rfl := Option.some.inj H
     go_wp2
     repeat (go_quiet (fail); try go_wp2)
     go_ret
     exact ⟨by first | rfl | (simp; done) | (simp [*]; done), by repeat (first | exact Drawn0.refl _ | apply Drawn0.step)⟩
 ·rw [if_neg c3] at H
  have c3b0 : ((l0.length : Int) == (l1.length : Int)) = false := beq_eq_false_iff_ne.mpr c3
  have c3b1 : ((l0.length : Int) != (l1.length : Int)) = true := bne_iff_ne.mpr c3
  have c3b2 : (l0.length == l1.length) = false := by first | simpa using c3 | (simp at c3 ⊢; omega)
  obtain rfl := Option.some.inj H
  go_enter Try.func59, Try.ntmps59
  go_wp2
  repeat (go_quiet (fail); try go_wp2)
  go_ret
  exact ⟨by first | rfl | (simp; done) | (simp [*]; done), by repeat (first | exact Drawn0.refl _ | apply Drawn0.step)⟩

end Go.Proofs.Ytalpegglbfobiaa.G

namespace Go.Proofs.Ytalpegglbfobiaa.G
open Go.RowKit Go.Proofs.YtalpegglbfobiaaW.PrintWords Go.Proofs.YtalpegglbfobiaaW.PrintLast Go.Proofs.YtalpegglbfobiaaW.PrintMore
set_option linter.unusedVariables false
set_option linter.unusedSimpArgs false
theorem same_l0 (l : List S55) (hl : l.length ≤ 1000000) : ∀ (d i : Nat), l.length - i = d → i ≤ l.length → Ends (fun k => papermillref04_Same.l0 k l l (i : Int)) true := by
 intro d
 induction d with
 | zero =>
  intro i hd hi
  refine Ends.succ ?_
  simp only [papermillref04_Same.l0]
  exact Ends.neg (by omega) (Ends.ret _)
 | succ d ih =>
  intro i hd hi
  refine Ends.succ ?_
  simp only [papermillref04_Same.l0, wrap_nat i (by omega)]
  exact Ends.pos (by omega) (Ends.pos (by omega) (Ends.pos (by omega) (Ends.neg (by simp) (ih (i + 1) (by omega) (by omega)))))
theorem same_ends (l : List S55) (hl : l.length ≤ 1000000) : Ends (fun k => papermillref04_Same.f k l l) true := by
 unfold papermillref04_Same.f
 exact Ends.pos rfl (same_l0 l hl _ 0 rfl (by omega))
end Go.Proofs.Ytalpegglbfobiaa.G

namespace Go.Proofs.Ytalpegglbfobiaa.G
open Go.RowKit Go.Proofs.YtalpegglbfobiaaW.PrintWords Go.Proofs.YtalpegglbfobiaaW.PrintLast Go.Proofs.YtalpegglbfobiaaW.PrintMore
set_option linter.unusedVariables false
set_option linter.unusedSimpArgs false
theorem rnorm_ends (l : List S55) : Ends (fun k => papermillref04_Norm.f k l) (bothOf l [] 0) := by
 unfold papermillref04_Norm.f
 exact Ends.bind (both_ends l [] 0 (.inl rfl)) (Ends.ret _)
end Go.Proofs.Ytalpegglbfobiaa.G

namespace Go.Proofs.Ytalpegglbfobiaa.G
open Go.RowKit Go.Proofs.YtalpegglbfobiaaW.PrintWords Go.Proofs.YtalpegglbfobiaaW.PrintLast Go.Proofs.YtalpegglbfobiaaW.PrintMore
set_option linter.unusedVariables false
set_option linter.unusedSimpArgs false
theorem rtotal_l0 (l : List S55) (e : Int) (hl : l.length ≤ 1000) (hv : ∀ s ∈ l, 0 ≤ s.f0 ∧ s.f0 ≤ s.f1 ∧ s.f1 ≤ 17179869184) : ∀ (d i : Nat) (n : Int), l.length - i = d → i ≤ l.length → 0 ≤ n → n ≤ i * 17179869184 → Ends (fun k => papermillref04_Total.l0 k l e n (i : Int)) (n + tot (l.drop i), e) := by
 intro d
 induction d with
 | zero =>
  intro i n hd hi h0 h1
  refine Ends.succ ?_
  simp only [papermillref04_Total.l0]
  rw [List.drop_of_length_le (by omega)]
  exact Ends.neg (by omega) ((Ends.ret _).congr (by simp [tot]))
 | succ d ih =>
  intro i n hd hi h0 h1
  refine Ends.succ ?_
  have hx := hv (rd_T55 l (i : Int)) (by rw [rd36 l i (by omega)]; exact List.getElem_mem _)
  rw [drop36 l i (by omega), tot_cons]
  simp only [papermillref04_Total.l0, wrap_nat i (by omega)]
  generalize rd_T55 l (i : Int) = s at *
  have e1 : wrap64 (n + s.f1) = n + s.f1 := by unfold wrap64; omega
  have e2 : wrap64 (n + s.f1 - s.f0) = n + (s.f1 - s.f0) := by unfold wrap64; omega
  simp only [e1, e2]
  exact Ends.pos (by omega) (Ends.pos (by omega) ((ih (i + 1) (n + (s.f1 - s.f0)) (by omega) (by omega) (by omega) (by omega)).congr (by rw [Int.add_assoc])))
theorem rtotal_ends (l : List S55) : Ends (fun k => papermillref04_Total.f k l) (totalOf l) := by
 unfold papermillref04_Total.f totalOf
 refine Ends.bind (rnorm_ends l) ?_
 by_cases h0 : check04 l = 0
 ·rw [norm_fits h0, if_pos h0]
  obtain ⟨g0, v0⟩ := good04 h0
  have n0 := joinOf_len l (-1) (fun s hs => by have := v0 s hs; omega)
  have b0 := joinOf_bound l (-1) 17179869184 (fun s hs => by have := v0 s hs; omega)
  exact (rtotal_l0 (joinOf l) 0 (by omega) (fun s hs => by have := b0 s hs; omega) _ 0 0 rfl (by omega) (by omega) (by omega)).congr (by simp)
 ·have e : bothOf l [] 0 = ([], check04 l) := by unfold bothOf; rw [if_neg h0]
  rw [e, if_neg h0]
  exact (rtotal_l0 [] (check04 l) (by simp) (by simp) _ 0 0 rfl (by simp) (by omega) (by omega)).congr (by simp [tot])
end Go.Proofs.Ytalpegglbfobiaa.G
