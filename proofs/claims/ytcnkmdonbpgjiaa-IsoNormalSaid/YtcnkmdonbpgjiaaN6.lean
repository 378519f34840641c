import Derived.Test.YtcnkmdonbpgjiaaQ1
import Derived.Test.YtcnkmdonbpgjiaaQ4
import Derived.Test.YtcnkmdonbpgjiaaQ5
namespace Go.Proofs.Ytcnkmdonbpgjiaa.G
open Go.RowKit Go.Proofs.YtcnkmdonbpgjiaaW.PrintWords Go.Proofs.YtcnkmdonbpgjiaaW.PrintLast Go.Proofs.YtcnkmdonbpgjiaaW.PrintMore
attribute [local go_sem] max2_int min2_int max_two min_two max_three min_three max_four min_four   -- for this text's walks alone
set_option linter.unusedVariables false
set_option linter.unusedSimpArgs false

def papermilllaw13_at.f (l0 : List (S32)) (a1 : Int) : Option (Int) := (iso_At.f l0 a1).bind fun bt24001 => (if bt24001.2 = 0 then (some bt24001.1) else (some (-1)))
set_option maxHeartbeats 8000000 in
set_option maxRecDepth 100000 in
theorem papermilllaw13_at.calls (A0 : Option Addr) (c0 : Nat) (l0 : List (S32)) (a1 : Int) (r : Int) (w : World) (hr0 : Kd.C k32 w A0 l0.length l0) (hc0 : l0.length ≤ c0) (h : papermilllaw13_at.f l0 a1 = some r) :
    Calls Try.prog 23 #[.slice A0 l0.length c0, .int .i64 a1] w fun e w' => e = .returned (.int .i64 r) ∧ Below w.heap.size w w' := by
  have HR0 := Aside0.mk hr0
  have HC0 := Aside0.mk hc0
  clear hr0 hc0
  have HB := Aside0.mk (Below.refl w.heap.size w)
  have H : ((iso_At.f l0 a1).bind fun bt24001 => (if bt24001.2 = 0 then (some bt24001.1) else (some (-1)))) = some r := h
  clear h
  replace H := Option.bind_eq_some_iff.mp H
  obtain ⟨⟨t24001, t24002⟩, A30, H⟩ := H
  replace H : (if t24002 = 0 then (some t24001) else (some (-1))) = some r := H
  have A3 := Aside0.mk A30
  clear A30
  by_cases c4 : t24002 = 0
  · rw [if_pos c4] at H
    have c4b0 : (t24002 == 0) = true := beq_iff_eq.mpr c4
    have c4b1 : (t24002 != 0) = false := bne_eq_false_iff_eq.mpr c4
    clear c4
    obtain rfl := Option.some.inj H
    go_enter Try.func23, Try.ntmps23
    go_wp2_with (first | ((with_reducible refine gate_callee (f := 26) rfl ?_); refine goesL_ (some 10) rfl rfl Try.func26 (by kernel_rfl) rfl #[.slice A0 l0.length c0, .int .i64 a1] rfl (by (try simp only [List.map_toArray, List.map_cons, List.map_nil]); first | done | rfl | (simp only [List.length_drop, List.length_take]; rfl)) ?_; (with_reducible refine (iso_At.calls _ _ l0 a1 t24001 t24002 _ ?side1 ?side2 A3.out).mono ?_); (case side1 => exact HR0.out); (case side2 => exact HC0.out); rintro e w5 ⟨rfl, hb⟩; refine ⟨_, rfl, ?_⟩; have n0_ := Aside0.mk (below_step (by repeat (first | exact HB.out | apply below_alloc | apply pw_below_drewN | apply below_drew1)) hb); clear HB; have HB := n0_; clear n0_; (try clear hb); (try clear hb2); (try clear hk); (try clear hi)))
    go_ret
    exact ⟨by first | rfl | (simp [errW_none, errW_some] <;> rfl) | (simp [*, errW_none, errW_some] <;> rfl), by repeat (first | exact HB.out | apply below_alloc | apply pw_below_drewN | apply below_drew1)⟩
  · rw [if_neg c4] at H
    have c4b0 : (t24002 == 0) = false := beq_eq_false_iff_ne.mpr c4
    have c4b1 : (t24002 != 0) = true := bne_iff_ne.mpr c4
    obtain rfl := Option.some.inj H
    go_enter Try.func23, Try.ntmps23
    go_wp2_with (first | ((with_reducible refine gate_callee (f := 26) rfl ?_); refine goesL_ (some 10) rfl rfl Try.func26 (by kernel_rfl) rfl #[.slice A0 l0.length c0, .int .i64 a1] rfl (by (try simp only [List.map_toArray, List.map_cons, List.map_nil]); first | done | rfl | (simp only [List.length_drop, List.length_take]; rfl)) ?_; (with_reducible refine (iso_At.calls _ _ l0 a1 t24001 t24002 _ ?side1 ?side2 A3.out).mono ?_); (case side1 => exact HR0.out); (case side2 => exact HC0.out); rintro e w6 ⟨rfl, hb⟩; refine ⟨_, rfl, ?_⟩; have n0_ := Aside0.mk (below_step (by repeat (first | exact HB.out | apply below_alloc | apply pw_below_drewN | apply below_drew1)) hb); clear HB; have HB := n0_; clear n0_; (try clear hb); (try clear hb2); (try clear hk); (try clear hi)))
    go_ret
    exact ⟨by first | rfl | (simp [errW_none, errW_some] <;> rfl) | (simp [*, errW_none, errW_some] <;> rfl), by repeat (first | exact HB.out | apply below_alloc | apply pw_below_drewN | apply below_drew1)⟩

end Go.Proofs.Ytcnkmdonbpgjiaa.G

namespace Go.Proofs.Ytcnkmdonbpgjiaa.G
open Go.RowKit Go.Proofs.YtcnkmdonbpgjiaaW.PrintWords Go.Proofs.YtcnkmdonbpgjiaaW.PrintLast Go.Proofs.YtcnkmdonbpgjiaaW.PrintMore
attribute [local go_sem] max2_int min2_int max_two min_two max_three min_three max_four min_four   -- for this text's walks alone
set_option linter.unusedVariables false
set_option linter.unusedSimpArgs false

mutual
def papermilllaw13_IsoNormal.j0 : Nat → List (S32) → Int → List (S32) → Bool → Option (Bool)
 | 0, _, _, _, _ => none
 | k + 1, x0, x1, x5, x73 => if x73 = true then (some false) else (papermilllaw13_IsoNormal.l0 k x0 x1 x5 0)
def papermilllaw13_IsoNormal.l0 : Nat → List (S32) → Int → List (S32) → Int → Option (Bool)
 | 0, _, _, _, _ => none
 | k + 1, x0, x1, x5, x13 => if x13 < (x5.length : Int) then (if 0 ≤ x13 then (if ((rd_T32 x5 x13).f1) = 1 then (if (rd_T32 x5 x13).f2 = true then (some false) else (papermilllaw13_IsoNormal.l0 k x0 x1 x5 (wrap64 (x13 + 1)))) else (papermilllaw13_IsoNormal.l0 k x0 x1 x5 (wrap64 (x13 + 1)))) else (none)) else ((papermilllaw13_at.f x5 x1).bind fun t6024 => ((papermilllaw13_at.f x0 x1).bind fun t6025 => (if t6024 = t6025 then ((papermilllaw13_awake.f).bind fun t6026 => (some t6026)) else (some false))))
end
def papermilllaw13_IsoNormal.f (k : Nat) (l0 : List (S32)) (a1 : Int) : Option (Bool) := (papermilllaw13_great.f l0).bind fun t6001 => (if t6001 = true then ((papermilllaw13_awake.f).bind fun t6002 => (some t6002)) else ((iso_Norm.f l0).bind fun bt6003 => (if bt6003.2 = 0 then ((iso_Norm.f bt6003.1).bind fun bt6008 => ((iso_Reverse.f l0).bind fun bt6012 => ((iso_Reverse.f bt6012.1).bind fun bt6016 => (if bt6008.2 = 0 then (if bt6012.2 = 0 then (if bt6016.2 = 0 then ((papermillref13_Same.f k bt6008.1 bt6003.1).bind fun t6020 => (if t6020 = true then ((papermillref13_Same.f k bt6016.1 bt6003.1).bind fun t6021 => (if t6021 = true then (papermilllaw13_IsoNormal.j0 k l0 a1 bt6003.1 (decide ((bt6003.1.length : Int) > (l0.length : Int)))) else (papermilllaw13_IsoNormal.j0 k l0 a1 bt6003.1 true))) else (papermilllaw13_IsoNormal.j0 k l0 a1 bt6003.1 true))) else (papermilllaw13_IsoNormal.j0 k l0 a1 bt6003.1 true)) else (papermilllaw13_IsoNormal.j0 k l0 a1 bt6003.1 true)) else (papermilllaw13_IsoNormal.j0 k l0 a1 bt6003.1 true))))) else (if (bt6003.1.length : Int) = 0 then ((papermilllaw13_awake.f).bind fun t6007 => (some t6007)) else (some false)))))
theorem papermilllaw13_IsoNormal.mono_l : ∀ k, (∀ y0 y1 y2 y3, LeO (papermilllaw13_IsoNormal.j0 k y0 y1 y2 y3) (papermilllaw13_IsoNormal.j0 (k + 1) y0 y1 y2 y3)) ∧ (∀ y0 y1 y2 y3, LeO (papermilllaw13_IsoNormal.l0 k y0 y1 y2 y3) (papermilllaw13_IsoNormal.l0 (k + 1) y0 y1 y2 y3))
 | 0 => ⟨fun _ _ _ _ r h => by simp [papermilllaw13_IsoNormal.j0] at h, fun _ _ _ _ r h => by simp [papermilllaw13_IsoNormal.l0] at h⟩
 | k + 1 => by
  obtain ⟨ih0, ih1⟩ := papermilllaw13_IsoNormal.mono_l k
  refine ⟨?_, ?_⟩
  ·intro y0 y1 y2 y3
   unfold papermilllaw13_IsoNormal.j0
   repeat' first
   | (with_reducible exact ih0 _ _ _ _)
   | (with_reducible exact ih1 _ _ _ _)
   | (with_reducible exact papermillref13_Same.mono _ _ _)
   | (with_reducible exact LeO.refl _)
   | (with_reducible exact LeO.none _)
   | (with_reducible refine LeO.ite ?_ ?_)
   | (with_reducible refine LeO.bind ?_ (fun _ => ?_))
   | exact ih0 _ _ _ _
   | exact ih1 _ _ _ _
   | exact papermillref13_Same.mono _ _ _
   | exact LeO.none _
   | refine LeO.ite ?_ ?_
   | refine LeO.bind ?_ (fun _ => ?_)
  ·intro y0 y1 y2 y3
   unfold papermilllaw13_IsoNormal.l0
   repeat' first
   | (with_reducible exact ih0 _ _ _ _)
   | (with_reducible exact ih1 _ _ _ _)
   | (with_reducible exact papermillref13_Same.mono _ _ _)
   | (with_reducible exact LeO.refl _)
   | (with_reducible exact LeO.none _)
   | (with_reducible refine LeO.ite ?_ ?_)
   | (with_reducible refine LeO.bind ?_ (fun _ => ?_))
   | exact ih0 _ _ _ _
   | exact ih1 _ _ _ _
   | exact papermillref13_Same.mono _ _ _
   | exact LeO.none _
   | refine LeO.ite ?_ ?_
   | refine LeO.bind ?_ (fun _ => ?_)
theorem papermilllaw13_IsoNormal.mono : ∀ a0 a1 k, LeO (papermilllaw13_IsoNormal.f k a0 a1) (papermilllaw13_IsoNormal.f (k + 1) a0 a1) := by
 intro a0 a1 k
 obtain ⟨ih0, ih1⟩ := papermilllaw13_IsoNormal.mono_l k
 unfold papermilllaw13_IsoNormal.f
 repeat' first
   | (with_reducible exact ih0 _ _ _ _)
   | (with_reducible exact ih1 _ _ _ _)
   | (with_reducible exact papermillref13_Same.mono _ _ _)
   | (with_reducible exact LeO.refl _)
   | (with_reducible exact LeO.none _)
   | (with_reducible refine LeO.ite ?_ ?_)
   | (with_reducible refine LeO.bind ?_ (fun _ => ?_))
   | exact ih0 _ _ _ _
   | exact ih1 _ _ _ _
   | exact papermillref13_Same.mono _ _ _
   | exact LeO.none _
   | refine LeO.ite ?_ ?_
   | refine LeO.bind ?_ (fun _ => ?_)
set_option maxHeartbeats 8000000 in
set_option maxRecDepth 100000 in
theorem papermilllaw13_IsoNormal.calls (k : Nat) (A0 : Option Addr) (c0 : Nat) (l0 : List (S32)) (a1 : Int) (r : Bool) (w : World) (hr0 : Kd.C k32 w A0 l0.length l0) (hc0 : l0.length ≤ c0) (h : papermilllaw13_IsoNormal.f k l0 a1 = some r) :
  Calls Try.prog 5 #[.slice A0 l0.length c0, .int .i64 a1] w fun e w' => e = .returned (.bool r) ∧ Below w.heap.size w w' := by
 have HR0 := Aside0.mk hr0
 have HC0 := Aside0.mk hc0
 clear hr0 hc0
 have HB := Aside0.mk (Below.refl w.heap.size w)
 have H : ((papermilllaw13_great.f l0).bind fun t6001 => (if t6001 = true then ((papermilllaw13_awake.f).bind fun t6002 => (some t6002)) else ((iso_Norm.f l0).bind fun bt6003 => (if bt6003.2 = 0 then ((iso_Norm.f bt6003.1).bind fun bt6008 => ((iso_Reverse.f l0).bind fun bt6012 => ((iso_Reverse.f bt6012.1).bind fun bt6016 => (if bt6008.2 = 0 then (if bt6012.2 = 0 then (if bt6016.2 = 0 then ((papermillref13_Same.f k bt6008.1 bt6003.1).bind fun t6020 => (if t6020 = true then ((papermillref13_Same.f k bt6016.1 bt6003.1).bind fun t6021 => (if t6021 = true then (papermilllaw13_IsoNormal.j0 k l0 a1 bt6003.1 (decide ((bt6003.1.length : Int) > (l0.length : Int)))) else (papermilllaw13_IsoNormal.j0 k l0 a1 bt6003.1 true))) else (papermilllaw13_IsoNormal.j0 k l0 a1 bt6003.1 true))) else (papermilllaw13_IsoNormal.j0 k l0 a1 bt6003.1 true)) else (papermilllaw13_IsoNormal.j0 k l0 a1 bt6003.1 true)) else (papermilllaw13_IsoNormal.j0 k l0 a1 bt6003.1 true))))) else (if (bt6003.1.length : Int) = 0 then ((papermilllaw13_awake.f).bind fun t6007 => (some t6007)) else (some false)))))) = some r := h
 clear h
 replace H := Option.bind_eq_some_iff.mp H
 obtain ⟨t6001, A30, H⟩ := H
 replace H : (if t6001 = true then ((papermilllaw13_awake.f).bind fun t6002 => (some t6002)) else ((iso_Norm.f l0).bind fun bt6003 => (if bt6003.2 = 0 then ((iso_Norm.f bt6003.1).bind fun bt6008 => ((iso_Reverse.f l0).bind fun bt6012 => ((iso_Reverse.f bt6012.1).bind fun bt6016 => (if bt6008.2 = 0 then (if bt6012.2 = 0 then (if bt6016.2 = 0 then ((papermillref13_Same.f k bt6008.1 bt6003.1).bind fun t6020 => (if t6020 = true then ((papermillref13_Same.f k bt6016.1 bt6003.1).bind fun t6021 => (if t6021 = true then (papermilllaw13_IsoNormal.j0 k l0 a1 bt6003.1 (decide ((bt6003.1.length : Int) > (l0.length : Int)))) else (papermilllaw13_IsoNormal.j0 k l0 a1 bt6003.1 true))) else (papermilllaw13_IsoNormal.j0 k l0 a1 bt6003.1 true))) else (papermilllaw13_IsoNormal.j0 k l0 a1 bt6003.1 true)) else (papermilllaw13_IsoNormal.j0 k l0 a1 bt6003.1 true)) else (papermilllaw13_IsoNormal.j0 k l0 a1 bt6003.1 true))))) else (if (bt6003.1.length : Int) = 0 then ((papermilllaw13_awake.f).bind fun t6007 => (some t6007)) else (some false))))) = some r := H
 have A3 := Aside0.mk A30
 clear A30
 by_cases c4 : t6001 = true
 ·subst c4
  have H1 : ((papermilllaw13_awake.f).bind fun t6002 => (some t6002)) = some r := by rw [if_pos rfl] at H; exact H
  clear H
  have H := H1
  clear H1
  replace H := Option.bind_eq_some_iff.mp H
  obtain ⟨t6002, A50, H⟩ := H
  replace H : (some t6002) = some r := H
  have A5 := Aside0.mk A50
  clear A50
  obtain rfl := Option.some.inj H
  go_enter Try.func5, Try.ntmps5
  go_wp2_with (first | ((with_reducible refine gate_callee (f := 12) rfl ?_); refine goesL_ (some 15) rfl rfl Try.func12 (by kernel_rfl) rfl #[.slice A0 l0.length c0] rfl (by (try simp only [List.map_toArray, List.map_cons, List.map_nil]); first | done | rfl | (simp only [List.length_drop, List.length_take]; rfl)) ?_; (with_reducible refine (papermilllaw13_great.calls _ _ l0 true _ ?side1 ?side2 A3.out).mono ?_); (case side1 => repeat (first | exact HR0.out | (with_reducible refine Kd.C_alloc ?_ _) | (with_reducible refine Kd.C_drewN ?_ _) | (with_reducible refine Kd.C_drew ?_))); (case side2 => exact HC0.out); rintro e w' ⟨rfl, ⟨nd, rfl⟩⟩; refine ⟨_, rfl, ?_⟩) | ((with_reducible refine gate_callee (f := 13) rfl ?_); refine goesL_ (some 16) rfl rfl Try.func13 (by kernel_rfl) rfl #[] rfl (by (try simp only [List.map_toArray, List.map_cons, List.map_nil]); first | done | rfl | (simp only [List.length_drop, List.length_take]; rfl)) ?_; (with_reducible refine (papermilllaw13_awake.calls  t6002 _ A5.out).mono ?_); rintro e w6 ⟨rfl, hb⟩; refine ⟨_, rfl, ?_⟩; have n0_ := Aside0.mk (below_step (by repeat (first | (with_reducible first | exact HB.out | apply below_alloc | apply pw_below_drewN | apply below_drew1) | exact HB.out)) hb); clear HB; have HB := n0_; clear n0_; (try clear hb); (try clear hb2); (try clear hk); (try clear hi)))
  go_ret
  exact ⟨by first | rfl | (simp [errW_none, errW_some] <;> rfl) | (simp [*, errW_none, errW_some] <;> rfl), by repeat (first | (with_reducible first | exact HB.out | apply below_alloc | apply pw_below_drewN | apply below_drew1) | exact HB.out)⟩
 ·replace c4 := Bool.eq_false_iff.mpr c4
  subst c4
  have H1 : ((iso_Norm.f l0).bind fun bt6003 => (if bt6003.2 = 0 then ((iso_Norm.f bt6003.1).bind fun bt6008 => ((iso_Reverse.f l0).bind fun bt6012 => ((iso_Reverse.f bt6012.1).bind fun bt6016 => (if bt6008.2 = 0 then (if bt6012.2 = 0 then (if bt6016.2 = 0 then ((papermillref13_Same.f k bt6008.1 bt6003.1).bind fun t6020 => (if t6020 = true then ((papermillref13_Same.f k bt6016.1 bt6003.1).bind fun t6021 => (if t6021 = true then (papermilllaw13_IsoNormal.j0 k l0 a1 bt6003.1 (decide ((bt6003.1.length : Int) > (l0.length : Int)))) else (papermilllaw13_IsoNormal.j0 k l0 a1 bt6003.1 true))) else (papermilllaw13_IsoNormal.j0 k l0 a1 bt6003.1 true))) else (papermilllaw13_IsoNormal.j0 k l0 a1 bt6003.1 true)) else (papermilllaw13_IsoNormal.j0 k l0 a1 bt6003.1 true)) else (papermilllaw13_IsoNormal.j0 k l0 a1 bt6003.1 true))))) else (if (bt6003.1.length : Int) = 0 then ((papermilllaw13_awake.f).bind fun t6007 => (some t6007)) else (some false)))) = some r := by rw [if_neg (show ¬ (false = true) by decide)] at H; first | exact H | simpa using H
  clear H
  have H := H1
  clear H1
  replace H := Option.bind_eq_some_iff.mp H
  obtain ⟨⟨t6003, t6004⟩, A70, H⟩ := H
  replace H : (if t6004 = 0 then ((iso_Norm.f t6003).bind fun bt6008 => ((iso_Reverse.f l0).bind fun bt6012 => ((iso_Reverse.f bt6012.1).bind fun bt6016 => (if bt6008.2 = 0 then (if bt6012.2 = 0 then (if bt6016.2 = 0 then ((papermillref13_Same.f k bt6008.1 t6003).bind fun t6020 => (if t6020 = true then ((papermillref13_Same.f k bt6016.1 t6003).bind fun t6021 => (if t6021 = true then (papermilllaw13_IsoNormal.j0 k l0 a1 t6003 (decide ((t6003.length : Int) > (l0.length : Int)))) else (papermilllaw13_IsoNormal.j0 k l0 a1 t6003 true))) else (papermilllaw13_IsoNormal.j0 k l0 a1 t6003 true))) else (papermilllaw13_IsoNormal.j0 k l0 a1 t6003 true)) else (papermilllaw13_IsoNormal.j0 k l0 a1 t6003 true)) else (papermilllaw13_IsoNormal.j0 k l0 a1 t6003 true))))) else (if (t6003.length : Int) = 0 then ((papermilllaw13_awake.f).bind fun t6007 => (some t6007)) else (some false))) = some r := H
  have A7 := Aside0.mk A70
  clear A70
  by_cases c8 : t6004 = 0
  ·rw [if_pos c8] at H
   have c8b0 : (t6004 == 0) = true := beq_iff_eq.mpr c8
   have c8b1 : (t6004 != 0) = false := bne_eq_false_iff_eq.mpr c8
   clear c8
   replace H := Option.bind_eq_some_iff.mp H
   obtain ⟨⟨t6008, t6009⟩, A90, H⟩ := H
   replace H : ((iso_Reverse.f l0).bind fun bt6012 => ((iso_Reverse.f bt6012.1).bind fun bt6016 => (if t6009 = 0 then (if bt6012.2 = 0 then (if bt6016.2 = 0 then ((papermillref13_Same.f k t6008 t6003).bind fun t6020 => (if t6020 = true then ((papermillref13_Same.f k bt6016.1 t6003).bind fun t6021 => (if t6021 = true then (papermilllaw13_IsoNormal.j0 k l0 a1 t6003 (decide ((t6003.length : Int) > (l0.length : Int)))) else (papermilllaw13_IsoNormal.j0 k l0 a1 t6003 true))) else (papermilllaw13_IsoNormal.j0 k l0 a1 t6003 true))) else (papermilllaw13_IsoNormal.j0 k l0 a1 t6003 true)) else (papermilllaw13_IsoNormal.j0 k l0 a1 t6003 true)) else (papermilllaw13_IsoNormal.j0 k l0 a1 t6003 true)))) = some r := H
   have A9 := Aside0.mk A90
   clear A90
   replace H := Option.bind_eq_some_iff.mp H
   obtain ⟨⟨t6012, t6013⟩, A100, H⟩ := H
   replace H : ((iso_Reverse.f t6012).bind fun bt6016 => (if t6009 = 0 then (if t6013 = 0 then (if bt6016.2 = 0 then ((papermillref13_Same.f k t6008 t6003).bind fun t6020 => (if t6020 = true then ((papermillref13_Same.f k bt6016.1 t6003).bind fun t6021 => (if t6021 = true then (papermilllaw13_IsoNormal.j0 k l0 a1 t6003 (decide ((t6003.length : Int) > (l0.length : Int)))) else (papermilllaw13_IsoNormal.j0 k l0 a1 t6003 true))) else (papermilllaw13_IsoNormal.j0 k l0 a1 t6003 true))) else (papermilllaw13_IsoNormal.j0 k l0 a1 t6003 true)) else (papermilllaw13_IsoNormal.j0 k l0 a1 t6003 true)) else (papermilllaw13_IsoNormal.j0 k l0 a1 t6003 true))) = some r := H
   have A10 := Aside0.mk A100
   clear A100
   replace H := Option.bind_eq_some_iff.mp H
   obtain ⟨⟨t6016, t6017⟩, A110, H⟩ := H
   replace H : (if t6009 = 0 then (if t6013 = 0 then (if t6017 = 0 then ((papermillref13_Same.f k t6008 t6003).bind fun t6020 => (if t6020 = true then ((papermillref13_Same.f k t6016 t6003).bind fun t6021 => (if t6021 = true then (papermilllaw13_IsoNormal.j0 k l0 a1 t6003 (decide ((t6003.length : Int) > (l0.length : Int)))) else (papermilllaw13_IsoNormal.j0 k l0 a1 t6003 true))) else (papermilllaw13_IsoNormal.j0 k l0 a1 t6003 true))) else (papermilllaw13_IsoNormal.j0 k l0 a1 t6003 true)) else (papermilllaw13_IsoNormal.j0 k l0 a1 t6003 true)) else (papermilllaw13_IsoNormal.j0 k l0 a1 t6003 true)) = some r := H
   have A11 := Aside0.mk A110
   clear A110
   have HC12 := Aside0.mk H
   clear H
   go_enter Try.func5, Try.ntmps5
   go_upto_region 9 with (first | ((with_reducible refine gate_callee (f := 12) rfl ?_); refine goesL_ (some 15) rfl rfl Try.func12 (by kernel_rfl) rfl #[.slice A0 l0.length c0] rfl (by (try simp only [List.map_toArray, List.map_cons, List.map_nil]); first | done | rfl | (simp only [List.length_drop, List.length_take]; rfl)) ?_; (with_reducible refine (papermilllaw13_great.calls _ _ l0 false _ ?side1 ?side2 A3.out).mono ?_); (case side1 => repeat (first | exact HR0.out | (with_reducible refine Kd.C_alloc ?_ _) | (with_reducible refine Kd.C_drewN ?_ _) | (with_reducible refine Kd.C_drew ?_))); (case side2 => exact HC0.out); rintro e w' ⟨rfl, ⟨nd, rfl⟩⟩; refine ⟨_, rfl, ?_⟩) | ((with_reducible refine gate_callee (f := 21) rfl ?_); refine goesL_ (some 19) rfl rfl Try.func21 (by kernel_rfl) rfl #[.slice A0 l0.length c0] rfl (by (try simp only [List.map_toArray, List.map_cons, List.map_nil]); first | done | rfl | (simp only [List.length_drop, List.length_take]; rfl)) ?_; (with_reducible refine (iso_Norm.calls _ _ l0 t6003 t6004 _ ?side1 ?side2 A7.out).mono ?_); (case side1 => repeat (first | exact HR0.out | (with_reducible refine Kd.C_alloc ?_ _) | (with_reducible refine Kd.C_drewN ?_ _) | (with_reducible refine Kd.C_drew ?_))); (case side2 => exact HC0.out); rintro e w13 ⟨v6005, rfl, ho0, hb⟩; refine ⟨_, rfl, ?_⟩; have n0_ := Aside0.mk (Kd.R_lower ho0 (below_size (by repeat (first | (with_reducible first | exact HB.out | apply below_alloc | apply pw_below_drewN | apply below_drew1) | exact HB.out)))); have n1_ := Aside0.mk (below_step (by repeat (first | (with_reducible first | exact HB.out | apply below_alloc | apply pw_below_drewN | apply below_drew1) | exact HB.out)) hb); clear HB; have HO6006 := n0_; have HB := n1_; clear n0_ n1_; (try clear hb); (try clear hb2); (try clear hk); (try clear hi); (try clear ho0); obtain ⟨Ao14, co14, eo14⟩ := Kd.R_slice HO6006.out; subst eo14) | ((with_reducible refine gate_callee (f := 21) rfl ?_); refine goesL_ (some 32) rfl rfl Try.func21 (by kernel_rfl) rfl #[.slice Ao14 t6003.length co14] rfl (by (try simp only [List.map_toArray, List.map_cons, List.map_nil]); first | done | rfl | (simp only [List.length_drop, List.length_take]; rfl)) ?_; (with_reducible refine (iso_Norm.calls _ _ t6003 t6008 t6009 _ ?side1 ?side2 A9.out).mono ?_); (case side1 => repeat (first | exact (Kd.R_reads' HO6006.out).2.2 | (with_reducible refine Kd.C_alloc ?_ _) | (with_reducible refine Kd.C_drewN ?_ _) | (with_reducible refine Kd.C_drew ?_))); (case side2 => exact (Kd.R_reads' HO6006.out).2.1); rintro e w15 ⟨v6010, rfl, ho0, hb⟩; refine ⟨_, rfl, ?_⟩; have n0_ := Aside0.mk (Kd.R_elder' (by (with_reducible repeat (first | apply Kd.R_alloc | apply Kd.R_drewN | apply Kd.R_drew)); exact HO6006.out) (Kd.R_base ho0) hb); have n1_ := Aside0.mk (Kd.R_lower (Kd.R_new' ho0 (Kd.R_lt (by (with_reducible repeat (first | apply Kd.R_alloc | apply Kd.R_drewN | apply Kd.R_drew)); exact HO6006.out))) (below_size (by repeat (first | (with_reducible first | exact HB.out | apply below_alloc | apply pw_below_drewN | apply below_drew1) | exact HB.out)))); have n2_ := Aside0.mk (below_step (by repeat (first | (with_reducible first | exact HB.out | apply below_alloc | apply pw_below_drewN | apply below_drew1) | exact HB.out)) hb); clear HO6006; clear HB; have HO6006 := n0_; have HO6011 := n1_; have HB := n2_; clear n0_ n1_ n2_; (try clear hb); (try clear hb2); (try clear hk); (try clear hi); (try clear ho0)) | ((with_reducible refine gate_callee (f := 22) rfl ?_); refine goesL_ (some 37) rfl rfl Try.func22 (by kernel_rfl) rfl #[.slice A0 l0.length c0] rfl (by (try simp only [List.map_toArray, List.map_cons, List.map_nil]); first | done | rfl | (simp only [List.length_drop, List.length_take]; rfl)) ?_; (with_reducible refine (iso_Reverse.calls _ _ l0 t6012 t6013 _ ?side1 ?side2 A10.out).mono ?_); (case side1 => repeat (first | exact (Kd.C_below HR0.out HB.out) | (with_reducible refine Kd.C_alloc ?_ _) | (with_reducible refine Kd.C_drewN ?_ _) | (with_reducible refine Kd.C_drew ?_))); (case side2 => exact HC0.out); rintro e w16 ⟨v6014, rfl, ho0, hb⟩; refine ⟨_, rfl, ?_⟩; have n0_ := Aside0.mk (Kd.R_elder' (by (with_reducible repeat (first | apply Kd.R_alloc | apply Kd.R_drewN | apply Kd.R_drew)); exact HO6006.out) (Kd.R_base ho0) hb); have n1_ := Aside0.mk (Kd.R_elder' (by (with_reducible repeat (first | apply Kd.R_alloc | apply Kd.R_drewN | apply Kd.R_drew)); exact HO6011.out) (Kd.R_base ho0) hb); have n2_ := Aside0.mk (Kd.R_lower (Kd.R_new' (Kd.R_new' ho0 (Kd.R_lt (by (with_reducible repeat (first | apply Kd.R_alloc | apply Kd.R_drewN | apply Kd.R_drew)); exact HO6006.out))) (Kd.R_lt (by (with_reducible repeat (first | apply Kd.R_alloc | apply Kd.R_drewN | apply Kd.R_drew)); exact HO6011.out))) (below_size (by repeat (first | (with_reducible first | exact HB.out | apply below_alloc | apply pw_below_drewN | apply below_drew1) | exact HB.out)))); have n3_ := Aside0.mk (below_step (by repeat (first | (with_reducible first | exact HB.out | apply below_alloc | apply pw_below_drewN | apply below_drew1) | exact HB.out)) hb); clear HO6006; clear HO6011; clear HB; have HO6006 := n0_; have HO6011 := n1_; have HO6015 := n2_; have HB := n3_; clear n0_ n1_ n2_ n3_; (try clear hb); (try clear hb2); (try clear hk); (try clear hi); (try clear ho0); obtain ⟨Ao17, co17, eo17⟩ := Kd.R_slice HO6015.out; subst eo17) | ((with_reducible refine gate_callee (f := 22) rfl ?_); refine goesL_ (some 42) rfl rfl Try.func22 (by kernel_rfl) rfl #[.slice Ao17 t6012.length co17] rfl (by (try simp only [List.map_toArray, List.map_cons, List.map_nil]); first | done | rfl | (simp only [List.length_drop, List.length_take]; rfl)) ?_; (with_reducible refine (iso_Reverse.calls _ _ t6012 t6016 t6017 _ ?side1 ?side2 A11.out).mono ?_); (case side1 => repeat (first | exact (Kd.R_reads' HO6015.out).2.2 | (with_reducible refine Kd.C_alloc ?_ _) | (with_reducible refine Kd.C_drewN ?_ _) | (with_reducible refine Kd.C_drew ?_))); (case side2 => exact (Kd.R_reads' HO6015.out).2.1); rintro e w18 ⟨v6018, rfl, ho0, hb⟩; refine ⟨_, rfl, ?_⟩; have n0_ := Aside0.mk (Kd.R_elder' (by (with_reducible repeat (first | apply Kd.R_alloc | apply Kd.R_drewN | apply Kd.R_drew)); exact HO6006.out) (Kd.R_base ho0) hb); have n1_ := Aside0.mk (Kd.R_elder' (by (with_reducible repeat (first | apply Kd.R_alloc | apply Kd.R_drewN | apply Kd.R_drew)); exact HO6011.out) (Kd.R_base ho0) hb); have n2_ := Aside0.mk (Kd.R_elder' (by (with_reducible repeat (first | apply Kd.R_alloc | apply Kd.R_drewN | apply Kd.R_drew)); exact HO6015.out) (Kd.R_base ho0) hb); have n3_ := Aside0.mk (Kd.R_lower (Kd.R_new' (Kd.R_new' (Kd.R_new' ho0 (Kd.R_lt (by (with_reducible repeat (first | apply Kd.R_alloc | apply Kd.R_drewN | apply Kd.R_drew)); exact HO6006.out))) (Kd.R_lt (by (with_reducible repeat (first | apply Kd.R_alloc | apply Kd.R_drewN | apply Kd.R_drew)); exact HO6011.out))) (Kd.R_lt (by (with_reducible repeat (first | apply Kd.R_alloc | apply Kd.R_drewN | apply Kd.R_drew)); exact HO6015.out))) (below_size (by repeat (first | (with_reducible first | exact HB.out | apply below_alloc | apply pw_below_drewN | apply below_drew1) | exact HB.out)))); have n4_ := Aside0.mk (below_step (by repeat (first | (with_reducible first | exact HB.out | apply below_alloc | apply pw_below_drewN | apply below_drew1) | exact HB.out)) hb); clear HO6006; clear HO6011; clear HO6015; clear HB; have HO6006 := n0_; have HO6011 := n1_; have HO6015 := n2_; have HO6019 := n3_; have HB := n4_; clear n0_ n1_ n2_ n3_ n4_; (try clear hb); (try clear hb2); (try clear hk); (try clear hi); (try clear ho0)))
   (try simp only [Act.put, List.setIfInBounds_toArray, List.set_cons_zero, List.set_cons_succ])
   go_cut [73] (fun v73 wc => ∃ (kq : Nat) (x73_11 : Bool), v73 = .bool x73_11 ∧ Aside0 (papermilllaw13_IsoNormal.j0 kq l0 a1 t6003 x73_11 = some r) ∧ Aside0 (kq ≤ k) ∧ Aside0 (Kd.R k32 32 wc w.heap.size (fun _ => True) (.slice Ao14 t6003.length co14) t6003) ∧ Aside0 (Below w.heap.size w wc))
   case first =>
    have H := HC12.out
    clear HC12
    by_cases c19 : t6009 = 0
    ·rw [if_pos c19] at H
     have c19b0 : (t6009 == 0) = true := beq_iff_eq.mpr c19
     have c19b1 : (t6009 != 0) = false := bne_eq_false_iff_eq.mpr c19
     clear c19
     (first | rw [c19b0] | (simp only [i64_w, i32_w]; rw [c19b0]) | skip)
     by_cases c20 : t6013 = 0
     ·rw [if_pos c20] at H
      have c20b0 : (t6013 == 0) = true := beq_iff_eq.mpr c20
      have c20b1 : (t6013 != 0) = false := bne_eq_false_iff_eq.mpr c20
      clear c20
      by_cases c21 : t6017 = 0
      ·rw [if_pos c21] at H
       have c21b0 : (t6017 == 0) = true := beq_iff_eq.mpr c21
       have c21b1 : (t6017 != 0) = false := bne_eq_false_iff_eq.mpr c21
       clear c21
       replace H := Option.bind_eq_some_iff.mp H
       obtain ⟨t6020, A220, H⟩ := H
       replace H : (if t6020 = true then ((papermillref13_Same.f k t6016 t6003).bind fun t6021 => (if t6021 = true then (papermilllaw13_IsoNormal.j0 k l0 a1 t6003 (decide ((t6003.length : Int) > (l0.length : Int)))) else (papermilllaw13_IsoNormal.j0 k l0 a1 t6003 true))) else (papermilllaw13_IsoNormal.j0 k l0 a1 t6003 true)) = some r := H
       have A22 := Aside0.mk A220
       clear A220
       by_cases c23 : t6020 = true
       ·subst c23
        have H1 : ((papermillref13_Same.f k t6016 t6003).bind fun t6021 => (if t6021 = true then (papermilllaw13_IsoNormal.j0 k l0 a1 t6003 (decide ((t6003.length : Int) > (l0.length : Int)))) else (papermilllaw13_IsoNormal.j0 k l0 a1 t6003 true))) = some r := by rw [if_pos rfl] at H; exact H
        clear H
        have H := H1
        clear H1
        replace H := Option.bind_eq_some_iff.mp H
        obtain ⟨t6021, A240, H⟩ := H
        replace H : (if t6021 = true then (papermilllaw13_IsoNormal.j0 k l0 a1 t6003 (decide ((t6003.length : Int) > (l0.length : Int)))) else (papermilllaw13_IsoNormal.j0 k l0 a1 t6003 true)) = some r := H
        have A24 := Aside0.mk A240
        clear A240
        by_cases c25 : t6021 = true
        ·subst c25
         have H1 : (papermilllaw13_IsoNormal.j0 k l0 a1 t6003 (decide ((t6003.length : Int) > (l0.length : Int)))) = some r := by rw [if_pos rfl] at H; exact H
         clear H
         have H := H1
         clear H1
         have H' := Aside0.mk H
         clear H
         obtain ⟨Ao26, co26, eo26⟩ := Kd.R_slice HO6011.out
         subst eo26
         go_wp2_with (first | (go_at_call 20; (with_reducible refine (papermillref13_Same.calls k _ _ t6008 _ _ t6003 true _ ?side1 ?side2 ?side3 ?side4 A22.out).mono ?_); (case side1 => repeat (first | exact (Kd.R_reads' HO6011.out).2.2 | (with_reducible refine Kd.C_alloc ?_ _) | (with_reducible refine Kd.C_drewN ?_ _) | (with_reducible refine Kd.C_drew ?_))); (case side2 => exact (Kd.R_reads' HO6011.out).2.1); (case side3 => repeat (first | exact (Kd.R_reads' HO6006.out).2.2 | (with_reducible refine Kd.C_alloc ?_ _) | (with_reducible refine Kd.C_drewN ?_ _) | (with_reducible refine Kd.C_drew ?_))); (case side4 => exact (Kd.R_reads' HO6006.out).2.1); rintro e w' ⟨rfl, ⟨nd, rfl⟩⟩; obtain ⟨Ao27, co27, eo27⟩ := Kd.R_slice HO6019.out; subst eo27) | (go_at_call 20; (with_reducible refine (papermillref13_Same.calls k _ _ t6016 _ _ t6003 true _ ?side1 ?side2 ?side3 ?side4 A24.out).mono ?_); (case side1 => repeat (first | exact (Kd.R_reads' HO6019.out).2.2 | (with_reducible refine Kd.C_alloc ?_ _) | (with_reducible refine Kd.C_drewN ?_ _) | (with_reducible refine Kd.C_drew ?_))); (case side2 => exact (Kd.R_reads' HO6019.out).2.1); (case side3 => repeat (first | exact (Kd.R_reads' HO6006.out).2.2 | (with_reducible refine Kd.C_alloc ?_ _) | (with_reducible refine Kd.C_drewN ?_ _) | (with_reducible refine Kd.C_drew ?_))); (case side4 => exact (Kd.R_reads' HO6006.out).2.1); rintro e w' ⟨rfl, ⟨nd, rfl⟩⟩))
         go_meet
         case rel => exact ⟨_, (decide ((t6003.length : Int) > (l0.length : Int))), (by first | rfl | (simp; done) | (simp [*]; done)), H', ⟨by first | omega | exact Nat.le_refl _⟩, ⟨by (with_reducible repeat (first | apply Kd.R_alloc | apply Kd.R_drewN | apply Kd.R_drew)); exact Kd.R_mono HO6006.out (fun _ hk => trivial)⟩, ⟨by repeat (first | (with_reducible first | exact HB.out | apply below_alloc | apply pw_below_drewN | apply below_drew1) | exact HB.out)⟩⟩
        ·replace c25 := Bool.eq_false_iff.mpr c25
         subst c25
         have H1 : (papermilllaw13_IsoNormal.j0 k l0 a1 t6003 true) = some r := by rw [if_neg (show ¬ (false = true) by decide)] at H; first | exact H | simpa using H
         clear H
         have H := H1
         clear H1
         have H' := Aside0.mk H
         clear H
         obtain ⟨Ao28, co28, eo28⟩ := Kd.R_slice HO6011.out
         subst eo28
         go_wp2_with (first | (go_at_call 20; (with_reducible refine (papermillref13_Same.calls k _ _ t6008 _ _ t6003 true _ ?side1 ?side2 ?side3 ?side4 A22.out).mono ?_); (case side1 => repeat (first | exact (Kd.R_reads' HO6011.out).2.2 | (with_reducible refine Kd.C_alloc ?_ _) | (with_reducible refine Kd.C_drewN ?_ _) | (with_reducible refine Kd.C_drew ?_))); (case side2 => exact (Kd.R_reads' HO6011.out).2.1); (case side3 => repeat (first | exact (Kd.R_reads' HO6006.out).2.2 | (with_reducible refine Kd.C_alloc ?_ _) | (with_reducible refine Kd.C_drewN ?_ _) | (with_reducible refine Kd.C_drew ?_))); (case side4 => exact (Kd.R_reads' HO6006.out).2.1); rintro e w' ⟨rfl, ⟨nd, rfl⟩⟩; obtain ⟨Ao29, co29, eo29⟩ := Kd.R_slice HO6019.out; subst eo29) | (go_at_call 20; (with_reducible refine (papermillref13_Same.calls k _ _ t6016 _ _ t6003 false _ ?side1 ?side2 ?side3 ?side4 A24.out).mono ?_); (case side1 => repeat (first | exact (Kd.R_reads' HO6019.out).2.2 | (with_reducible refine Kd.C_alloc ?_ _) | (with_reducible refine Kd.C_drewN ?_ _) | (with_reducible refine Kd.C_drew ?_))); (case side2 => exact (Kd.R_reads' HO6019.out).2.1); (case side3 => repeat (first | exact (Kd.R_reads' HO6006.out).2.2 | (with_reducible refine Kd.C_alloc ?_ _) | (with_reducible refine Kd.C_drewN ?_ _) | (with_reducible refine Kd.C_drew ?_))); (case side4 => exact (Kd.R_reads' HO6006.out).2.1); rintro e w' ⟨rfl, ⟨nd, rfl⟩⟩))
         go_meet
         case rel => exact ⟨_, (true), (by first | rfl | (simp; done) | (simp [*]; done)), H', ⟨by first | omega | exact Nat.le_refl _⟩, ⟨by (with_reducible repeat (first | apply Kd.R_alloc | apply Kd.R_drewN | apply Kd.R_drew)); exact Kd.R_mono HO6006.out (fun _ hk => trivial)⟩, ⟨by repeat (first | (with_reducible first | exact HB.out | apply below_alloc | apply pw_below_drewN | apply below_drew1) | exact HB.out)⟩⟩
       ·replace c23 := Bool.eq_false_iff.mpr c23
        subst c23
        have H1 : (papermilllaw13_IsoNormal.j0 k l0 a1 t6003 true) = some r := by rw [if_neg (show ¬ (false = true) by decide)] at H; first | exact H | simpa using H
        clear H
        have H := H1
        clear H1
        have H' := Aside0.mk H
        clear H
        obtain ⟨Ao30, co30, eo30⟩ := Kd.R_slice HO6011.out
        subst eo30
        go_wp2_with (first | (go_at_call 20; (with_reducible refine (papermillref13_Same.calls k _ _ t6008 _ _ t6003 false _ ?side1 ?side2 ?side3 ?side4 A22.out).mono ?_); (case side1 => repeat (first | exact (Kd.R_reads' HO6011.out).2.2 | (with_reducible refine Kd.C_alloc ?_ _) | (with_reducible refine Kd.C_drewN ?_ _) | (with_reducible refine Kd.C_drew ?_))); (case side2 => exact (Kd.R_reads' HO6011.out).2.1); (case side3 => repeat (first | exact (Kd.R_reads' HO6006.out).2.2 | (with_reducible refine Kd.C_alloc ?_ _) | (with_reducible refine Kd.C_drewN ?_ _) | (with_reducible refine Kd.C_drew ?_))); (case side4 => exact (Kd.R_reads' HO6006.out).2.1); rintro e w' ⟨rfl, ⟨nd, rfl⟩⟩))
        go_meet
        case rel => exact ⟨_, (true), (by first | rfl | (simp; done) | (simp [*]; done)), H', ⟨by first | omega | exact Nat.le_refl _⟩, ⟨by (with_reducible repeat (first | apply Kd.R_alloc | apply Kd.R_drewN | apply Kd.R_drew)); exact Kd.R_mono HO6006.out (fun _ hk => trivial)⟩, ⟨by repeat (first | (with_reducible first | exact HB.out | apply below_alloc | apply pw_below_drewN | apply below_drew1) | exact HB.out)⟩⟩
      ·rw [if_neg c21] at H
       have c21b0 : (t6017 == 0) = false := beq_eq_false_iff_ne.mpr c21
       have c21b1 : (t6017 != 0) = true := bne_iff_ne.mpr c21
       have H' := Aside0.mk H
       clear H
       go_wp2
       go_meet
       case rel => exact ⟨_, (true), (by first | rfl | (simp; done) | (simp [*]; done)), H', ⟨by first | omega | exact Nat.le_refl _⟩, ⟨by (with_reducible repeat (first | apply Kd.R_alloc | apply Kd.R_drewN | apply Kd.R_drew)); exact Kd.R_mono HO6006.out (fun _ hk => trivial)⟩, ⟨by repeat (first | (with_reducible first | exact HB.out | apply below_alloc | apply pw_below_drewN | apply below_drew1) | exact HB.out)⟩⟩
     ·rw [if_neg c20] at H
      have c20b0 : (t6013 == 0) = false := beq_eq_false_iff_ne.mpr c20
      have c20b1 : (t6013 != 0) = true := bne_iff_ne.mpr c20
      have H' := Aside0.mk H
      clear H
      go_wp2
      go_meet
      case rel => exact ⟨_, (true), (by first | rfl | (simp; done) | (simp [*]; done)), H', ⟨by first | omega | exact Nat.le_refl _⟩, ⟨by (with_reducible repeat (first | apply Kd.R_alloc | apply Kd.R_drewN | apply Kd.R_drew)); exact Kd.R_mono HO6006.out (fun _ hk => trivial)⟩, ⟨by repeat (first | (with_reducible first | exact HB.out | apply below_alloc | apply pw_below_drewN | apply below_drew1) | exact HB.out)⟩⟩
    ·rw [if_neg c19] at H
     have c19b0 : (t6009 == 0) = false := beq_eq_false_iff_ne.mpr c19
     have c19b1 : (t6009 != 0) = true := bne_iff_ne.mpr c19
     (first | rw [c19b0] | (simp only [i64_w, i32_w]; rw [c19b0]) | skip)
     have H' := Aside0.mk H
     clear H
     go_wp2
     go_meet
     case rel => exact ⟨_, (true), (by first | rfl | (simp; done) | (simp [*]; done)), H', ⟨by first | omega | exact Nat.le_refl _⟩, ⟨by (with_reducible repeat (first | apply Kd.R_alloc | apply Kd.R_drewN | apply Kd.R_drew)); exact Kd.R_mono HO6006.out (fun _ hk => trivial)⟩, ⟨by repeat (first | (with_reducible first | exact HB.out | apply below_alloc | apply pw_below_drewN | apply below_drew1) | exact HB.out)⟩⟩
   case rest =>
    clear HC12
    try clear c1
    try clear c2
    try clear p2
    try clear c4
    try clear c5
    try clear c8
    try clear c8b0
    try clear c8b1
    try clear c12
    try clear c13
    try clear c19
    try clear c19b0
    try clear c19b1
    try clear c20
    try clear c20b0
    try clear c20b1
    try clear c21
    try clear c21b0
    try clear c21b1
    try clear c22
    try clear c23
    try clear c25
    obtain ⟨kq, x73_11, rfl, HA, HJ11, HO_5, HB⟩ := hcut
    cases kq with
    | zero => exact absurd HA.out (by simp [papermilllaw13_IsoNormal.j0])
    | succ kj11 =>
     have H := HA.out
     clear HA
     simp only [papermilllaw13_IsoNormal.j0] at H
     by_cases c31 : x73_11 = true
     ·subst c31
      have H1 : (some false) = some r := by rw [if_pos rfl] at H; exact H
      clear H
      have H := H1
      clear H1
      obtain rfl := Option.some.inj H
      go_wp2
      go_ret
      exact ⟨by first | rfl | (simp [errW_none, errW_some] <;> rfl) | (simp [*, errW_none, errW_some] <;> rfl), by repeat (first | (with_reducible first | exact HB.out | apply below_alloc | apply pw_below_drewN | apply below_drew1) | exact HB.out)⟩
     ·replace c31 := Bool.eq_false_iff.mpr c31
      subst c31
      have H1 : (papermilllaw13_IsoNormal.l0 kj11 l0 a1 t6003 0) = some r := by rw [if_neg (show ¬ (false = true) by decide)] at H; first | exact H | simpa using H
      clear H
      have H := H1
      clear H1
      have H' := Aside0.mk H
      clear H
      go_wp2
      go_loopg [13] kj11 (fun kq v13 w' => ∃ (x13_2 : Int), v13 = .int .i64 x13_2 ∧ Aside0 (papermilllaw13_IsoNormal.l0 kq l0 a1 t6003 x13_2 = some r) ∧ Aside0 (kq ≤ kj11) ∧ Aside0 (Kd.R k32 32 w' w.heap.size (fun _ => True) (.slice Ao14 t6003.length co14) t6003) ∧ Aside0 (Below w.heap.size w w'))
      case atStart => exact ⟨(0), (by first | rfl | (simp; done) | (simp [*]; done)), H', ⟨Nat.le_refl _⟩, ⟨by (with_reducible repeat (first | apply Kd.R_alloc | apply Kd.R_drewN | apply Kd.R_drew)); exact HO_5.out⟩, ⟨by repeat (first | (with_reducible first | exact HB.out | apply below_alloc | apply pw_below_drewN | apply below_drew1) | exact HB.out)⟩⟩
      case round =>
       clear H'
       try clear c1
       try clear c2
       try clear p2
       try clear c3
       try clear c4
       try clear c5
       try clear c8
       try clear c8b0
       try clear c8b1
       try clear c12
       try clear c13
       try clear c19
       try clear c19b0
       try clear c19b1
       try clear c20
       try clear c20b0
       try clear c20b1
       try clear c21
       try clear c21b0
       try clear c21b1
       try clear c22
       try clear c23
       try clear c25
       try clear c31
       try clear p2
       obtain ⟨x13_2, rfl, HA, HK2, HO_5, HB⟩ := hrel
       cases gk with
       | zero => exact absurd HA.out (by simp [papermilllaw13_IsoNormal.l0])
       | succ k2 =>
        have H := HA.out
        clear HA
        simp only [papermilllaw13_IsoNormal.l0] at H
        by_cases c32 : x13_2 < (t6003.length : Int)
        ·rw [if_pos c32] at H
         have c32b0 : decide (x13_2 < (t6003.length : Int)) = true := decide_eq_true c32
         clear c32
         by_cases c33 : 0 ≤ x13_2
         ·rw [if_pos c33] at H
          have c33b0 : decide (0 ≤ x13_2) = true := decide_eq_true c33
          clear c33
          by_cases c34 : ((rd_T32 t6003 x13_2).f1) = 1
          ·rw [if_pos c34] at H
           have c34b0 : (((rd_T32 t6003 x13_2).f1) == 1) = true := beq_iff_eq.mpr c34
           have c34b1 : (((rd_T32 t6003 x13_2).f1) != 1) = false := bne_eq_false_iff_eq.mpr c34
           clear c34
           obtain ⟨bq35, hbq35⟩ : ∃ b_ : Bool, b_ = ((rd_T32 t6003 x13_2).f2) := ⟨_, rfl⟩
           replace H : (if bq35 = true then (some false) else (papermilllaw13_IsoNormal.l0 k2 l0 a1 t6003 (wrap64 (x13_2 + 1)))) = some r := by rw [← hbq35] at H; exact H
           (try rw [← hbq35] at A3)
           (try rw [← hbq35] at A7)
           have Nbq35 := Aside0.mk hbq35
           clear hbq35
           by_cases c36 : bq35 = true
           ·subst c36
            have H1 : (some false) = some r := by rw [if_pos rfl] at H; exact H
            clear H
            have H := H1
            clear H1
            obtain rfl := Option.some.inj H
            have p6022 : 0 ≤ (x13_2 : Int) := of_decide_eq_true (by first | (with_reducible assumption) | assumption)
            have q6022 : x13_2 < (t6003.length : Int) := of_decide_eq_true (by first | (with_reducible assumption) | assumption)
            obtain ⟨ad6022, e6022, hx6022_0, hx6022_1, hx6022_2⟩ := at_T32 (Kd.R_reads' HO_5.out).2.2 x13_2 p6022 q6022
            (try rw [← Nbq35.out] at hx6022_2)
            (try rw [← Nbq35.out] at hw6022_2)
            cases e6022
            replace p6022 := eq_true p6022
            replace q6022 := eq_true q6022
            have p6023 : 0 ≤ (x13_2 : Int) := of_decide_eq_true (by first | (with_reducible assumption) | assumption)
            have q6023 : x13_2 < (t6003.length : Int) := of_decide_eq_true (by first | (with_reducible assumption) | assumption)
            obtain ⟨ad6023, e6023, hx6023_0, hx6023_1, hx6023_2⟩ := at_T32 (Kd.R_reads' HO_5.out).2.2 x13_2 p6023 q6023
            (try rw [← Nbq35.out] at hx6023_2)
            (try rw [← Nbq35.out] at hw6023_2)
            obtain rfl : ad6022 = ad6023 := (by injection e6023)
            replace p6023 := eq_true p6023
            replace q6023 := eq_true q6023
            go_wp2
            go_ret
            exact ⟨by first | rfl | (simp [errW_none, errW_some] <;> rfl) | (simp [*, errW_none, errW_some] <;> rfl), by repeat (first | (with_reducible first | exact HB.out | apply below_alloc | apply pw_below_drewN | apply below_drew1) | exact HB.out)⟩
           ·replace c36 := Bool.eq_false_iff.mpr c36
            subst c36
            have H1 : (papermilllaw13_IsoNormal.l0 k2 l0 a1 t6003 (wrap64 (x13_2 + 1))) = some r := by rw [if_neg (show ¬ (false = true) by decide)] at H; first | exact H | simpa using H
            clear H
            have H := H1
            clear H1
            have H' := Aside0.mk H
            clear H
            have p6022 : 0 ≤ (x13_2 : Int) := of_decide_eq_true (by first | (with_reducible assumption) | assumption)
            have q6022 : x13_2 < (t6003.length : Int) := of_decide_eq_true (by first | (with_reducible assumption) | assumption)
            obtain ⟨ad6022, e6022, hx6022_0, hx6022_1, hx6022_2⟩ := at_T32 (Kd.R_reads' HO_5.out).2.2 x13_2 p6022 q6022
            (try rw [← Nbq35.out] at hx6022_2)
            (try rw [← Nbq35.out] at hw6022_2)
            cases e6022
            replace p6022 := eq_true p6022
            replace q6022 := eq_true q6022
            have p6023 : 0 ≤ (x13_2 : Int) := of_decide_eq_true (by first | (with_reducible assumption) | assumption)
            have q6023 : x13_2 < (t6003.length : Int) := of_decide_eq_true (by first | (with_reducible assumption) | assumption)
            obtain ⟨ad6023, e6023, hx6023_0, hx6023_1, hx6023_2⟩ := at_T32 (Kd.R_reads' HO_5.out).2.2 x13_2 p6023 q6023
            (try rw [← Nbq35.out] at hx6023_2)
            (try rw [← Nbq35.out] at hw6023_2)
            obtain rfl : ad6022 = ad6023 := (by injection e6023)
            replace p6023 := eq_true p6023
            replace q6023 := eq_true q6023
            go_wp2
            go_roundg k2
            case measure => have := HJ11.out; have := HK2.out; omega
            case rel => exact ⟨(wrap64 (x13_2 + 1)), (by first | rfl | (simp; done) | (simp [*]; done)), H', ⟨by have := HJ11.out; have := HK2.out; omega⟩, ⟨by (with_reducible repeat (first | apply Kd.R_alloc | apply Kd.R_drewN | apply Kd.R_drew)); exact HO_5.out⟩, ⟨by repeat (first | (with_reducible first | exact HB.out | apply below_alloc | apply pw_below_drewN | apply below_drew1) | exact HB.out)⟩⟩
          ·rw [if_neg c34] at H
           have c34b0 : (((rd_T32 t6003 x13_2).f1) == 1) = false := beq_eq_false_iff_ne.mpr c34
           have c34b1 : (((rd_T32 t6003 x13_2).f1) != 1) = true := bne_iff_ne.mpr c34
           have H' := Aside0.mk H
           clear H
           have p6022 : 0 ≤ (x13_2 : Int) := of_decide_eq_true (by first | (with_reducible assumption) | assumption)
           have q6022 : x13_2 < (t6003.length : Int) := of_decide_eq_true (by first | (with_reducible assumption) | assumption)
           obtain ⟨ad6022, e6022, hx6022_0, hx6022_1, hx6022_2⟩ := at_T32 (Kd.R_reads' HO_5.out).2.2 x13_2 p6022 q6022
           cases e6022
           replace p6022 := eq_true p6022
           replace q6022 := eq_true q6022
           go_wp2
           go_roundg k2
           case measure => have := HJ11.out; have := HK2.out; omega
           case rel => exact ⟨(wrap64 (x13_2 + 1)), (by first | rfl | (simp; done) | (simp [*]; done)), H', ⟨by have := HJ11.out; have := HK2.out; omega⟩, ⟨by (with_reducible repeat (first | apply Kd.R_alloc | apply Kd.R_drewN | apply Kd.R_drew)); exact HO_5.out⟩, ⟨by repeat (first | (with_reducible first | exact HB.out | apply below_alloc | apply pw_below_drewN | apply below_drew1) | exact HB.out)⟩⟩
         ·rw [if_neg c33] at H
          exact absurd H (by simp)
        ·rw [if_neg c32] at H
         have c32b0 : decide (x13_2 < (t6003.length : Int)) = false := decide_eq_false c32
         clear c32
         replace H := Option.bind_eq_some_iff.mp H
         obtain ⟨t6024, A370, H⟩ := H
         replace H : ((papermilllaw13_at.f l0 a1).bind fun t6025 => (if t6024 = t6025 then ((papermilllaw13_awake.f).bind fun t6026 => (some t6026)) else (some false))) = some r := H
         have A37 := Aside0.mk A370
         clear A370
         replace H := Option.bind_eq_some_iff.mp H
         obtain ⟨t6025, A380, H⟩ := H
         replace H : (if t6024 = t6025 then ((papermilllaw13_awake.f).bind fun t6026 => (some t6026)) else (some false)) = some r := H
         have A38 := Aside0.mk A380
         clear A380
         by_cases c39 : t6024 = t6025
         ·rw [if_pos c39] at H
          have c39b0 : (t6024 == t6025) = true := beq_iff_eq.mpr c39
          have c39b1 : (t6024 != t6025) = false := bne_eq_false_iff_eq.mpr c39
          clear c39
          replace H := Option.bind_eq_some_iff.mp H
          obtain ⟨t6026, A400, H⟩ := H
          replace H : (some t6026) = some r := H
          have A40 := Aside0.mk A400
          clear A400
          obtain rfl := Option.some.inj H
          go_wp2_with (first | ((with_reducible refine gate_callee (f := 23) rfl ?_); refine goesL_ (some 95) rfl rfl Try.func23 (by kernel_rfl) rfl #[.slice Ao14 t6003.length co14, .int .i64 a1] rfl (by (try simp only [List.map_toArray, List.map_cons, List.map_nil]); first | done | rfl | (simp only [List.length_drop, List.length_take]; rfl)) ?_; (with_reducible refine (papermilllaw13_at.calls _ _ t6003 a1 t6024 _ ?side1 ?side2 A37.out).mono ?_); (case side1 => repeat (first | exact (Kd.R_reads' HO_5.out).2.2 | (with_reducible refine Kd.C_alloc ?_ _) | (with_reducible refine Kd.C_drewN ?_ _) | (with_reducible refine Kd.C_drew ?_))); (case side2 => exact (Kd.R_reads' HO_5.out).2.1); rintro e w41 ⟨rfl, hb⟩; refine ⟨_, rfl, ?_⟩; have n0_ := Aside0.mk (Kd.R_below (by (with_reducible repeat (first | apply Kd.R_alloc | apply Kd.R_drewN | apply Kd.R_drew)); exact HO_5.out) hb); have n1_ := Aside0.mk (below_step (by repeat (first | (with_reducible first | exact HB.out | apply below_alloc | apply pw_below_drewN | apply below_drew1) | exact HB.out)) hb); clear HO_5; clear HB; have HO_5 := n0_; have HB := n1_; clear n0_ n1_; (try clear hb); (try clear hb2); (try clear hk); (try clear hi)) | ((with_reducible refine gate_callee (f := 23) rfl ?_); refine goesL_ (some 98) rfl rfl Try.func23 (by kernel_rfl) rfl #[.slice A0 l0.length c0, .int .i64 a1] rfl (by (try simp only [List.map_toArray, List.map_cons, List.map_nil]); first | done | rfl | (simp only [List.length_drop, List.length_take]; rfl)) ?_; (with_reducible refine (papermilllaw13_at.calls _ _ l0 a1 t6025 _ ?side1 ?side2 A38.out).mono ?_); (case side1 => repeat (first | exact (Kd.C_below HR0.out HB.out) | (with_reducible refine Kd.C_alloc ?_ _) | (with_reducible refine Kd.C_drewN ?_ _) | (with_reducible refine Kd.C_drew ?_))); (case side2 => exact HC0.out); rintro e w42 ⟨rfl, hb⟩; refine ⟨_, rfl, ?_⟩; have n0_ := Aside0.mk (Kd.R_below (by (with_reducible repeat (first | apply Kd.R_alloc | apply Kd.R_drewN | apply Kd.R_drew)); exact HO_5.out) hb); have n1_ := Aside0.mk (below_step (by repeat (first | (with_reducible first | exact HB.out | apply below_alloc | apply pw_below_drewN | apply below_drew1) | exact HB.out)) hb); clear HO_5; clear HB; have HO_5 := n0_; have HB := n1_; clear n0_ n1_; (try clear hb); (try clear hb2); (try clear hk); (try clear hi)) | (go_at_call 13; (with_reducible refine (papermilllaw13_awake.calls  t6026 _ A40.out).mono ?_); rintro e w43 ⟨rfl, hb⟩; have n0_ := Aside0.mk (Kd.R_below (by (with_reducible repeat (first | apply Kd.R_alloc | apply Kd.R_drewN | apply Kd.R_drew)); exact HO_5.out) hb); have n1_ := Aside0.mk (below_step (by repeat (first | (with_reducible first | exact HB.out | apply below_alloc | apply pw_below_drewN | apply below_drew1) | exact HB.out)) hb); clear HO_5; clear HB; have HO_5 := n0_; have HB := n1_; clear n0_ n1_; (try clear hb); (try clear hb2); (try clear hk); (try clear hi)))
          go_ret
          exact ⟨by first | rfl | (simp [errW_none, errW_some] <;> rfl) | (simp [*, errW_none, errW_some] <;> rfl), by repeat (first | (with_reducible first | exact HB.out | apply below_alloc | apply pw_below_drewN | apply below_drew1) | exact HB.out)⟩
         ·rw [if_neg c39] at H
          have c39b0 : (t6024 == t6025) = false := beq_eq_false_iff_ne.mpr c39
          have c39b1 : (t6024 != t6025) = true := bne_iff_ne.mpr c39
          obtain rfl := Option.some.inj H
          go_wp2_with (first | ((with_reducible refine gate_callee (f := 23) rfl ?_); refine goesL_ (some 95) rfl rfl Try.func23 (by kernel_rfl) rfl #[.slice Ao14 t6003.length co14, .int .i64 a1] rfl (by (try simp only [List.map_toArray, List.map_cons, List.map_nil]); first | done | rfl | (simp only [List.length_drop, List.length_take]; rfl)) ?_; (with_reducible refine (papermilllaw13_at.calls _ _ t6003 a1 t6024 _ ?side1 ?side2 A37.out).mono ?_); (case side1 => repeat (first | exact (Kd.R_reads' HO_5.out).2.2 | (with_reducible refine Kd.C_alloc ?_ _) | (with_reducible refine Kd.C_drewN ?_ _) | (with_reducible refine Kd.C_drew ?_))); (case side2 => exact (Kd.R_reads' HO_5.out).2.1); rintro e w44 ⟨rfl, hb⟩; refine ⟨_, rfl, ?_⟩; have n0_ := Aside0.mk (Kd.R_below (by (with_reducible repeat (first | apply Kd.R_alloc | apply Kd.R_drewN | apply Kd.R_drew)); exact HO_5.out) hb); have n1_ := Aside0.mk (below_step (by repeat (first | (with_reducible first | exact HB.out | apply below_alloc | apply pw_below_drewN | apply below_drew1) | exact HB.out)) hb); clear HO_5; clear HB; have HO_5 := n0_; have HB := n1_; clear n0_ n1_; (try clear hb); (try clear hb2); (try clear hk); (try clear hi)) | ((with_reducible refine gate_callee (f := 23) rfl ?_); refine goesL_ (some 98) rfl rfl Try.func23 (by kernel_rfl) rfl #[.slice A0 l0.length c0, .int .i64 a1] rfl (by (try simp only [List.map_toArray, List.map_cons, List.map_nil]); first | done | rfl | (simp only [List.length_drop, List.length_take]; rfl)) ?_; (with_reducible refine (papermilllaw13_at.calls _ _ l0 a1 t6025 _ ?side1 ?side2 A38.out).mono ?_); (case side1 => repeat (first | exact (Kd.C_below HR0.out HB.out) | (with_reducible refine Kd.C_alloc ?_ _) | (with_reducible refine Kd.C_drewN ?_ _) | (with_reducible refine Kd.C_drew ?_))); (case side2 => exact HC0.out); rintro e w45 ⟨rfl, hb⟩; refine ⟨_, rfl, ?_⟩; have n0_ := Aside0.mk (Kd.R_below (by (with_reducible repeat (first | apply Kd.R_alloc | apply Kd.R_drewN | apply Kd.R_drew)); exact HO_5.out) hb); have n1_ := Aside0.mk (below_step (by repeat (first | (with_reducible first | exact HB.out | apply below_alloc | apply pw_below_drewN | apply below_drew1) | exact HB.out)) hb); clear HO_5; clear HB; have HO_5 := n0_; have HB := n1_; clear n0_ n1_; (try clear hb); (try clear hb2); (try clear hk); (try clear hi)))
          go_ret
          exact ⟨by first | rfl | (simp [errW_none, errW_some] <;> rfl) | (simp [*, errW_none, errW_some] <;> rfl), by repeat (first | (with_reducible first | exact HB.out | apply below_alloc | apply pw_below_drewN | apply below_drew1) | exact HB.out)⟩
  ·rw [if_neg c8] at H
   have c8b0 : (t6004 == 0) = false := beq_eq_false_iff_ne.mpr c8
   have c8b1 : (t6004 != 0) = true := bne_iff_ne.mpr c8
   by_cases c46 : (t6003.length : Int) = 0
   ·rw [if_pos c46] at H
    have c46b0 : ((t6003.length : Int) == 0) = true := beq_iff_eq.mpr c46
    have c46b1 : ((t6003.length : Int) != 0) = false := bne_eq_false_iff_eq.mpr c46
    clear c46
    replace H := Option.bind_eq_some_iff.mp H
    obtain ⟨t6007, A470, H⟩ := H
    replace H : (some t6007) = some r := H
    have A47 := Aside0.mk A470
    clear A470
    obtain rfl := Option.some.inj H
    go_enter Try.func5, Try.ntmps5
    go_wp2_with (first | ((with_reducible refine gate_callee (f := 12) rfl ?_); refine goesL_ (some 15) rfl rfl Try.func12 (by kernel_rfl) rfl #[.slice A0 l0.length c0] rfl (by (try simp only [List.map_toArray, List.map_cons, List.map_nil]); first | done | rfl | (simp only [List.length_drop, List.length_take]; rfl)) ?_; (with_reducible refine (papermilllaw13_great.calls _ _ l0 false _ ?side1 ?side2 A3.out).mono ?_); (case side1 => repeat (first | exact HR0.out | (with_reducible refine Kd.C_alloc ?_ _) | (with_reducible refine Kd.C_drewN ?_ _) | (with_reducible refine Kd.C_drew ?_))); (case side2 => exact HC0.out); rintro e w' ⟨rfl, ⟨nd, rfl⟩⟩; refine ⟨_, rfl, ?_⟩) | ((with_reducible refine gate_callee (f := 21) rfl ?_); refine goesL_ (some 19) rfl rfl Try.func21 (by kernel_rfl) rfl #[.slice A0 l0.length c0] rfl (by (try simp only [List.map_toArray, List.map_cons, List.map_nil]); first | done | rfl | (simp only [List.length_drop, List.length_take]; rfl)) ?_; (with_reducible refine (iso_Norm.calls _ _ l0 t6003 t6004 _ ?side1 ?side2 A7.out).mono ?_); (case side1 => repeat (first | exact HR0.out | (with_reducible refine Kd.C_alloc ?_ _) | (with_reducible refine Kd.C_drewN ?_ _) | (with_reducible refine Kd.C_drew ?_))); (case side2 => exact HC0.out); rintro e w48 ⟨v6005, rfl, ho0, hb⟩; refine ⟨_, rfl, ?_⟩; have n0_ := Aside0.mk (Kd.R_lower ho0 (below_size (by repeat (first | (with_reducible first | exact HB.out | apply below_alloc | apply pw_below_drewN | apply below_drew1) | exact HB.out)))); have n1_ := Aside0.mk (below_step (by repeat (first | (with_reducible first | exact HB.out | apply below_alloc | apply pw_below_drewN | apply below_drew1) | exact HB.out)) hb); clear HB; have HO6006 := n0_; have HB := n1_; clear n0_ n1_; (try clear hb); (try clear hb2); (try clear hk); (try clear hi); (try clear ho0); obtain ⟨Ao49, co49, eo49⟩ := Kd.R_slice HO6006.out; subst eo49) | (go_at_call 13; (with_reducible refine (papermilllaw13_awake.calls  t6007 _ A47.out).mono ?_); rintro e w50 ⟨rfl, hb⟩; have n0_ := Aside0.mk (Kd.R_below (by (with_reducible repeat (first | apply Kd.R_alloc | apply Kd.R_drewN | apply Kd.R_drew)); exact HO6006.out) hb); have n1_ := Aside0.mk (below_step (by repeat (first | (with_reducible first | exact HB.out | apply below_alloc | apply pw_below_drewN | apply below_drew1) | exact HB.out)) hb); clear HO6006; clear HB; have HO6006 := n0_; have HB := n1_; clear n0_ n1_; (try clear hb); (try clear hb2); (try clear hk); (try clear hi)))
    go_ret
    exact ⟨by first | rfl | (simp [errW_none, errW_some] <;> rfl) | (simp [*, errW_none, errW_some] <;> rfl), by repeat (first | (with_reducible first | exact HB.out | apply below_alloc | apply pw_below_drewN | apply below_drew1) | exact HB.out)⟩
   ·rw [if_neg c46] at H
    have c46b0 : ((t6003.length : Int) == 0) = false := beq_eq_false_iff_ne.mpr c46
    have c46b1 : ((t6003.length : Int) != 0) = true := bne_iff_ne.mpr c46
    have c46b2 : ¬ (t6003 = []) := fun h_ => c46 (by rw [h_]; rfl)
    obtain rfl := Option.some.inj H
    go_enter Try.func5, Try.ntmps5
    go_wp2_with (first | ((with_reducible refine gate_callee (f := 12) rfl ?_); refine goesL_ (some 15) rfl rfl Try.func12 (by kernel_rfl) rfl #[.slice A0 l0.length c0] rfl (by (try simp only [List.map_toArray, List.map_cons, List.map_nil]); first | done | rfl | (simp only [List.length_drop, List.length_take]; rfl)) ?_; (with_reducible refine (papermilllaw13_great.calls _ _ l0 false _ ?side1 ?side2 A3.out).mono ?_); (case side1 => repeat (first | exact HR0.out | (with_reducible refine Kd.C_alloc ?_ _) | (with_reducible refine Kd.C_drewN ?_ _) | (with_reducible refine Kd.C_drew ?_))); (case side2 => exact HC0.out); rintro e w' ⟨rfl, ⟨nd, rfl⟩⟩; refine ⟨_, rfl, ?_⟩) | ((with_reducible refine gate_callee (f := 21) rfl ?_); refine goesL_ (some 19) rfl rfl Try.func21 (by kernel_rfl) rfl #[.slice A0 l0.length c0] rfl (by (try simp only [List.map_toArray, List.map_cons, List.map_nil]); first | done | rfl | (simp only [List.length_drop, List.length_take]; rfl)) ?_; (with_reducible refine (iso_Norm.calls _ _ l0 t6003 t6004 _ ?side1 ?side2 A7.out).mono ?_); (case side1 => repeat (first | exact HR0.out | (with_reducible refine Kd.C_alloc ?_ _) | (with_reducible refine Kd.C_drewN ?_ _) | (with_reducible refine Kd.C_drew ?_))); (case side2 => exact HC0.out); rintro e w51 ⟨v6005, rfl, ho0, hb⟩; refine ⟨_, rfl, ?_⟩; have n0_ := Aside0.mk (Kd.R_lower ho0 (below_size (by repeat (first | (with_reducible first | exact HB.out | apply below_alloc | apply pw_below_drewN | apply below_drew1) | exact HB.out)))); have n1_ := Aside0.mk (below_step (by repeat (first | (with_reducible first | exact HB.out | apply below_alloc | apply pw_below_drewN | apply below_drew1) | exact HB.out)) hb); clear HB; have HO6006 := n0_; have HB := n1_; clear n0_ n1_; (try clear hb); (try clear hb2); (try clear hk); (try clear hi); (try clear ho0); obtain ⟨Ao52, co52, eo52⟩ := Kd.R_slice HO6006.out; subst eo52))
    go_ret
    exact ⟨by first | rfl | (simp [errW_none, errW_some] <;> rfl) | (simp [*, errW_none, errW_some] <;> rfl), by repeat (first | (with_reducible first | exact HB.out | apply below_alloc | apply pw_below_drewN | apply below_drew1) | exact HB.out)⟩

end Go.Proofs.Ytcnkmdonbpgjiaa.G

namespace Go.Proofs.Ytcnkmdonbpgjiaa.G
open Go.RowKit Go.Proofs.YtcnkmdonbpgjiaaW.PrintWords Go.Proofs.YtcnkmdonbpgjiaaW.PrintLast Go.Proofs.YtcnkmdonbpgjiaaW.PrintMore
set_option linter.unusedVariables false
set_option linter.unusedSimpArgs false
def fitX (xs : List Int) : Prop := ∀ x ∈ xs, 0 ≤ x ∧ x < 17179869184
theorem img_in {r : S32} (h : ¬ badR r) (i : Int) (h0 : 0 ≤ i) (h1 : i < r.f1) : 0 ≤ img r i ∧ img r i < 17179869184 := by
  unfold badR at h
  unfold img
  cases hb : r.f2 <;> simp [hb] at h ⊢ <;> omega
theorem sem_fit {l : List S32} (h : ∀ r ∈ l, ¬ badR r) : fitX (sem l) := by
  intro x hx
  obtain ⟨r, hr, hx⟩ := List.mem_flatMap.mp hx
  simp only [imgs, List.mem_map, List.mem_range] at hx
  obtain ⟨i, hi, rfl⟩ := hx
  exact img_in (h r hr) i (by omega) (by omega)
theorem mem_sem {l : List S32} {t : S32} (h : t ∈ l) (i : Nat) (hi : (i : Int) < t.f1) : img t i ∈ sem l := by
  refine List.mem_flatMap.mpr ⟨t, h, ?_⟩
  exact List.mem_iff_getElem?.mpr ⟨i, imgs_get t i hi⟩
theorem len_sem_mem {l : List S32} {t : S32} (h : t ∈ l) : t.f1.toNat ≤ (sem l).length := by
  induction l with
  | nil => simp at h
  | cons r l ih =>
    rw [sem_cons, List.length_append, imgs_len]
    rcases List.mem_cons.mp h with rfl | h
    · omega
    · have := ih h; omega
theorem check_nrm (xs : List Int) (h : fitX xs) (hl : xs.length ≤ 17179869184) (hn : (nrm xs).length ≤ 256) : check13 (nrm xs) = 0 := by
  have hok := nrm_ok xs
  have hg : ∀ t ∈ nrm xs, ¬ badR t := by
    intro t ht
    have h1 := (hok t ht).1
    have m0 := mem_sem ht 0 (by omega)
    have m1 := mem_sem ht (t.f1 - 1).toNat (by omega)
    have hlen := len_sem_mem ht
    rw [sem_nrm] at m0 m1 hlen
    have b0 := h _ m0
    have b1 := h _ m1
    rw [show (((t.f1 - 1).toNat : Nat) : Int) = t.f1 - 1 by omega] at b1
    unfold img at b0 b1
    unfold badR
    cases hb : t.f2 <;> simp [hb] at b0 b1 ⊢ <;> omega
  have ht := sem_len (nrm xs) (fun r hr => by have := (hok r hr).1; omega)
  rw [sem_nrm] at ht
  unfold check13
  rw [if_neg (by omega), if_neg, if_neg (by omega)]
  intro hb
  obtain ⟨t, ht2, hb⟩ := List.any_eq_true.mp hb
  exact hg t ht2 (by simpa using hb)
theorem tot_nrm (xs : List Int) : tot13 (nrm xs) = xs.length := by
  rw [← sem_len (nrm xs) (fun r hr => by have := (nrm_ok xs r hr).1; omega), sem_nrm]
theorem sem_small {l : List S32} (h : check13 l = 0) : (sem l).length ≤ 17179869184 := by
  have h1 := sem_tot h
  have h2 := (check13_zero h).2.2
  omega
theorem nrm_few {l : List S32} (h : check13 l = 0) : (nrm (sem l)).length ≤ l.length :=
  nrm_len l (fun r hr => (fit_of ((check13_zero h).2.1 r hr)).2.2.1)
theorem nrm_fair {l : List S32} (h : check13 l = 0) : check13 (nrm (sem l)) = 0 :=
  check_nrm _ (sem_fit (check13_zero h).2.1) (sem_small h) (by have := nrm_few h; have := (check13_zero h).1; omega)
theorem rev_few {l : List S32} (h : check13 l = 0) : (nrm (sem l).reverse).length ≤ l.length := by
  have hp : ∀ r ∈ l, 1 ≤ r.f1 := fun r hr => (fit_of ((check13_zero h).2.1 r hr)).2.2.1
  have := nrm_len (revL l) (revL_pos l hp)
  rw [sem_rev l hp, revL_len] at this
  exact this
theorem rev_fair {l : List S32} (h : check13 l = 0) : check13 (nrm (sem l).reverse) = 0 :=
  check_nrm _ (fun x hx => sem_fit (check13_zero h).2.1 x (List.mem_reverse.mp hx)) (by rw [List.length_reverse]; exact sem_small h) (by have := rev_few h; have := (check13_zero h).1; omega)
theorem normOf_nrm {l : List S32} (h : check13 l = 0) : normOf (nrm (sem l)) = (nrm (sem l), 0) := by unfold normOf; rw [if_pos (nrm_fair h), sem_nrm]
theorem at_nrm {l : List S32} (h : check13 l = 0) (x : Int) : atOf13 (nrm (sem l)) x = atOf13 l x := by
  unfold atOf13
  rw [if_pos (nrm_fair h), if_pos h, tot_nrm, ← sem_tot h, sem_nrm]
theorem rsame13_l0 (l : List S32) (hl : l.length ≤ 1000000) : ∀ (d i : Nat), l.length - i = d → i ≤ l.length → Ends (fun k => papermillref13_Same.l0 k l l (i : Int)) true := by
  intro d
  induction d with
  | zero =>
    intro i hd hi
    refine Ends.succ ?_
    simp only [papermillref13_Same.l0]
    exact Ends.neg (by omega) (Ends.ret _)
  | succ d ih =>
    intro i hd hi
    refine Ends.succ ?_
    simp only [papermillref13_Same.l0, wrap_nat i (by omega)]
    exact Ends.pos (by omega) (Ends.pos (by omega) (Ends.pos (by omega) (Ends.neg (by simp) (ih (i + 1) (by omega) (by omega)))))
theorem rsame13_ends (l : List S32) (hl : l.length ≤ 1000000) : Ends (fun k => papermillref13_Same.f k l l) true := by
  unfold papermillref13_Same.f
  exact Ends.pos rfl (rsame13_l0 l hl _ 0 rfl (by omega))
end Go.Proofs.Ytcnkmdonbpgjiaa.G
