/- The law SheetPlaces: whatever it is handed, it returns true, and what it is handed reads as before. No conditions. -/
import Derived.Test.YtnfcpcgbdoiiiaaM1
import Derived.Test.YtnfcpcgbdoiiiaaM3
import Derived.Test.YtnfcpcgbdoiiiaaM5
import Derived.Test.YtnfcpcgbdoiiiaaRows
import Derived.WalkKit
import Derived.ProofKit
import Derived.OpenShut
import Derived.ShutString
import Derived.ChangeOld
import Derived.Below
import Derived.SizedLaws
namespace Go.Proofs.Ytnfcpcgbdoiiiaa.G
open Go.RowKit Go.Proofs.YtnfcpcgbdoiiiaaW.PrintWords Go.Proofs.YtnfcpcgbdoiiiaaW.PrintLast Go.Proofs.YtnfcpcgbdoiiiaaW.PrintMore
attribute [local go_sem] max2_int min2_int max_two min_two max_three min_three max_four min_four   -- for this text's walks alone
set_option linter.unusedVariables false
set_option linter.unusedSimpArgs false

/-! ### papermilllaw52_SheetPlaces: function 7 -/
mutual
def papermilllaw52_SheetPlaces.j0 : Nat → Int → Int → Int → Int → Int → Bool → Option (Bool)
 | 0, _, _, _, _, _, _ => none
 | k + 1, x0, x1, x2, x3, x4, x32 => if x32 = true then ((papermilllaw52_awake.f).bind fun t8001 => (some t8001)) else ((sheet_Place.f k x0 x1 x2 x3).bind fun bt8002 => (if bt8002.2 = 0 then ((sheet_Sheet.f k x0 x1 bt8002.1).bind fun bt8004 => (if bt8004.2 = 0 then (if bt8004.1 = x2 then (if x1 = 0 then (none) else (if bt8002.1 < (Int.tmod x0 x1) then (some false) else (if bt8002.1 ≥ x0 then (some false) else (papermilllaw52_SheetPlaces.j1 k x0 x1 x4)))) else (some false)) else (some false))) else (papermilllaw52_SheetPlaces.j1 k x0 x1 x4)))
def papermilllaw52_SheetPlaces.j1 : Nat → Int → Int → Int → Option (Bool)
 | 0, _, _, _ => none
 | k + 1, x0, x1, x4 => if x4 < 0 then (papermilllaw52_SheetPlaces.j2 k x0 x1 x4 true) else (papermilllaw52_SheetPlaces.j2 k x0 x1 x4 (decide (x4 ≥ x0)))
def papermilllaw52_SheetPlaces.j2 : Nat → Int → Int → Int → Bool → Option (Bool)
 | 0, _, _, _, _ => none
 | k + 1, x0, x1, x4, x76 => if x76 = true then ((papermilllaw52_awake.f).bind fun t8006 => (some t8006)) else ((sheet_Sheet.f k x0 x1 x4).bind fun bt8007 => (if x1 = 0 then (none) else (if x4 < (Int.tmod x0 x1) then (if bt8007.2 = 7 then ((papermilllaw52_awake.f).bind fun t8009 => (some t8009)) else (some false)) else (if bt8007.2 = 0 then (if bt8007.1 < 0 then (papermilllaw52_SheetPlaces.j3 k x0 x1 x4 bt8007.1 true) else (papermilllaw52_SheetPlaces.j3 k x0 x1 x4 bt8007.1 (decide (bt8007.1 ≥ (wrap64 (Int.tdiv x0 x1)))))) else (papermilllaw52_SheetPlaces.j3 k x0 x1 x4 bt8007.1 true)))))
def papermilllaw52_SheetPlaces.j3 : Nat → Int → Int → Int → Int → Bool → Option (Bool)
 | 0, _, _, _, _, _ => none
 | k + 1, x0, x1, x4, x15, x107 => if x107 = true then (some false) else ((sheet_Place.f k x0 x1 x15 (wrap64 ((wrap64 ((wrap64 (x0 - 1)) - x4)) - (wrap64 (x15 * x1))))).bind fun bt8010 => (if bt8010.2 = 0 then (if bt8010.1 = x4 then ((papermilllaw52_awake.f).bind fun t8012 => (some t8012)) else (some false)) else (some false)))
end
def papermilllaw52_SheetPlaces.f (k : Nat) (a0 : Int) (a1 : Int) (a2 : Int) (a3 : Int) (a4 : Int) : Option (Bool) := if a0 < 0 then (papermilllaw52_SheetPlaces.j0 k a0 a1 a2 a3 a4 true) else (if a0 > 17179869184 then (papermilllaw52_SheetPlaces.j0 k a0 a1 a2 a3 a4 true) else (if a1 < 1 then (papermilllaw52_SheetPlaces.j0 k a0 a1 a2 a3 a4 true) else (papermilllaw52_SheetPlaces.j0 k a0 a1 a2 a3 a4 (decide (a1 > 17179869184)))))
theorem papermilllaw52_SheetPlaces.mono_l : ∀ k, (∀ y0 y1 y2 y3 y4 y5, LeO (papermilllaw52_SheetPlaces.j0 k y0 y1 y2 y3 y4 y5) (papermilllaw52_SheetPlaces.j0 (k + 1) y0 y1 y2 y3 y4 y5)) ∧ (∀ y0 y1 y2, LeO (papermilllaw52_SheetPlaces.j1 k y0 y1 y2) (papermilllaw52_SheetPlaces.j1 (k + 1) y0 y1 y2)) ∧ (∀ y0 y1 y2 y3, LeO (papermilllaw52_SheetPlaces.j2 k y0 y1 y2 y3) (papermilllaw52_SheetPlaces.j2 (k + 1) y0 y1 y2 y3)) ∧ (∀ y0 y1 y2 y3 y4, LeO (papermilllaw52_SheetPlaces.j3 k y0 y1 y2 y3 y4) (papermilllaw52_SheetPlaces.j3 (k + 1) y0 y1 y2 y3 y4))
 | 0 => ⟨fun _ _ _ _ _ _ r h => by simp [papermilllaw52_SheetPlaces.j0] at h, fun _ _ _ r h => by simp [papermilllaw52_SheetPlaces.j1] at h, fun _ _ _ _ r h => by simp [papermilllaw52_SheetPlaces.j2] at h, fun _ _ _ _ _ r h => by simp [papermilllaw52_SheetPlaces.j3] at h⟩
 | k + 1 => by
  obtain ⟨ih0, ih1, ih2, ih3⟩ := papermilllaw52_SheetPlaces.mono_l k
  refine ⟨?_, ?_, ?_, ?_⟩
  ·intro y0 y1 y2 y3 y4 y5
   unfold papermilllaw52_SheetPlaces.j0
   repeat' first
   | (with_reducible exact ih0 _ _ _ _ _ _)
   | (with_reducible exact ih1 _ _ _)
   | (with_reducible exact ih2 _ _ _ _)
   | (with_reducible exact ih3 _ _ _ _ _)
   | (with_reducible exact sheet_Place.mono _ _ _ _ _)
   | (with_reducible exact sheet_Sheet.mono _ _ _ _)
   | (with_reducible exact LeO.refl _)
   | (with_reducible exact LeO.none _)
   | (with_reducible refine LeO.ite ?_ ?_)
   | (with_reducible refine LeO.bind ?_ (fun _ => ?_))
   | exact ih0 _ _ _ _ _ _
   | exact ih1 _ _ _
   | exact ih2 _ _ _ _
   | exact ih3 _ _ _ _ _
   | exact sheet_Place.mono _ _ _ _ _
   | exact sheet_Sheet.mono _ _ _ _
   | exact LeO.none _
   | refine LeO.ite ?_ ?_
   | refine LeO.bind ?_ (fun _ => ?_)
  ·intro y0 y1 y2
   unfold papermilllaw52_SheetPlaces.j1
   repeat' first
   | (with_reducible exact ih0 _ _ _ _ _ _)
   | (with_reducible exact ih1 _ _ _)
   | (with_reducible exact ih2 _ _ _ _)
   | (with_reducible exact ih3 _ _ _ _ _)
   | (with_reducible exact sheet_Place.mono _ _ _ _ _)
   | (with_reducible exact sheet_Sheet.mono _ _ _ _)
   | (with_reducible exact LeO.refl _)
   | (with_reducible exact LeO.none _)
   | (with_reducible refine LeO.ite ?_ ?_)
   | (with_reducible refine LeO.bind ?_ (fun _ => ?_))
   | exact ih0 _ _ _ _ _ _
   | exact ih1 _ _ _
   | exact ih2 _ _ _ _
   | exact ih3 _ _ _ _ _
   | exact sheet_Place.mono _ _ _ _ _
   | exact sheet_Sheet.mono _ _ _ _
   | exact LeO.none _
   | refine LeO.ite ?_ ?_
   | refine LeO.bind ?_ (fun _ => ?_)
  ·intro y0 y1 y2 y3
   unfold papermilllaw52_SheetPlaces.j2
   repeat' first
   | (with_reducible exact ih0 _ _ _ _ _ _)
   | (with_reducible exact ih1 _ _ _)
   | (with_reducible exact ih2 _ _ _ _)
   | (with_reducible exact ih3 _ _ _ _ _)
   | (with_reducible exact sheet_Place.mono _ _ _ _ _)
   | (with_reducible exact sheet_Sheet.mono _ _ _ _)
   | (with_reducible exact LeO.refl _)
   | (with_reducible exact LeO.none _)
   | (with_reducible refine LeO.ite ?_ ?_)
   | (with_reducible refine LeO.bind ?_ (fun _ => ?_))
   | exact ih0 _ _ _ _ _ _
   | exact ih1 _ _ _
   | exact ih2 _ _ _ _
   | exact ih3 _ _ _ _ _
   | exact sheet_Place.mono _ _ _ _ _
   | exact sheet_Sheet.mono _ _ _ _
   | exact LeO.none _
   | refine LeO.ite ?_ ?_
   | refine LeO.bind ?_ (fun _ => ?_)
  ·intro y0 y1 y2 y3 y4
   unfold papermilllaw52_SheetPlaces.j3
   repeat' first
   | (with_reducible exact ih0 _ _ _ _ _ _)
   | (with_reducible exact ih1 _ _ _)
   | (with_reducible exact ih2 _ _ _ _)
   | (with_reducible exact ih3 _ _ _ _ _)
   | (with_reducible exact sheet_Place.mono _ _ _ _ _)
   | (with_reducible exact sheet_Sheet.mono _ _ _ _)
   | (with_reducible exact LeO.refl _)
   | (with_reducible exact LeO.none _)
   | (with_reducible refine LeO.ite ?_ ?_)
   | (with_reducible refine LeO.bind ?_ (fun _ => ?_))
   | exact ih0 _ _ _ _ _ _
   | exact ih1 _ _ _
   | exact ih2 _ _ _ _
   | exact ih3 _ _ _ _ _
   | exact sheet_Place.mono _ _ _ _ _
   | exact sheet_Sheet.mono _ _ _ _
   | exact LeO.none _
   | refine LeO.ite ?_ ?_
   | refine LeO.bind ?_ (fun _ => ?_)
theorem papermilllaw52_SheetPlaces.mono : ∀ a0 a1 a2 a3 a4 k, LeO (papermilllaw52_SheetPlaces.f k a0 a1 a2 a3 a4) (papermilllaw52_SheetPlaces.f (k + 1) a0 a1 a2 a3 a4) := by
 intro a0 a1 a2 a3 a4 k
 obtain ⟨ih0, ih1, ih2, ih3⟩ := papermilllaw52_SheetPlaces.mono_l k
 unfold papermilllaw52_SheetPlaces.f
 repeat' first
   | (with_reducible exact ih0 _ _ _ _ _ _)
   | (with_reducible exact ih1 _ _ _)
   | (with_reducible exact ih2 _ _ _ _)
   | (with_reducible exact ih3 _ _ _ _ _)
   | (with_reducible exact sheet_Place.mono _ _ _ _ _)
   | (with_reducible exact sheet_Sheet.mono _ _ _ _)
   | (with_reducible exact LeO.refl _)
   | (with_reducible exact LeO.none _)
   | (with_reducible refine LeO.ite ?_ ?_)
   | (with_reducible refine LeO.bind ?_ (fun _ => ?_))
   | exact ih0 _ _ _ _ _ _
   | exact ih1 _ _ _
   | exact ih2 _ _ _ _
   | exact ih3 _ _ _ _ _
   | exact sheet_Place.mono _ _ _ _ _
   | exact sheet_Sheet.mono _ _ _ _
   | exact LeO.none _
   | refine LeO.ite ?_ ?_
   | refine LeO.bind ?_ (fun _ => ?_)
set_option maxHeartbeats 8000000 in
set_option maxRecDepth 100000 in
theorem papermilllaw52_SheetPlaces.calls (k : Nat) (a0 : Int) (a1 : Int) (a2 : Int) (a3 : Int) (a4 : Int) (r : Bool) (w : World) (h : papermilllaw52_SheetPlaces.f k a0 a1 a2 a3 a4 = some r) :
  Calls Try.prog 7 #[.int .i64 a0, .int .i64 a1, .int .i64 a2, .int .i64 a3, .int .i64 a4] w fun e w' => e = .returned (.bool r) ∧ Below w.heap.size w w' := by
 have HB := Aside0.mk (Below.refl w.heap.size w)
 have H : (if a0 < 0 then (papermilllaw52_SheetPlaces.j0 k a0 a1 a2 a3 a4 true) else (if a0 > 17179869184 then (papermilllaw52_SheetPlaces.j0 k a0 a1 a2 a3 a4 true) else (if a1 < 1 then (papermilllaw52_SheetPlaces.j0 k a0 a1 a2 a3 a4 true) else (papermilllaw52_SheetPlaces.j0 k a0 a1 a2 a3 a4 (decide (a1 > 17179869184)))))) = some r := h
 clear h
 have HC6 := Aside0.mk H
 clear H
 go_enter Try.func7, Try.ntmps7
 go_upto_region 1 with (fail)
 go_cut [32] (fun v32 wc => ∃ (kq : Nat) (x32_5 : Bool), v32 = .bool x32_5 ∧ Aside0 (papermilllaw52_SheetPlaces.j0 kq a0 a1 a2 a3 a4 x32_5 = some r) ∧ Aside0 (kq ≤ k) ∧ Aside0 (Below w.heap.size w wc))
 case first =>
  have H := HC6.out
  clear HC6
  by_cases c7 : a0 < 0
  ·rw [if_pos c7] at H
   have c7b0 : decide (a0 < 0) = true := decide_eq_true c7
   clear c7
   (first | rw [c7b0] | (simp only [i64_w, i32_w]; rw [c7b0]) | skip)
   have H' := Aside0.mk H
   clear H
   go_wp2
   go_meet
   case rel => exact ⟨_, (true), (by first | rfl | (simp; done) | (simp [*]; done)), H', ⟨by first | omega | exact Nat.le_refl _⟩, ⟨by repeat (first | (with_reducible first | exact HB.out | apply below_alloc | apply pw_below_drewN | apply below_drew1) | exact HB.out)⟩⟩
  ·rw [if_neg c7] at H
   have c7b0 : decide (a0 < 0) = false := decide_eq_false c7
   clear c7
   (first | rw [c7b0] | (simp only [i64_w, i32_w]; rw [c7b0]) | skip)
   by_cases c8 : a0 > 17179869184
   ·rw [if_pos c8] at H
    have c8b0 : decide (17179869184 < a0) = true := decide_eq_true c8
    clear c8
    have H' := Aside0.mk H
    clear H
    go_wp2
    go_meet
    case rel => exact ⟨_, (true), (by first | rfl | (simp; done) | (simp [*]; done)), H', ⟨by first | omega | exact Nat.le_refl _⟩, ⟨by repeat (first | (with_reducible first | exact HB.out | apply below_alloc | apply pw_below_drewN | apply below_drew1) | exact HB.out)⟩⟩
   ·rw [if_neg c8] at H
    have c8b0 : decide (17179869184 < a0) = false := decide_eq_false c8
    clear c8
    by_cases c9 : a1 < 1
    ·rw [if_pos c9] at H
     have c9b0 : decide (a1 < 1) = true := decide_eq_true c9
     clear c9
     have H' := Aside0.mk H
     clear H
     go_wp2
     go_meet
     case rel => exact ⟨_, (true), (by first | rfl | (simp; done) | (simp [*]; done)), H', ⟨by first | omega | exact Nat.le_refl _⟩, ⟨by repeat (first | (with_reducible first | exact HB.out | apply below_alloc | apply pw_below_drewN | apply below_drew1) | exact HB.out)⟩⟩
    ·rw [if_neg c9] at H
     have c9b0 : decide (a1 < 1) = false := decide_eq_false c9
     clear c9
     have H' := Aside0.mk H
     clear H
     go_wp2
     go_meet
     case rel => exact ⟨_, (decide (a1 > 17179869184)), (by first | rfl | (simp; done) | (simp [*]; done)), H', ⟨by first | omega | exact Nat.le_refl _⟩, ⟨by repeat (first | (with_reducible first | exact HB.out | apply below_alloc | apply pw_below_drewN | apply below_drew1) | exact HB.out)⟩⟩
 case rest =>
  clear HC6
  try clear p2
  try clear c7
  try clear c7b0
  try clear c8
  try clear c8b0
  try clear c9
  try clear c9b0
  obtain ⟨kq, x32_5, rfl, HA, HJ5, HB⟩ := hcut
  cases kq with
  | zero => exact absurd HA.out (by simp [papermilllaw52_SheetPlaces.j0])
  | succ kj5 =>
   have H := HA.out
   clear HA
   simp only [papermilllaw52_SheetPlaces.j0] at H
   by_cases c10 : x32_5 = true
   ·subst c10
    have H1 : ((papermilllaw52_awake.f).bind fun t8001 => (some t8001)) = some r := by rw [if_pos rfl] at H; exact H
    clear H
    have H := H1
    clear H1
    replace H := Option.bind_eq_some_iff.mp H
    obtain ⟨t8001, A110, H⟩ := H
    replace H : (some t8001) = some r := H
    have A11 := Aside0.mk A110
    clear A110
    obtain rfl := Option.some.inj H
    go_wp2_with (first | ((with_reducible refine gate_callee (f := 12) rfl ?_); refine goesL_ (some 33) rfl rfl Try.func12 (by kernel_rfl) rfl #[] rfl (by (try simp only [List.map_toArray, List.map_cons, List.map_nil]); first | done | rfl | (simp only [List.length_drop, List.length_take]; rfl)) ?_; (with_reducible refine (papermilllaw52_awake.calls  t8001 _ A11.out).mono ?_); rintro e w12 ⟨rfl, hb⟩; refine ⟨_, rfl, ?_⟩; have n0_ := Aside0.mk (below_step (by repeat (first | (with_reducible first | exact HB.out | apply below_alloc | apply pw_below_drewN | apply below_drew1) | exact HB.out)) hb); clear HB; have HB := n0_; clear n0_; (try clear hb); (try clear hb2); (try clear hk); (try clear hi)))
    go_ret
    exact ⟨by first | rfl | (simp [errW_none, errW_some] <;> rfl) | (simp [*, errW_none, errW_some] <;> rfl), by repeat (first | (with_reducible first | exact HB.out | apply below_alloc | apply pw_below_drewN | apply below_drew1) | exact HB.out)⟩
   ·replace c10 := Bool.eq_false_iff.mpr c10
    subst c10
    have H1 : ((sheet_Place.f kj5 a0 a1 a2 a3).bind fun bt8002 => (if bt8002.2 = 0 then ((sheet_Sheet.f kj5 a0 a1 bt8002.1).bind fun bt8004 => (if bt8004.2 = 0 then (if bt8004.1 = a2 then (if a1 = 0 then (none) else (if bt8002.1 < (Int.tmod a0 a1) then (some false) else (if bt8002.1 ≥ a0 then (some false) else (papermilllaw52_SheetPlaces.j1 kj5 a0 a1 a4)))) else (some false)) else (some false))) else (papermilllaw52_SheetPlaces.j1 kj5 a0 a1 a4))) = some r := by rw [if_neg (show ¬ (false = true) by decide)] at H; exact H
    clear H
    have H := H1
    clear H1
    replace H := Option.bind_eq_some_iff.mp H
    obtain ⟨⟨t8002, t8003⟩, A130, H⟩ := H
    replace H : (if t8003 = 0 then ((sheet_Sheet.f kj5 a0 a1 t8002).bind fun bt8004 => (if bt8004.2 = 0 then (if bt8004.1 = a2 then (if a1 = 0 then (none) else (if t8002 < (Int.tmod a0 a1) then (some false) else (if t8002 ≥ a0 then (some false) else (papermilllaw52_SheetPlaces.j1 kj5 a0 a1 a4)))) else (some false)) else (some false))) else (papermilllaw52_SheetPlaces.j1 kj5 a0 a1 a4)) = some r := H
    have A13 := Aside0.mk A130
    clear A130
    have HC14 := Aside0.mk H
    clear H
    go_upto_if 43 with (first | ((with_reducible refine gate_callee (f := 18) rfl ?_); refine goesL_ (some 39) rfl rfl Try.func18 (by kernel_rfl) rfl #[.int .i64 a0, .int .i64 a1, .int .i64 a2, .int .i64 a3] rfl (by (try simp only [List.map_toArray, List.map_cons, List.map_nil]); first | done | rfl | (simp only [List.length_drop, List.length_take]; rfl)) ?_; (with_reducible refine (sheet_Place.calls kj5 a0 a1 a2 a3 t8002 t8003 _ A13.out).mono ?_); rintro e w' ⟨rfl, ⟨nd, rfl⟩⟩; refine ⟨_, rfl, ?_⟩))
    (try simp only [Act.put, List.setIfInBounds_toArray, List.set_cons_zero, List.set_cons_succ])
    go_cut [] (fun wc => ∃ (kq : Nat), Aside0 (papermilllaw52_SheetPlaces.j1 kq a0 a1 a4 = some r) ∧ Aside0 (kq ≤ kj5) ∧ Aside0 (Below w.heap.size w wc))
    case first =>
     have H := HC14.out
     clear HC14
     by_cases c15 : t8003 = 0
     ·rw [if_pos c15] at H
      have c15b0 : (t8003 == 0) = true := beq_iff_eq.mpr c15
      have c15b1 : (t8003 != 0) = false := bne_eq_false_iff_eq.mpr c15
      clear c15
      (first | rw [c15b0] | (simp only [i64_w, i32_w]; rw [c15b0]) | skip)
      replace H := Option.bind_eq_some_iff.mp H
      obtain ⟨⟨t8004, t8005⟩, A160, H⟩ := H
      replace H : (if t8005 = 0 then (if t8004 = a2 then (if a1 = 0 then (none) else (if t8002 < (Int.tmod a0 a1) then (some false) else (if t8002 ≥ a0 then (some false) else (papermilllaw52_SheetPlaces.j1 kj5 a0 a1 a4)))) else (some false)) else (some false)) = some r := H
      have A16 := Aside0.mk A160
      clear A160
      by_cases c17 : t8005 = 0
      ·rw [if_pos c17] at H
       have c17b0 : (t8005 == 0) = true := beq_iff_eq.mpr c17
       have c17b1 : (t8005 != 0) = false := bne_eq_false_iff_eq.mpr c17
       clear c17
       by_cases c18 : t8004 = a2
       ·rw [if_pos c18] at H
        have c18b0 : (t8004 == a2) = true := beq_iff_eq.mpr c18
        have c18b1 : (t8004 != a2) = false := bne_eq_false_iff_eq.mpr c18
        clear c18
        by_cases c19 : a1 = 0
        ·rw [if_pos c19] at H
         exact absurd H (by simp)
        ·rw [if_neg c19] at H
         have c19b0 : (a1 == 0) = false := beq_eq_false_iff_ne.mpr c19
         have c19b1 : (a1 != 0) = true := bne_iff_ne.mpr c19
         by_cases c20 : t8002 < (Int.tmod a0 a1)
         ·rw [if_pos c20] at H
          have c20b0 : decide (t8002 < (Int.tmod a0 a1)) = true := decide_eq_true c20
          clear c20
          obtain rfl := Option.some.inj H
          go_wp2_with (first | ((with_reducible refine gate_callee (f := 16) rfl ?_); refine goesL_ (some 48) rfl rfl Try.func16 (by kernel_rfl) rfl #[.int .i64 a0, .int .i64 a1, .int .i64 t8002] rfl (by (try simp only [List.map_toArray, List.map_cons, List.map_nil]); first | done | rfl | (simp only [List.length_drop, List.length_take]; rfl)) ?_; (with_reducible refine (sheet_Sheet.calls kj5 a0 a1 t8002 t8004 t8005 _ A16.out).mono ?_); rintro e w' ⟨rfl, ⟨nd, rfl⟩⟩; refine ⟨_, rfl, ?_⟩))
          go_ret
          exact ⟨by first | rfl | (simp [errW_none, errW_some] <;> rfl) | (simp [*, errW_none, errW_some] <;> rfl), by repeat (first | (with_reducible first | exact HB.out | apply below_alloc | apply pw_below_drewN | apply below_drew1) | exact HB.out)⟩
         ·rw [if_neg c20] at H
          have c20b0 : decide (t8002 < (Int.tmod a0 a1)) = false := decide_eq_false c20
          clear c20
          by_cases c21 : t8002 ≥ a0
          ·rw [if_pos c21] at H
           have c21b0 : decide (a0 ≤ t8002) = true := decide_eq_true c21
           clear c21
           obtain rfl := Option.some.inj H
           go_wp2_with (first | ((with_reducible refine gate_callee (f := 16) rfl ?_); refine goesL_ (some 48) rfl rfl Try.func16 (by kernel_rfl) rfl #[.int .i64 a0, .int .i64 a1, .int .i64 t8002] rfl (by (try simp only [List.map_toArray, List.map_cons, List.map_nil]); first | done | rfl | (simp only [List.length_drop, List.length_take]; rfl)) ?_; (with_reducible refine (sheet_Sheet.calls kj5 a0 a1 t8002 t8004 t8005 _ A16.out).mono ?_); rintro e w' ⟨rfl, ⟨nd, rfl⟩⟩; refine ⟨_, rfl, ?_⟩))
           go_ret
           exact ⟨by first | rfl | (simp [errW_none, errW_some] <;> rfl) | (simp [*, errW_none, errW_some] <;> rfl), by repeat (first | (with_reducible first | exact HB.out | apply below_alloc | apply pw_below_drewN | apply below_drew1) | exact HB.out)⟩
          ·rw [if_neg c21] at H
           have c21b0 : decide (a0 ≤ t8002) = false := decide_eq_false c21
           clear c21
           have H' := Aside0.mk H
           clear H
           go_wp2_with (first | ((with_reducible refine gate_callee (f := 16) rfl ?_); refine goesL_ (some 48) rfl rfl Try.func16 (by kernel_rfl) rfl #[.int .i64 a0, .int .i64 a1, .int .i64 t8002] rfl (by (try simp only [List.map_toArray, List.map_cons, List.map_nil]); first | done | rfl | (simp only [List.length_drop, List.length_take]; rfl)) ?_; (with_reducible refine (sheet_Sheet.calls kj5 a0 a1 t8002 t8004 t8005 _ A16.out).mono ?_); rintro e w' ⟨rfl, ⟨nd, rfl⟩⟩; refine ⟨_, rfl, ?_⟩))
           go_meet
           case rel => exact ⟨_, H', ⟨by have := HJ5.out; first | omega | exact Nat.le_refl _⟩, ⟨by repeat (first | (with_reducible first | exact HB.out | apply below_alloc | apply pw_below_drewN | apply below_drew1) | exact HB.out)⟩⟩
       ·rw [if_neg c18] at H
        have c18b0 : (t8004 == a2) = false := beq_eq_false_iff_ne.mpr c18
        have c18b1 : (t8004 != a2) = true := bne_iff_ne.mpr c18
        obtain rfl := Option.some.inj H
        go_wp2_with (first | ((with_reducible refine gate_callee (f := 16) rfl ?_); refine goesL_ (some 48) rfl rfl Try.func16 (by kernel_rfl) rfl #[.int .i64 a0, .int .i64 a1, .int .i64 t8002] rfl (by (try simp only [List.map_toArray, List.map_cons, List.map_nil]); first | done | rfl | (simp only [List.length_drop, List.length_take]; rfl)) ?_; (with_reducible refine (sheet_Sheet.calls kj5 a0 a1 t8002 t8004 t8005 _ A16.out).mono ?_); rintro e w' ⟨rfl, ⟨nd, rfl⟩⟩; refine ⟨_, rfl, ?_⟩))
        go_ret
        exact ⟨by first | rfl | (simp [errW_none, errW_some] <;> rfl) | (simp [*, errW_none, errW_some] <;> rfl), by repeat (first | (with_reducible first | exact HB.out | apply below_alloc | apply pw_below_drewN | apply below_drew1) | exact HB.out)⟩
      ·rw [if_neg c17] at H
       have c17b0 : (t8005 == 0) = false := beq_eq_false_iff_ne.mpr c17
       have c17b1 : (t8005 != 0) = true := bne_iff_ne.mpr c17
       obtain rfl := Option.some.inj H
       go_wp2_with (first | ((with_reducible refine gate_callee (f := 16) rfl ?_); refine goesL_ (some 48) rfl rfl Try.func16 (by kernel_rfl) rfl #[.int .i64 a0, .int .i64 a1, .int .i64 t8002] rfl (by (try simp only [List.map_toArray, List.map_cons, List.map_nil]); first | done | rfl | (simp only [List.length_drop, List.length_take]; rfl)) ?_; (with_reducible refine (sheet_Sheet.calls kj5 a0 a1 t8002 t8004 t8005 _ A16.out).mono ?_); rintro e w' ⟨rfl, ⟨nd, rfl⟩⟩; refine ⟨_, rfl, ?_⟩))
       go_ret
       exact ⟨by first | rfl | (simp [errW_none, errW_some] <;> rfl) | (simp [*, errW_none, errW_some] <;> rfl), by repeat (first | (with_reducible first | exact HB.out | apply below_alloc | apply pw_below_drewN | apply below_drew1) | exact HB.out)⟩
     ·rw [if_neg c15] at H
      have c15b0 : (t8003 == 0) = false := beq_eq_false_iff_ne.mpr c15
      have c15b1 : (t8003 != 0) = true := bne_iff_ne.mpr c15
      (first | rw [c15b0] | (simp only [i64_w, i32_w]; rw [c15b0]) | skip)
      have H' := Aside0.mk H
      clear H
      go_wp2
      go_meet
      case rel => exact ⟨_, H', ⟨by have := HJ5.out; first | omega | exact Nat.le_refl _⟩, ⟨by repeat (first | (with_reducible first | exact HB.out | apply below_alloc | apply pw_below_drewN | apply below_drew1) | exact HB.out)⟩⟩
    case rest =>
     clear HC14
     try clear c1
     try clear c2
     try clear p2
     try clear c7
     try clear c7b0
     try clear c8
     try clear c8b0
     try clear c9
     try clear c9b0
     try clear c10
     try clear c12
     try clear c15
     try clear c15b0
     try clear c15b1
     try clear c16
     try clear c17
     try clear c17b0
     try clear c17b1
     try clear c18
     try clear c18b0
     try clear c18b1
     try clear c19
     try clear c19b0
     try clear c19b1
     try clear c20
     try clear c20b0
     try clear c21
     try clear c21b0
     try clear p2
     obtain ⟨kq, HA, HJ13, HB⟩ := hcut
     cases kq with
     | zero => exact absurd HA.out (by simp [papermilllaw52_SheetPlaces.j1])
     | succ kj13 =>
      have H := HA.out
      clear HA
      simp only [papermilllaw52_SheetPlaces.j1] at H
      have HC22 := Aside0.mk H
      clear H
      go_upto_region 8 with (fail)
      go_cut [76] (fun v76 wc => ∃ (kq : Nat) (x76_21 : Bool), v76 = .bool x76_21 ∧ Aside0 (papermilllaw52_SheetPlaces.j2 kq a0 a1 a4 x76_21 = some r) ∧ Aside0 (kq ≤ kj13) ∧ Aside0 (Below w.heap.size w wc))
      case first =>
       have H := HC22.out
       clear HC22
       by_cases c23 : a4 < 0
       ·rw [if_pos c23] at H
        have c23b0 : decide (a4 < 0) = true := decide_eq_true c23
        clear c23
        (first | rw [c23b0] | (simp only [i64_w, i32_w]; rw [c23b0]) | skip)
        have H' := Aside0.mk H
        clear H
        go_wp2
        go_meet
        case rel => exact ⟨_, (true), (by first | rfl | (simp; done) | (simp [*]; done)), H', ⟨by have := HJ5.out; have := HJ13.out; first | omega | exact Nat.le_refl _⟩, ⟨by repeat (first | (with_reducible first | exact HB.out | apply below_alloc | apply pw_below_drewN | apply below_drew1) | exact HB.out)⟩⟩
       ·rw [if_neg c23] at H
        have c23b0 : decide (a4 < 0) = false := decide_eq_false c23
        clear c23
        (first | rw [c23b0] | (simp only [i64_w, i32_w]; rw [c23b0]) | skip)
        have H' := Aside0.mk H
        clear H
        go_wp2
        go_meet
        case rel => exact ⟨_, (decide (a4 ≥ a0)), (by first | rfl | (simp; done) | (simp [*]; done)), H', ⟨by have := HJ5.out; have := HJ13.out; first | omega | exact Nat.le_refl _⟩, ⟨by repeat (first | (with_reducible first | exact HB.out | apply below_alloc | apply pw_below_drewN | apply below_drew1) | exact HB.out)⟩⟩
      case rest =>
       clear HC22
       try clear c1
       try clear c2
       try clear p2
       try clear c7
       try clear c7b0
       try clear c8
       try clear c8b0
       try clear c9
       try clear c9b0
       try clear c10
       try clear c12
       try clear c15
       try clear c15b0
       try clear c15b1
       try clear c16
       try clear c17
       try clear c17b0
       try clear c17b1
       try clear c18
       try clear c18b0
       try clear c18b1
       try clear c19
       try clear c19b0
       try clear c19b1
       try clear c20
       try clear c20b0
       try clear c21
       try clear c21b0
       try clear c23
       try clear c23b0
       try clear p2
       obtain ⟨kq, x76_21, rfl, HA, HJ21, HB⟩ := hcut
       cases kq with
       | zero => exact absurd HA.out (by simp [papermilllaw52_SheetPlaces.j2])
       | succ kj21 =>
        have H := HA.out
        clear HA
        simp only [papermilllaw52_SheetPlaces.j2] at H
        by_cases c24 : x76_21 = true
        ·subst c24
         have H1 : ((papermilllaw52_awake.f).bind fun t8006 => (some t8006)) = some r := by rw [if_pos rfl] at H; exact H
         clear H
         have H := H1
         clear H1
         replace H := Option.bind_eq_some_iff.mp H
         obtain ⟨t8006, A250, H⟩ := H
         replace H : (some t8006) = some r := H
         have A25 := Aside0.mk A250
         clear A250
         obtain rfl := Option.some.inj H
         go_wp2_with (first | ((with_reducible refine gate_callee (f := 12) rfl ?_); refine goesL_ (some 77) rfl rfl Try.func12 (by kernel_rfl) rfl #[] rfl (by (try simp only [List.map_toArray, List.map_cons, List.map_nil]); first | done | rfl | (simp only [List.length_drop, List.length_take]; rfl)) ?_; (with_reducible refine (papermilllaw52_awake.calls  t8006 _ A25.out).mono ?_); rintro e w26 ⟨rfl, hb⟩; refine ⟨_, rfl, ?_⟩; have n0_ := Aside0.mk (below_step (by repeat (first | (with_reducible first | exact HB.out | apply below_alloc | apply pw_below_drewN | apply below_drew1) | exact HB.out)) hb); clear HB; have HB := n0_; clear n0_; (try clear hb); (try clear hb2); (try clear hk); (try clear hi)))
         go_ret
         exact ⟨by first | rfl | (simp [errW_none, errW_some] <;> rfl) | (simp [*, errW_none, errW_some] <;> rfl), by repeat (first | (with_reducible first | exact HB.out | apply below_alloc | apply pw_below_drewN | apply below_drew1) | exact HB.out)⟩
        ·replace c24 := Bool.eq_false_iff.mpr c24
         subst c24
         have H1 : ((sheet_Sheet.f kj21 a0 a1 a4).bind fun bt8007 => (if a1 = 0 then (none) else (if a4 < (Int.tmod a0 a1) then (if bt8007.2 = 7 then ((papermilllaw52_awake.f).bind fun t8009 => (some t8009)) else (some false)) else (if bt8007.2 = 0 then (if bt8007.1 < 0 then (papermilllaw52_SheetPlaces.j3 kj21 a0 a1 a4 bt8007.1 true) else (papermilllaw52_SheetPlaces.j3 kj21 a0 a1 a4 bt8007.1 (decide (bt8007.1 ≥ (wrap64 (Int.tdiv a0 a1)))))) else (papermilllaw52_SheetPlaces.j3 kj21 a0 a1 a4 bt8007.1 true))))) = some r := by rw [if_neg (show ¬ (false = true) by decide)] at H; exact H
         clear H
         have H := H1
         clear H1
         replace H := Option.bind_eq_some_iff.mp H
         obtain ⟨⟨t8007, t8008⟩, A270, H⟩ := H
         replace H : (if a1 = 0 then (none) else (if a4 < (Int.tmod a0 a1) then (if t8008 = 7 then ((papermilllaw52_awake.f).bind fun t8009 => (some t8009)) else (some false)) else (if t8008 = 0 then (if t8007 < 0 then (papermilllaw52_SheetPlaces.j3 kj21 a0 a1 a4 t8007 true) else (papermilllaw52_SheetPlaces.j3 kj21 a0 a1 a4 t8007 (decide (t8007 ≥ (wrap64 (Int.tdiv a0 a1)))))) else (papermilllaw52_SheetPlaces.j3 kj21 a0 a1 a4 t8007 true)))) = some r := H
         have A27 := Aside0.mk A270
         clear A270
         by_cases c28 : a1 = 0
         ·rw [if_pos c28] at H
          exact absurd H (by simp)
         ·rw [if_neg c28] at H
          have c28b0 : (a1 == 0) = false := beq_eq_false_iff_ne.mpr c28
          have c28b1 : (a1 != 0) = true := bne_iff_ne.mpr c28
          by_cases c29 : a4 < (Int.tmod a0 a1)
          ·rw [if_pos c29] at H
           have c29b0 : decide (a4 < (Int.tmod a0 a1)) = true := decide_eq_true c29
           clear c29
           by_cases c30 : t8008 = 7
           ·rw [if_pos c30] at H
            have c30b0 : (t8008 == 7) = true := beq_iff_eq.mpr c30
            have c30b1 : (t8008 != 7) = false := bne_eq_false_iff_eq.mpr c30
            clear c30
            replace H := Option.bind_eq_some_iff.mp H
            obtain ⟨t8009, A310, H⟩ := H
            replace H : (some t8009) = some r := H
            have A31 := Aside0.mk A310
            clear A310
            obtain rfl := Option.some.inj H
            go_wp2_with (first | ((with_reducible refine gate_callee (f := 16) rfl ?_); refine goesL_ (some 82) rfl rfl Try.func16 (by kernel_rfl) rfl #[.int .i64 a0, .int .i64 a1, .int .i64 a4] rfl (by (try simp only [List.map_toArray, List.map_cons, List.map_nil]); first | done | rfl | (simp only [List.length_drop, List.length_take]; rfl)) ?_; (with_reducible refine (sheet_Sheet.calls kj21 a0 a1 a4 t8007 t8008 _ A27.out).mono ?_); rintro e w' ⟨rfl, ⟨nd, rfl⟩⟩; refine ⟨_, rfl, ?_⟩) | (go_at_call 12; (with_reducible refine (papermilllaw52_awake.calls  t8009 _ A31.out).mono ?_); rintro e w32 ⟨rfl, hb⟩; have n0_ := Aside0.mk (below_step (by repeat (first | (with_reducible first | exact HB.out | apply below_alloc | apply pw_below_drewN | apply below_drew1) | exact HB.out)) hb); clear HB; have HB := n0_; clear n0_; (try clear hb); (try clear hb2); (try clear hk); (try clear hi)))
            go_ret
            exact ⟨by first | rfl | (simp [errW_none, errW_some] <;> rfl) | (simp [*, errW_none, errW_some] <;> rfl), by repeat (first | (with_reducible first | exact HB.out | apply below_alloc | apply pw_below_drewN | apply below_drew1) | exact HB.out)⟩
           ·rw [if_neg c30] at H
            have c30b0 : (t8008 == 7) = false := beq_eq_false_iff_ne.mpr c30
            have c30b1 : (t8008 != 7) = true := bne_iff_ne.mpr c30
            obtain rfl := Option.some.inj H
            go_wp2_with (first | ((with_reducible refine gate_callee (f := 16) rfl ?_); refine goesL_ (some 82) rfl rfl Try.func16 (by kernel_rfl) rfl #[.int .i64 a0, .int .i64 a1, .int .i64 a4] rfl (by (try simp only [List.map_toArray, List.map_cons, List.map_nil]); first | done | rfl | (simp only [List.length_drop, List.length_take]; rfl)) ?_; (with_reducible refine (sheet_Sheet.calls kj21 a0 a1 a4 t8007 t8008 _ A27.out).mono ?_); rintro e w' ⟨rfl, ⟨nd, rfl⟩⟩; refine ⟨_, rfl, ?_⟩))
            go_ret
            exact ⟨by first | rfl | (simp [errW_none, errW_some] <;> rfl) | (simp [*, errW_none, errW_some] <;> rfl), by repeat (first | (with_reducible first | exact HB.out | apply below_alloc | apply pw_below_drewN | apply below_drew1) | exact HB.out)⟩
          ·rw [if_neg c29] at H
           have c29b0 : decide (a4 < (Int.tmod a0 a1)) = false := decide_eq_false c29
           clear c29
           have HC33 := Aside0.mk H
           clear H
           go_upto_region 13 with (first | ((with_reducible refine gate_callee (f := 16) rfl ?_); refine goesL_ (some 82) rfl rfl Try.func16 (by kernel_rfl) rfl #[.int .i64 a0, .int .i64 a1, .int .i64 a4] rfl (by (try simp only [List.map_toArray, List.map_cons, List.map_nil]); first | done | rfl | (simp only [List.length_drop, List.length_take]; rfl)) ?_; (with_reducible refine (sheet_Sheet.calls kj21 a0 a1 a4 t8007 t8008 _ A27.out).mono ?_); rintro e w' ⟨rfl, ⟨nd, rfl⟩⟩; refine ⟨_, rfl, ?_⟩))
           (try simp only [Act.put, List.setIfInBounds_toArray, List.set_cons_zero, List.set_cons_succ])
           go_cut [107] (fun v107 wc => ∃ (kq : Nat) (x107_32 : Bool), v107 = .bool x107_32 ∧ Aside0 (papermilllaw52_SheetPlaces.j3 kq a0 a1 a4 t8007 x107_32 = some r) ∧ Aside0 (kq ≤ kj21) ∧ Aside0 (Below w.heap.size w wc))
           case first =>
            have H := HC33.out
            clear HC33
            by_cases c34 : t8008 = 0
            ·rw [if_pos c34] at H
             have c34b0 : (t8008 == 0) = true := beq_iff_eq.mpr c34
             have c34b1 : (t8008 != 0) = false := bne_eq_false_iff_eq.mpr c34
             clear c34
             (first | rw [c34b0] | (simp only [i64_w, i32_w]; rw [c34b0]) | skip)
             by_cases c35 : t8007 < 0
             ·rw [if_pos c35] at H
              have c35b0 : decide (t8007 < 0) = true := decide_eq_true c35
              clear c35
              have H' := Aside0.mk H
              clear H
              go_wp2
              go_meet
              case rel => exact ⟨_, (true), (by first | rfl | (simp; done) | (simp [*]; done)), H', ⟨by have := HJ5.out; have := HJ13.out; have := HJ21.out; first | omega | exact Nat.le_refl _⟩, ⟨by repeat (first | (with_reducible first | exact HB.out | apply below_alloc | apply pw_below_drewN | apply below_drew1) | exact HB.out)⟩⟩
             ·rw [if_neg c35] at H
              have c35b0 : decide (t8007 < 0) = false := decide_eq_false c35
              clear c35
              have H' := Aside0.mk H
              clear H
              go_wp2
              go_meet
              case rel => exact ⟨_, (decide (t8007 ≥ (wrap64 (Int.tdiv a0 a1)))), (by first | rfl | (simp; done) | (simp [*]; done)), H', ⟨by have := HJ5.out; have := HJ13.out; have := HJ21.out; first | omega | exact Nat.le_refl _⟩, ⟨by repeat (first | (with_reducible first | exact HB.out | apply below_alloc | apply pw_below_drewN | apply below_drew1) | exact HB.out)⟩⟩
            ·rw [if_neg c34] at H
             have c34b0 : (t8008 == 0) = false := beq_eq_false_iff_ne.mpr c34
             have c34b1 : (t8008 != 0) = true := bne_iff_ne.mpr c34
             (first | rw [c34b0] | (simp only [i64_w, i32_w]; rw [c34b0]) | skip)
             have H' := Aside0.mk H
             clear H
             go_wp2
             go_meet
             case rel => exact ⟨_, (true), (by first | rfl | (simp; done) | (simp [*]; done)), H', ⟨by have := HJ5.out; have := HJ13.out; have := HJ21.out; first | omega | exact Nat.le_refl _⟩, ⟨by repeat (first | (with_reducible first | exact HB.out | apply below_alloc | apply pw_below_drewN | apply below_drew1) | exact HB.out)⟩⟩
           case rest =>
            clear HC33
            try clear c1
            try clear c2
            try clear p2
            try clear c3
            try clear p6
            try clear c7
            try clear c7b0
            try clear c8
            try clear c8b0
            try clear c9
            try clear c9b0
            try clear c10
            try clear c12
            try clear c15
            try clear c15b0
            try clear c15b1
            try clear c16
            try clear c17
            try clear c17b0
            try clear c17b1
            try clear c18
            try clear c18b0
            try clear c18b1
            try clear c19
            try clear c19b0
            try clear c19b1
            try clear c20
            try clear c20b0
            try clear c21
            try clear c21b0
            try clear c23
            try clear c23b0
            try clear c24
            try clear c28
            try clear c28b0
            try clear c28b1
            try clear c29
            try clear c29b0
            try clear c30
            try clear c30b0
            try clear c30b1
            try clear c34
            try clear c34b0
            try clear c34b1
            try clear c35
            try clear c35b0
            try clear p2
            obtain ⟨kq, x107_32, rfl, HA, HJ32, HB⟩ := hcut
            cases kq with
            | zero => exact absurd HA.out (by simp [papermilllaw52_SheetPlaces.j3])
            | succ kj32 =>
             have H := HA.out
             clear HA
             simp only [papermilllaw52_SheetPlaces.j3] at H
             by_cases c36 : x107_32 = true
             ·subst c36
              have H1 : (some false) = some r := by rw [if_pos rfl] at H; exact H
              clear H
              have H := H1
              clear H1
              obtain rfl := Option.some.inj H
              go_wp2
              go_ret
              exact ⟨by first | rfl | (simp [errW_none, errW_some] <;> rfl) | (simp [*, errW_none, errW_some] <;> rfl), by repeat (first | (with_reducible first | exact HB.out | apply below_alloc | apply pw_below_drewN | apply below_drew1) | exact HB.out)⟩
             ·replace c36 := Bool.eq_false_iff.mpr c36
              subst c36
              have H1 : ((sheet_Place.f kj32 a0 a1 t8007 (wrap64 ((wrap64 ((wrap64 (a0 - 1)) - a4)) - (wrap64 (t8007 * a1))))).bind fun bt8010 => (if bt8010.2 = 0 then (if bt8010.1 = a4 then ((papermilllaw52_awake.f).bind fun t8012 => (some t8012)) else (some false)) else (some false))) = some r := by rw [if_neg (show ¬ (false = true) by decide)] at H; exact H
              clear H
              have H := H1
              clear H1
              replace H := Option.bind_eq_some_iff.mp H
              obtain ⟨⟨t8010, t8011⟩, A370, H⟩ := H
              replace H : (if t8011 = 0 then (if t8010 = a4 then ((papermilllaw52_awake.f).bind fun t8012 => (some t8012)) else (some false)) else (some false)) = some r := H
              have A37 := Aside0.mk A370
              clear A370
              by_cases c38 : t8011 = 0
              ·rw [if_pos c38] at H
               have c38b0 : (t8011 == 0) = true := beq_iff_eq.mpr c38
               have c38b1 : (t8011 != 0) = false := bne_eq_false_iff_eq.mpr c38
               clear c38
               by_cases c39 : t8010 = a4
               ·rw [if_pos c39] at H
                have c39b0 : (t8010 == a4) = true := beq_iff_eq.mpr c39
                have c39b1 : (t8010 != a4) = false := bne_eq_false_iff_eq.mpr c39
                clear c39
                replace H := Option.bind_eq_some_iff.mp H
                obtain ⟨t8012, A400, H⟩ := H
                replace H : (some t8012) = some r := H
                have A40 := Aside0.mk A400
                clear A400
                obtain rfl := Option.some.inj H
                go_wp2_with (first | ((with_reducible refine gate_callee (f := 18) rfl ?_); refine goesL_ (some 120) rfl rfl Try.func18 (by kernel_rfl) rfl #[.int .i64 a0, .int .i64 a1, .int .i64 t8007, .int .i64 (wrap64 ((wrap64 ((wrap64 (a0 - 1)) - a4)) - (wrap64 (t8007 * a1))))] rfl (by (try simp only [List.map_toArray, List.map_cons, List.map_nil]); first | done | rfl | (simp only [List.length_drop, List.length_take]; rfl)) ?_; (with_reducible refine (sheet_Place.calls kj32 a0 a1 t8007 (wrap64 ((wrap64 ((wrap64 (a0 - 1)) - a4)) - (wrap64 (t8007 * a1)))) t8010 t8011 _ A37.out).mono ?_); rintro e w' ⟨rfl, ⟨nd, rfl⟩⟩; refine ⟨_, rfl, ?_⟩) | (go_at_call 12; (with_reducible refine (papermilllaw52_awake.calls  t8012 _ A40.out).mono ?_); rintro e w41 ⟨rfl, hb⟩; have n0_ := Aside0.mk (below_step (by repeat (first | (with_reducible first | exact HB.out | apply below_alloc | apply pw_below_drewN | apply below_drew1) | exact HB.out)) hb); clear HB; have HB := n0_; clear n0_; (try clear hb); (try clear hb2); (try clear hk); (try clear hi)))
                go_ret
                exact ⟨by first | rfl | (simp [errW_none, errW_some] <;> rfl) | (simp [*, errW_none, errW_some] <;> rfl), by repeat (first | (with_reducible first | exact HB.out | apply below_alloc | apply pw_below_drewN | apply below_drew1) | exact HB.out)⟩
               ·rw [if_neg c39] at H
                have c39b0 : (t8010 == a4) = false := beq_eq_false_iff_ne.mpr c39
                have c39b1 : (t8010 != a4) = true := bne_iff_ne.mpr c39
                obtain rfl := Option.some.inj H
                go_wp2_with (first | ((with_reducible refine gate_callee (f := 18) rfl ?_); refine goesL_ (some 120) rfl rfl Try.func18 (by kernel_rfl) rfl #[.int .i64 a0, .int .i64 a1, .int .i64 t8007, .int .i64 (wrap64 ((wrap64 ((wrap64 (a0 - 1)) - a4)) - (wrap64 (t8007 * a1))))] rfl (by (try simp only [List.map_toArray, List.map_cons, List.map_nil]); first | done | rfl | (simp only [List.length_drop, List.length_take]; rfl)) ?_; (with_reducible refine (sheet_Place.calls kj32 a0 a1 t8007 (wrap64 ((wrap64 ((wrap64 (a0 - 1)) - a4)) - (wrap64 (t8007 * a1)))) t8010 t8011 _ A37.out).mono ?_); rintro e w' ⟨rfl, ⟨nd, rfl⟩⟩; refine ⟨_, rfl, ?_⟩))
                go_ret
                exact ⟨by first | rfl | (simp [errW_none, errW_some] <;> rfl) | (simp [*, errW_none, errW_some] <;> rfl), by repeat (first | (with_reducible first | exact HB.out | apply below_alloc | apply pw_below_drewN | apply below_drew1) | exact HB.out)⟩
              ·rw [if_neg c38] at H
               have c38b0 : (t8011 == 0) = false := beq_eq_false_iff_ne.mpr c38
               have c38b1 : (t8011 != 0) = true := bne_iff_ne.mpr c38
               obtain rfl := Option.some.inj H
               go_wp2_with (first | ((with_reducible refine gate_callee (f := 18) rfl ?_); refine goesL_ (some 120) rfl rfl Try.func18 (by kernel_rfl) rfl #[.int .i64 a0, .int .i64 a1, .int .i64 t8007, .int .i64 (wrap64 ((wrap64 ((wrap64 (a0 - 1)) - a4)) - (wrap64 (t8007 * a1))))] rfl (by (try simp only [List.map_toArray, List.map_cons, List.map_nil]); first | done | rfl | (simp only [List.length_drop, List.length_take]; rfl)) ?_; (with_reducible refine (sheet_Place.calls kj32 a0 a1 t8007 (wrap64 ((wrap64 ((wrap64 (a0 - 1)) - a4)) - (wrap64 (t8007 * a1)))) t8010 t8011 _ A37.out).mono ?_); rintro e w' ⟨rfl, ⟨nd, rfl⟩⟩; refine ⟨_, rfl, ?_⟩))
               go_ret
               exact ⟨by first | rfl | (simp [errW_none, errW_some] <;> rfl) | (simp [*, errW_none, errW_some] <;> rfl), by repeat (first | (with_reducible first | exact HB.out | apply below_alloc | apply pw_below_drewN | apply below_drew1) | exact HB.out)⟩

/-- THE ONE PURE STATEMENT of papermilllaw52_SheetPlaces: yours. -/
def papermilllaw52_SheetPlaces.Pure : Prop := ∀ (a0 : Int) (a1 : Int) (a2 : Int) (a3 : Int) (a4 : Int), (Lit.int .i64 a0).wf = true → (Lit.int .i64 a1).wf = true → (Lit.int .i64 a2).wf = true → (Lit.int .i64 a3).wf = true → (Lit.int .i64 a4).wf = true → ∃ k, papermilllaw52_SheetPlaces.f k a0 a1 a2 a3 a4 = some true
theorem papermilllaw52_SheetPlaces.walk (P : papermilllaw52_SheetPlaces.Pure) (a0 : Int) (a1 : Int) (a2 : Int) (a3 : Int) (a4 : Int) (w : World) (w0 : (Lit.int .i64 a0).wf = true) (w1 : (Lit.int .i64 a1).wf = true) (w2 : (Lit.int .i64 a2).wf = true) (w3 : (Lit.int .i64 a3).wf = true) (w4 : (Lit.int .i64 a4).wf = true) :
  Calls Try.prog 7 #[.int .i64 a0, .int .i64 a1, .int .i64 a2, .int .i64 a3, .int .i64 a4] w fun e w' => e = .returned (.bool true) ∧ Below w.heap.size w w' := by
 obtain ⟨k, h⟩ := P a0 a1 a2 a3 a4 w0 w1 w2 w3 w4
 refine (papermilllaw52_SheetPlaces.calls k a0 a1 a2 a3 a4 true w h).mono ?_
 rintro e w' ⟨rfl, hd⟩
 exact ⟨rfl, hd⟩

end Go.Proofs.Ytnfcpcgbdoiiiaa.G

namespace Go.Proofs.Ytnfcpcgbdoiiiaa.G
open Go.RowKit Go.Proofs.YtnfcpcgbdoiiiaaW.PrintWords Go.Proofs.YtnfcpcgbdoiiiaaW.PrintLast Go.Proofs.YtnfcpcgbdoiiiaaW.PrintMore
set_option linter.unusedVariables false
set_option linter.unusedSimpArgs false

theorem div_uniq (a z q r : Int) (h : a = q * z + r) (h0 : 0 ≤ r) (h1 : r < z) : a / z = q := by
  have hz : 0 < z := by omega
  subst h
  rw [Int.add_comm, Int.add_mul_ediv_right _ _ (by omega), Int.ediv_eq_zero_of_lt h0 h1, Int.zero_add]

theorem places_j2 (n z x : Int) (hr : rightB n z = true) (c : Bool) (hc : c = decide (x < 0 ∨ x ≥ n)) : Ends (fun k => papermilllaw52_SheetPlaces.j2 k n z x c) true := by
  obtain ⟨h0, h1, h2, h3⟩ := (rightB_iff n z).1 hr
  refine Ends.succ ?_
  simp only [papermilllaw52_SheetPlaces.j2, papermilllaw52_awake.f, Option.bind_some]
  by_cases h : x < 0 ∨ x ≥ n
  · exact Ends.pos (by rw [hc]; simpa using h) (Ends.ret _)
  · refine Ends.neg (by rw [hc]; simpa using h) (Ends.bind (sheet_ends n z x) (Ends.neg (by omega) ?_))
    unfold sheetOf
    rw [if_pos hr, if_neg h, Int.tmod_eq_emod_of_nonneg h0]
    by_cases hm : x < n % z
    · exact Ends.pos hm (Ends.pos (by rw [if_pos hm]) (Ends.ret _))
    · refine Ends.neg hm ?_
      rw [if_neg hm]
      refine Ends.pos rfl ?_
      show Ends (fun k => if (n - 1 - x) / z < 0 then _ else _) true
      have hq0 : 0 ≤ (n - 1 - x) / z := Int.ediv_nonneg (by omega) (by omega)
      have d1 := Int.emod_add_mul_ediv n z
      have d2 := Int.emod_add_mul_ediv (n - 1 - x) z
      have r1 := Int.emod_nonneg n (show z ≠ 0 by omega)
      have r2 := Int.emod_lt_of_pos n (show 0 < z by omega)
      have r3 := Int.emod_nonneg (n - 1 - x) (show z ≠ 0 by omega)
      have r4 := Int.emod_lt_of_pos (n - 1 - x) (show 0 < z by omega)
      have hql : (n - 1 - x) / z < n / z := by
        refine Int.not_le.1 fun hle => ?_
        have := Int.mul_le_mul_of_nonneg_left hle (show 0 ≤ z by omega)
        omega
      have hnz := div_le_self' n z h0 h2
      have ew : wrap64 (Int.tdiv n z) = n / z := by
        rw [Int.tdiv_eq_ediv_of_nonneg h0]
        generalize n / z = q at *
        unfold wrap64; omega
      have hm2 := mul_le_of_lt_div n z _ h0 h2 hq0 hql
      refine Ends.neg (by omega) ?_
      rw [ew]
      refine Ends.succ ?_
      simp only [papermilllaw52_SheetPlaces.j3, papermilllaw52_awake.f, Option.bind_some]
      refine Ends.neg (by simpa using hql) ?_
      have e0 : z * ((n - 1 - x) / z) = (n - 1 - x) / z * z := Int.mul_comm _ _
      rw [e0] at d2
      have e1 : wrap64 (wrap64 (wrap64 (n - 1) - x) - wrap64 ((n - 1 - x) / z * z)) = (n - 1 - x) % z := by
        generalize (n - 1 - x) / z * z = m at *
        generalize (n - 1 - x) % z = r at *
        have a1 : wrap64 (n - 1) = n - 1 := by unfold wrap64; omega
        have a2 : wrap64 (n - 1 - x) = n - 1 - x := by unfold wrap64; omega
        have a3 : wrap64 m = m := by unfold wrap64; omega
        have a4 : wrap64 (n - 1 - x - m) = n - 1 - x - m := by unfold wrap64; omega
        rw [a1, a2, a3, a4]; omega
      rw [e1]
      have e2 : placeOf n z ((n - 1 - x) / z) ((n - 1 - x) % z) = (x, 0) := by
        unfold placeOf
        rw [if_pos hr, if_neg (by omega), if_neg (by omega)]
        congr 1
        omega
      exact Ends.bind ((place_ends n z _ _).congr e2) (Ends.pos rfl (Ends.pos rfl (Ends.ret _)))

theorem places_j1 (n z x : Int) (hr : rightB n z = true) : Ends (fun k => papermilllaw52_SheetPlaces.j1 k n z x) true := by
  refine Ends.succ ?_
  simp only [papermilllaw52_SheetPlaces.j1]
  by_cases h : x < 0
  · exact Ends.pos h (places_j2 n z x hr _ (by simp [h]))
  · exact Ends.neg h (places_j2 n z x hr _ (by simp [h]))

theorem places_j0 (n z k y x : Int) (c : Bool) (hc : c = !(rightB n z)) : Ends (fun j => papermilllaw52_SheetPlaces.j0 j n z k y x c) true := by
  refine Ends.succ ?_
  simp only [papermilllaw52_SheetPlaces.j0, papermilllaw52_awake.f, Option.bind_some]
  by_cases hr : rightB n z = true
  · obtain ⟨h0, h1, h2, h3⟩ := (rightB_iff n z).1 hr
    refine Ends.neg (by rw [hc, hr]; simp) (Ends.bind (place_ends n z k y) ?_)
    unfold placeOf
    rw [if_pos hr]
    by_cases hk : k < 0 ∨ k ≥ n / z
    · rw [if_pos hk]
      exact Ends.neg (by decide) (places_j1 n z x hr)
    · rw [if_neg hk]
      by_cases hy : y < 0 ∨ y ≥ z
      · rw [if_pos hy]
        exact Ends.neg (by decide) (places_j1 n z x hr)
      · rw [if_neg hy]
        have hm := mul_le_of_lt_div n z k h0 h2 (by omega) (by omega)
        have d1 := Int.emod_add_mul_ediv n z
        have hmc : z * (n / z) = n / z * z := Int.mul_comm _ _
        rw [hmc] at d1
        have hge : (k + 1) * z ≤ n / z * z := Int.mul_le_mul_of_nonneg_right (by omega) (by omega)
        rw [Int.add_mul, Int.one_mul] at hge
        have e : sheetOf n z (n - 1 - k * z - y) = (k, 0) := by
          unfold sheetOf
          rw [if_pos hr, if_neg (by omega), if_neg (by omega)]
          congr 1
          exact div_uniq _ z k y (by omega) (by omega) (by omega)
        refine Ends.pos rfl (Ends.bind ((sheet_ends n z _).congr e) (Ends.pos rfl (Ends.pos rfl (Ends.neg (by omega) ?_))))
        rw [Int.tmod_eq_emod_of_nonneg h0]
        show Ends (fun j => if n - 1 - k * z - y < n % z then _ else if n - 1 - k * z - y ≥ n then _ else _) true
        exact Ends.neg (by omega) (Ends.neg (by omega) (places_j1 n z x hr))
  · exact Ends.pos (by rw [hc]; simpa using hr) (Ends.ret _)

/-- the law, over lists and numbers -/
theorem SheetPlaces : ∀ (a0 : Int) (a1 : Int) (a2 : Int) (a3 : Int) (a4 : Int), (Lit.int .i64 a0).wf = true → (Lit.int .i64 a1).wf = true → (Lit.int .i64 a2).wf = true → (Lit.int .i64 a3).wf = true → (Lit.int .i64 a4).wf = true → ∃ k, papermilllaw52_SheetPlaces.f k a0 a1 a2 a3 a4 = some true := by
  intro n z k y x _ _ _ _ _
  suffices h : Ends (fun j => papermilllaw52_SheetPlaces.f j n z k y x) true from h.get
  unfold papermilllaw52_SheetPlaces.f
  have hb : ∀ c : Bool, (c = decide (n < 0 ∨ n > 17179869184 ∨ z < 1 ∨ z > 17179869184)) → Ends (fun j => papermilllaw52_SheetPlaces.j0 j n z k y x c) true := fun c hc => places_j0 n z k y x c (by
    rw [hc]; unfold rightB
    rw [← decide_not, decide_eq_decide]; omega)
  by_cases h1 : n < 0
  · exact Ends.pos h1 (hb _ (by simp [h1]))
  refine Ends.neg h1 ?_
  by_cases h2 : n > 17179869184
  · exact Ends.pos h2 (hb _ (by simp [h2]))
  refine Ends.neg h2 ?_
  by_cases h3 : z < 1
  · exact Ends.pos h3 (hb _ (by simp [h3]))
  · exact Ends.neg h3 (hb _ (by simp [h1, h2, h3]))

end Go.Proofs.Ytnfcpcgbdoiiiaa.G

namespace Go.Proofs.Ytnfcpcgbdoiiiaa.sheetPlaces
open Go.ChangeShapes Go.WideShapes Go.ChangeAt Go.RowKit Go.Proofs.YtnfcpcgbdoiiiaaW.PrintWords Go.Proofs.YtnfcpcgbdoiiiaaW.PrintLast Go.Proofs.Ytnfcpcgbdoiiiaa.G
open Go.ChangeMaps (open_string shut_string)
set_option linter.unusedVariables false
set_option linter.unusedSimpArgs false
theorem own : ownKnob Try.prog.godebug = none := by kernel_rfl
theorem laidOut : laidOutB Try.prog = true := by kernel_rfl
set_option maxRecDepth 100000 in
theorem lifted (os : Os) (started : os.Started) (H : Type) (enc : TypeId × Value → H) :
    ReturnsInHanded {} Try.checked os 7 .any (Rows.sheetPlacesSpec.pre6 enc Try.prog Try.f7 Rows.sheetPlacesRow.domain false) (Rows.sheetPlacesSpec.post enc Try.prog Try.f7 false true false false) := by
  refine returnsInHanded_of_change_sized (C := Try.checked) own started (by kernel_rfl) Try.func7
    (ChangeSpec.witness6 (enc := enc) (C := Try.checked) false ⟨#[], #[.int .i64 0, .int .i64 0, .int .i64 0, .int .i64 0, .int .i64 0], []⟩ 8 (by kernel_rfl) (by kernel_rfl) (by kernel_rfl) (by kernel_rfl)) ?_
  intro W base args ds gs before hval0 hW hcnd hsz0 _
  have hval : ∀ (j : Nat) t v, Try.f7.params[j]? = some t → args[j]? = some v → Value.okWide Try.prog W .any base t v := hval0
  have hW' := hW
  obtain ⟨p, q, hA0, hV, rfl, hfz, hnd⟩ := hW
  have hA : DataW.TrodAll enc Try.prog W 0 (fun _ => true) true Try.f7.params.toList args.toList ds p := hA0
  rw [Try.params7] at hA hval
  obtain ⟨v0, vs0, d0, ds0, p0, q0, hargs, rfl, rfl, h0, r0⟩ := trodAll_cons hA
  obtain ⟨v1, vs1, d1, ds1, p1, q1, rfl, rfl, rfl, h1, r1⟩ := trodAll_cons r0
  obtain ⟨v2, vs2, d2, ds2, p2, q2, rfl, rfl, rfl, h2, r2⟩ := trodAll_cons r1
  obtain ⟨v3, vs3, d3, ds3, p3, q3, rfl, rfl, rfl, h3, r3⟩ := trodAll_cons r2
  obtain ⟨v4, vs4, d4, ds4, p4, q4, rfl, rfl, rfl, h4, r4⟩ := trodAll_cons r3
  obtain ⟨rfl, rfl, rfl⟩ := trodAll_nil r4
  obtain rfl : args = #[v0, v1, v2, v3, v4] := by cases args; simp_all
  obtain ⟨rfl, rfl⟩ := trodVars_none hV
  have k0 := h0
  have lt0 : ∀ x ∈ p0, x.block < W.heap.size := by obtain ⟨m, hm⟩ := k0; exact DataW.trod_lt m _ _ _ hm
  obtain ⟨a0, rfl, rfl, rfl, hw0⟩ := open_int Try.underlying3 (hval 0 3 v0 rfl rfl) h0
  have k1 := h1
  have lt1 : ∀ x ∈ p1, x.block < W.heap.size := by obtain ⟨m, hm⟩ := k1; exact DataW.trod_lt m _ _ _ hm
  obtain ⟨a1, rfl, rfl, rfl, hw1⟩ := open_int Try.underlying3 (hval 1 3 v1 rfl rfl) h1
  have k2 := h2
  have lt2 : ∀ x ∈ p2, x.block < W.heap.size := by obtain ⟨m, hm⟩ := k2; exact DataW.trod_lt m _ _ _ hm
  obtain ⟨a2, rfl, rfl, rfl, hw2⟩ := open_int Try.underlying3 (hval 2 3 v2 rfl rfl) h2
  have k3 := h3
  have lt3 : ∀ x ∈ p3, x.block < W.heap.size := by obtain ⟨m, hm⟩ := k3; exact DataW.trod_lt m _ _ _ hm
  obtain ⟨a3, rfl, rfl, rfl, hw3⟩ := open_int Try.underlying3 (hval 3 3 v3 rfl rfl) h3
  have k4 := h4
  have lt4 : ∀ x ∈ p4, x.block < W.heap.size := by obtain ⟨m, hm⟩ := k4; exact DataW.trod_lt m _ _ _ hm
  obtain ⟨a4, rfl, rfl, rfl, hw4⟩ := open_int Try.underlying3 (hval 4 3 v4 rfl rfl) h4
  clear hA0 hval0 hsz0
  obtain ⟨k, hk⟩ := SheetPlaces a0 a1 a2 a3 a4 hw0 hw1 hw2 hw3 hw4
  refine (papermilllaw52_SheetPlaces.calls k a0 a1 a2 a3 a4 true W  hk).mono fun e W' he => ?_
  obtain ⟨he, bel⟩ := he
  subst he
  exact ⟨_, rfl, _, _, _, [], _, [], hW', trodAll_mk1 (shut_bool Try.underlying4 _), (trodAll_cons_mk (Below.trod laidOut (by kernel_rfl) (of_decide_eq_true (by kernel_rfl)) k0 bel lt0) (trodAll_cons_mk (Below.trod laidOut (by kernel_rfl) (of_decide_eq_true (by kernel_rfl)) k1 bel lt1) (trodAll_cons_mk (Below.trod laidOut (by kernel_rfl) (of_decide_eq_true (by kernel_rfl)) k2 bel lt2) (trodAll_cons_mk (Below.trod laidOut (by kernel_rfl) (of_decide_eq_true (by kernel_rfl)) k3 bel lt3) (trodAll_cons_mk (Below.trod laidOut (by kernel_rfl) (of_decide_eq_true (by kernel_rfl)) k4 bel lt4) trodAll_mk0))))), rfl, bel.frame _, fun h => by cases h⟩
theorem over : Rows.sheetPlacesRow.holds Try.pinned (OpenSpec.ofChange Rows.sheetPlacesSpec) :=
  OpenClaim.holds_of_wide 7 Try.f7 rfl rfl rfl rfl rfl rfl rfl ⟨rfl, rfl, rfl, rfl, rfl⟩ rfl rfl rfl rfl rfl (by kernel_rfl) Try.func7 (by kernel_rfl)
    (of_decide_eq_true (by kernel_rfl)) (by unfold Func.isWrapper; first | (rw [if_pos (by decide +kernel)]; kernel_rfl) | (rw [if_neg (by decide +kernel)]; exact ⟨rfl, rfl⟩))
    (fun os started H enc _ => lifted os started H enc)
theorem proved : Rows.SheetPlacesSaid := over
#print axioms proved
end Go.Proofs.Ytnfcpcgbdoiiiaa.sheetPlaces
namespace Go.Proofs.Ytnfcpcgbdoiiiaa
/-- The row, under a short name, for the claim. -/
theorem sheetPlaces_holds : Rows.SheetPlacesSaid := sheetPlaces.proved
end Go.Proofs.Ytnfcpcgbdoiiiaa
