/- The law SheetBad: whatever it is handed, it returns true, and what it is handed reads as before. No conditions. -/
import Derived.Test.YtnfcpcgbdoiiiaaM1
import Derived.Test.YtnfcpcgbdoiiiaaM3
import Derived.Test.YtnfcpcgbdoiiiaaM4
import Derived.Test.YtnfcpcgbdoiiiaaM5
import Derived.Test.YtnfcpcgbdoiiiaaM7
import Derived.Test.YtnfcpcgbdoiiiaaRows
import Derived.WalkKit
import Derived.ProofKit
import Derived.OpenShut
import Derived.ShutString
import Derived.ChangeOld
import Derived.Below
import Derived.SizedLaws
namespace Go.Proofs.Ytnfcpcgbdoiiiaa.G
open Go.RowKit Go.Proofs.YtnfcpcgbdoiiiaaW.PrintWords Go.Proofs.YtnfcpcgbdoiiiaaW.PrintLast Go.Proofs.YtnfcpcgbdoiiiaaW.PrintMore
attribute [local go_sem] max2_int min2_int max_two min_two max_three min_three max_four min_four   -- for this text's walks alone
set_option linter.unusedVariables false
set_option linter.unusedSimpArgs false

/-! ### papermilllaw52_SheetBad: function 8 -/
mutual
def papermilllaw52_SheetBad.j0 : Nat → Int → Int → List (S50) → Int → Bool → Option (Bool)
 | 0, _, _, _, _, _ => none
 | k + 1, x0, x1, x2, x3, x19 => if x19 = true then ((papermilllaw52_awake.f).bind fun t9001 => (some t9001)) else ((sheet_Cut.f k x0 x1 x2).bind fun bt9002 => (if bt9002.2.2.2 = 0 then (if x1 < 1 then (papermilllaw52_SheetBad.j1 k x0 x1 x2 x3 true bt9002.1 bt9002.2.1 bt9002.2.2.1) else (if x0 < 0 then (papermilllaw52_SheetBad.j1 k x0 x1 x2 x3 true bt9002.1 bt9002.2.1 bt9002.2.2.1) else (if x0 > 17179869184 then (papermilllaw52_SheetBad.j1 k x0 x1 x2 x3 true bt9002.1 bt9002.2.1 bt9002.2.2.1) else (if x1 = 0 then (none) else (if bt9002.1 = (wrap64 (Int.tdiv x0 x1)) then (papermilllaw52_SheetBad.j1 k x0 x1 x2 x3 (bt9002.2.2.1 != (Int.tmod x0 x1)) bt9002.1 bt9002.2.1 bt9002.2.2.1) else (papermilllaw52_SheetBad.j1 k x0 x1 x2 x3 true bt9002.1 bt9002.2.1 bt9002.2.2.1)))))) else (if bt9002.1 = 0 then (if (bt9002.2.1.length : Int) = 0 then (if bt9002.2.2.1 = 0 then ((papermilllaw52_awake.f).bind fun t9009 => (some t9009)) else (some false)) else (some false)) else (some false))))
def papermilllaw52_SheetBad.j1 : Nat → Int → Int → List (S50) → Int → Bool → Int → List (S50) → Int → Option (Bool)
 | 0, _, _, _, _, _, _, _, _ => none
 | k + 1, x0, x1, x2, x3, x72, x9009000, x9009001, x9009002 => if x72 = true then (some false) else (if x3 < 0 then (papermilllaw52_SheetBad.j2 k x0 x1 x2 x3 true x9009000 x9009001 x9009002) else (papermilllaw52_SheetBad.j2 k x0 x1 x2 x3 (decide (x3 ≥ x9009000)) x9009000 x9009001 x9009002))
def papermilllaw52_SheetBad.j2 : Nat → Int → Int → List (S50) → Int → Bool → Int → List (S50) → Int → Option (Bool)
 | 0, _, _, _, _, _, _, _, _ => none
 | k + 1, x0, x1, x2, x3, x80, x9009000, x9009001, x9009002 => if x80 = true then ((papermillref04_Has.f k x9009001 x3).bind fun t9010 => (if t9010 = true then (some false) else ((papermilllaw52_awake.f).bind fun t9011 => (some t9011)))) else (papermilllaw52_SheetBad.l0 k x0 x1 x2 x3 true (wrap64 (x0 - (wrap64 ((wrap64 (x3 + 1)) * x1)))) x9009000 x9009001 x9009002)
def papermilllaw52_SheetBad.l0 : Nat → Int → Int → List (S50) → Int → Bool → Int → Int → List (S50) → Int → Option (Bool)
 | 0, _, _, _, _, _, _, _, _, _ => none
 | k + 1, x0, x1, x2, x3, x11, x12, x9009000, x9009001, x9009002 => if x12 < (wrap64 (x0 - (wrap64 (x3 * x1)))) then (if x11 = true then ((papermillref04_Has.f k x2 x12).bind fun t9012 => (papermilllaw52_SheetBad.l0 k x0 x1 x2 x3 (!t9012) (wrap64 (x12 + 1)) x9009000 x9009001 x9009002)) else (papermilllaw52_SheetBad.l0 k x0 x1 x2 x3 false (wrap64 (x12 + 1)) x9009000 x9009001 x9009002)) else ((papermillref04_Has.f k x9009001 x3).bind fun t9013 => (if (t9013 == x11) = true then ((papermilllaw52_awake.f).bind fun t9014 => (some t9014)) else (some false)))
end
def papermilllaw52_SheetBad.f (k : Nat) (a0 : Int) (a1 : Int) (l2 : List (S50)) (a3 : Int) : Option (Bool) := if (l2.length : Int) > 300 then (papermilllaw52_SheetBad.j0 k a0 a1 l2 a3 true) else (papermilllaw52_SheetBad.j0 k a0 a1 l2 a3 (decide (a1 > 60)))
theorem papermilllaw52_SheetBad.mono_l : ∀ k, (∀ y0 y1 y2 y3 y4, LeO (papermilllaw52_SheetBad.j0 k y0 y1 y2 y3 y4) (papermilllaw52_SheetBad.j0 (k + 1) y0 y1 y2 y3 y4)) ∧ (∀ y0 y1 y2 y3 y4 y5 y6 y7, LeO (papermilllaw52_SheetBad.j1 k y0 y1 y2 y3 y4 y5 y6 y7) (papermilllaw52_SheetBad.j1 (k + 1) y0 y1 y2 y3 y4 y5 y6 y7)) ∧ (∀ y0 y1 y2 y3 y4 y5 y6 y7, LeO (papermilllaw52_SheetBad.j2 k y0 y1 y2 y3 y4 y5 y6 y7) (papermilllaw52_SheetBad.j2 (k + 1) y0 y1 y2 y3 y4 y5 y6 y7)) ∧ (∀ y0 y1 y2 y3 y4 y5 y6 y7 y8, LeO (papermilllaw52_SheetBad.l0 k y0 y1 y2 y3 y4 y5 y6 y7 y8) (papermilllaw52_SheetBad.l0 (k + 1) y0 y1 y2 y3 y4 y5 y6 y7 y8))
 | 0 => ⟨fun _ _ _ _ _ r h => by simp [papermilllaw52_SheetBad.j0] at h, fun _ _ _ _ _ _ _ _ r h => by simp [papermilllaw52_SheetBad.j1] at h, fun _ _ _ _ _ _ _ _ r h => by simp [papermilllaw52_SheetBad.j2] at h, fun _ _ _ _ _ _ _ _ _ r h => by simp [papermilllaw52_SheetBad.l0] at h⟩
 | k + 1 => by
  obtain ⟨ih0, ih1, ih2, ih3⟩ := papermilllaw52_SheetBad.mono_l k
  refine ⟨?_, ?_, ?_, ?_⟩
  ·intro y0 y1 y2 y3 y4
   unfold papermilllaw52_SheetBad.j0
   repeat' first
   | (with_reducible exact ih0 _ _ _ _ _)
   | (with_reducible exact ih1 _ _ _ _ _ _ _ _)
   | (with_reducible exact ih2 _ _ _ _ _ _ _ _)
   | (with_reducible exact ih3 _ _ _ _ _ _ _ _ _)
   | (with_reducible exact papermillref04_Has.mono _ _ _)
   | (with_reducible exact sheet_Cut.mono _ _ _ _)
   | (with_reducible exact LeO.refl _)
   | (with_reducible exact LeO.none _)
   | (with_reducible refine LeO.ite ?_ ?_)
   | (with_reducible refine LeO.bind ?_ (fun _ => ?_))
   | exact ih0 _ _ _ _ _
   | exact ih1 _ _ _ _ _ _ _ _
   | exact ih2 _ _ _ _ _ _ _ _
   | exact ih3 _ _ _ _ _ _ _ _ _
   | exact papermillref04_Has.mono _ _ _
   | exact sheet_Cut.mono _ _ _ _
   | exact LeO.none _
   | refine LeO.ite ?_ ?_
   | refine LeO.bind ?_ (fun _ => ?_)
  ·intro y0 y1 y2 y3 y4 y5 y6 y7
   unfold papermilllaw52_SheetBad.j1
   repeat' first
   | (with_reducible exact ih0 _ _ _ _ _)
   | (with_reducible exact ih1 _ _ _ _ _ _ _ _)
   | (with_reducible exact ih2 _ _ _ _ _ _ _ _)
   | (with_reducible exact ih3 _ _ _ _ _ _ _ _ _)
   | (with_reducible exact papermillref04_Has.mono _ _ _)
   | (with_reducible exact sheet_Cut.mono _ _ _ _)
   | (with_reducible exact LeO.refl _)
   | (with_reducible exact LeO.none _)
   | (with_reducible refine LeO.ite ?_ ?_)
   | (with_reducible refine LeO.bind ?_ (fun _ => ?_))
   | exact ih0 _ _ _ _ _
   | exact ih1 _ _ _ _ _ _ _ _
   | exact ih2 _ _ _ _ _ _ _ _
   | exact ih3 _ _ _ _ _ _ _ _ _
   | exact papermillref04_Has.mono _ _ _
   | exact sheet_Cut.mono _ _ _ _
   | exact LeO.none _
   | refine LeO.ite ?_ ?_
   | refine LeO.bind ?_ (fun _ => ?_)
  ·intro y0 y1 y2 y3 y4 y5 y6 y7
   unfold papermilllaw52_SheetBad.j2
   repeat' first
   | (with_reducible exact ih0 _ _ _ _ _)
   | (with_reducible exact ih1 _ _ _ _ _ _ _ _)
   | (with_reducible exact ih2 _ _ _ _ _ _ _ _)
   | (with_reducible exact ih3 _ _ _ _ _ _ _ _ _)
   | (with_reducible exact papermillref04_Has.mono _ _ _)
   | (with_reducible exact sheet_Cut.mono _ _ _ _)
   | (with_reducible exact LeO.refl _)
   | (with_reducible exact LeO.none _)
   | (with_reducible refine LeO.ite ?_ ?_)
   | (with_reducible refine LeO.bind ?_ (fun _ => ?_))
   | exact ih0 _ _ _ _ _
   | exact ih1 _ _ _ _ _ _ _ _
   | exact ih2 _ _ _ _ _ _ _ _
   | exact ih3 _ _ _ _ _ _ _ _ _
   | exact papermillref04_Has.mono _ _ _
   | exact sheet_Cut.mono _ _ _ _
   | exact LeO.none _
   | refine LeO.ite ?_ ?_
   | refine LeO.bind ?_ (fun _ => ?_)
  ·intro y0 y1 y2 y3 y4 y5 y6 y7 y8
   unfold papermilllaw52_SheetBad.l0
   repeat' first
   | (with_reducible exact ih0 _ _ _ _ _)
   | (with_reducible exact ih1 _ _ _ _ _ _ _ _)
   | (with_reducible exact ih2 _ _ _ _ _ _ _ _)
   | (with_reducible exact ih3 _ _ _ _ _ _ _ _ _)
   | (with_reducible exact papermillref04_Has.mono _ _ _)
   | (with_reducible exact sheet_Cut.mono _ _ _ _)
   | (with_reducible exact LeO.refl _)
   | (with_reducible exact LeO.none _)
   | (with_reducible refine LeO.ite ?_ ?_)
   | (with_reducible refine LeO.bind ?_ (fun _ => ?_))
   | exact ih0 _ _ _ _ _
   | exact ih1 _ _ _ _ _ _ _ _
   | exact ih2 _ _ _ _ _ _ _ _
   | exact ih3 _ _ _ _ _ _ _ _ _
   | exact papermillref04_Has.mono _ _ _
   | exact sheet_Cut.mono _ _ _ _
   | exact LeO.none _
   | refine LeO.ite ?_ ?_
   | refine LeO.bind ?_ (fun _ => ?_)
theorem papermilllaw52_SheetBad.mono : ∀ a0 a1 a2 a3 k, LeO (papermilllaw52_SheetBad.f k a0 a1 a2 a3) (papermilllaw52_SheetBad.f (k + 1) a0 a1 a2 a3) := by
 intro a0 a1 a2 a3 k
 obtain ⟨ih0, ih1, ih2, ih3⟩ := papermilllaw52_SheetBad.mono_l k
 unfold papermilllaw52_SheetBad.f
 repeat' first
   | (with_reducible exact ih0 _ _ _ _ _)
   | (with_reducible exact ih1 _ _ _ _ _ _ _ _)
   | (with_reducible exact ih2 _ _ _ _ _ _ _ _)
   | (with_reducible exact ih3 _ _ _ _ _ _ _ _ _)
   | (with_reducible exact papermillref04_Has.mono _ _ _)
   | (with_reducible exact sheet_Cut.mono _ _ _ _)
   | (with_reducible exact LeO.refl _)
   | (with_reducible exact LeO.none _)
   | (with_reducible refine LeO.ite ?_ ?_)
   | (with_reducible refine LeO.bind ?_ (fun _ => ?_))
   | exact ih0 _ _ _ _ _
   | exact ih1 _ _ _ _ _ _ _ _
   | exact ih2 _ _ _ _ _ _ _ _
   | exact ih3 _ _ _ _ _ _ _ _ _
   | exact papermillref04_Has.mono _ _ _
   | exact sheet_Cut.mono _ _ _ _
   | exact LeO.none _
   | refine LeO.ite ?_ ?_
   | refine LeO.bind ?_ (fun _ => ?_)
set_option maxHeartbeats 8000000 in
set_option maxRecDepth 100000 in
theorem papermilllaw52_SheetBad.calls (k : Nat) (a0 : Int) (a1 : Int) (A2 : Option Addr) (c2 : Nat) (l2 : List (S50)) (a3 : Int) (r : Bool) (w : World) (hr2 : Kd.C k50 w A2 l2.length l2) (hc2 : l2.length ≤ c2) (h : papermilllaw52_SheetBad.f k a0 a1 l2 a3 = some r) :
  Calls Try.prog 8 #[.int .i64 a0, .int .i64 a1, .slice A2 l2.length c2, .int .i64 a3] w fun e w' => e = .returned (.bool r) ∧ Below w.heap.size w w' := by
 have hu25 := Try.underlying25
 have HR2 := Aside0.mk hr2
 have HC2 := Aside0.mk hc2
 clear hr2 hc2
 have HB := Aside0.mk (Below.refl w.heap.size w)
 have H : (if (l2.length : Int) > 300 then (papermilllaw52_SheetBad.j0 k a0 a1 l2 a3 true) else (papermilllaw52_SheetBad.j0 k a0 a1 l2 a3 (decide (a1 > 60)))) = some r := h
 clear h
 have HC5 := Aside0.mk H
 clear H
 go_enter Try.func8, Try.ntmps8
 go_upto_region 1 with (fail)
 repeat (go_quiet (fail); go_upto_region 1 with (fail))
 go_cut [19] (fun v19 wc => ∃ (kq : Nat) (x19_4 : Bool), v19 = .bool x19_4 ∧ Aside0 (papermilllaw52_SheetBad.j0 kq a0 a1 l2 a3 x19_4 = some r) ∧ Aside0 (kq ≤ k) ∧ Aside0 (Below w.heap.size w wc))
 case first =>
  have H := HC5.out
  clear HC5
  by_cases c6 : (l2.length : Int) > 300
  ·rw [if_pos c6] at H
   have c6b0 : decide (300 < (l2.length : Int)) = true := decide_eq_true c6
   have c6b1 : decide (300 < l2.length) = true := decide_eq_true (by omega)
   clear c6
   (first | rw [c6b0] | (simp only [i64_w, i32_w]; rw [c6b0]) | skip)
   have H' := Aside0.mk H
   clear H
   go_wp2
   repeat (go_quiet (fail); try go_wp2)
   go_meet
   case rel => exact ⟨_, (true), (by first | rfl | (simp; done) | (simp [*]; done)), H', ⟨by first | omega | exact Nat.le_refl _⟩, ⟨by repeat (first | (with_reducible first | exact HB.out | apply below_alloc | apply pw_below_drewN | apply below_drew1) | exact HB.out)⟩⟩
  ·rw [if_neg c6] at H
   have c6b0 : decide (300 < (l2.length : Int)) = false := decide_eq_false c6
   have c6b1 : decide (300 < l2.length) = false := decide_eq_false (by omega)
   clear c6
   (first | rw [c6b0] | (simp only [i64_w, i32_w]; rw [c6b0]) | skip)
   have H' := Aside0.mk H
   clear H
   go_wp2
   repeat (go_quiet (fail); try go_wp2)
   go_meet
   case rel => exact ⟨_, (decide (a1 > 60)), (by first | rfl | (simp; done) | (simp [*]; done)), H', ⟨by first | omega | exact Nat.le_refl _⟩, ⟨by repeat (first | (with_reducible first | exact HB.out | apply below_alloc | apply pw_below_drewN | apply below_drew1) | exact HB.out)⟩⟩
 case rest =>
  clear HC5
  try clear c2
  try clear p2
  try clear c6
  try clear c6b0
  try clear c6b1
  obtain ⟨kq, x19_4, rfl, HA, HJ4, HB⟩ := hcut
  cases kq with
  | zero => exact absurd HA.out (by simp [papermilllaw52_SheetBad.j0])
  | succ kj4 =>
   have H := HA.out
   clear HA
   simp only [papermilllaw52_SheetBad.j0] at H
   by_cases c7 : x19_4 = true
   ·subst c7
    have H1 : ((papermilllaw52_awake.f).bind fun t9001 => (some t9001)) = some r := by rw [if_pos rfl] at H; exact H
    clear H
    have H := H1
    clear H1
    replace H := Option.bind_eq_some_iff.mp H
    obtain ⟨t9001, A80, H⟩ := H
    replace H : (some t9001) = some r := H
    have A8 := Aside0.mk A80
    clear A80
    obtain rfl := Option.some.inj H
    go_wp2_with (first | (go_at_call 12; (with_reducible refine (papermilllaw52_awake.calls  t9001 _ A8.out).mono ?_); rintro e w9 ⟨rfl, hb⟩; have n0_ := Aside0.mk (below_step (by repeat (first | (with_reducible first | exact HB.out | apply below_alloc | apply pw_below_drewN | apply below_drew1) | exact HB.out)) hb); clear HB; have HB := n0_; clear n0_; (try clear hb); (try clear hb2); (try clear hk); (try clear hi)))
    repeat (go_quiet (first | (go_at_call 12; (with_reducible refine (papermilllaw52_awake.calls  t9001 _ A8.out).mono ?_); rintro e w9 ⟨rfl, hb⟩; have n0_ := Aside0.mk (below_step (by repeat (first | (with_reducible first | exact HB.out | apply below_alloc | apply pw_below_drewN | apply below_drew1) | exact HB.out)) hb); clear HB; have HB := n0_; clear n0_; (try clear hb); (try clear hb2); (try clear hk); (try clear hi))); try go_wp2_with (first | (go_at_call 12; (with_reducible refine (papermilllaw52_awake.calls  t9001 _ A8.out).mono ?_); rintro e w9 ⟨rfl, hb⟩; have n0_ := Aside0.mk (below_step (by repeat (first | (with_reducible first | exact HB.out | apply below_alloc | apply pw_below_drewN | apply below_drew1) | exact HB.out)) hb); clear HB; have HB := n0_; clear n0_; (try clear hb); (try clear hb2); (try clear hk); (try clear hi))))
    go_ret
    exact ⟨by first | rfl | (simp [errW_none, errW_some] <;> rfl) | (simp [*, errW_none, errW_some] <;> rfl), by repeat (first | (with_reducible first | exact HB.out | apply below_alloc | apply pw_below_drewN | apply below_drew1) | exact HB.out)⟩
   ·replace c7 := Bool.eq_false_iff.mpr c7
    subst c7
    have H1 : ((sheet_Cut.f kj4 a0 a1 l2).bind fun bt9002 => (if bt9002.2.2.2 = 0 then (if a1 < 1 then (papermilllaw52_SheetBad.j1 kj4 a0 a1 l2 a3 true bt9002.1 bt9002.2.1 bt9002.2.2.1) else (if a0 < 0 then (papermilllaw52_SheetBad.j1 kj4 a0 a1 l2 a3 true bt9002.1 bt9002.2.1 bt9002.2.2.1) else (if a0 > 17179869184 then (papermilllaw52_SheetBad.j1 kj4 a0 a1 l2 a3 true bt9002.1 bt9002.2.1 bt9002.2.2.1) else (if a1 = 0 then (none) else (if bt9002.1 = (wrap64 (Int.tdiv a0 a1)) then (papermilllaw52_SheetBad.j1 kj4 a0 a1 l2 a3 (bt9002.2.2.1 != (Int.tmod a0 a1)) bt9002.1 bt9002.2.1 bt9002.2.2.1) else (papermilllaw52_SheetBad.j1 kj4 a0 a1 l2 a3 true bt9002.1 bt9002.2.1 bt9002.2.2.1)))))) else (if bt9002.1 = 0 then (if (bt9002.2.1.length : Int) = 0 then (if bt9002.2.2.1 = 0 then ((papermilllaw52_awake.f).bind fun t9009 => (some t9009)) else (some false)) else (some false)) else (some false)))) = some r := by rw [if_neg (show ¬ (false = true) by decide)] at H; exact H
    clear H
    have H := H1
    clear H1
    replace H := Option.bind_eq_some_iff.mp H
    obtain ⟨⟨t9002, t9003, t9006, t9007⟩, A100, H⟩ := H
    replace H : (if t9007 = 0 then (if a1 < 1 then (papermilllaw52_SheetBad.j1 kj4 a0 a1 l2 a3 true t9002 t9003 t9006) else (if a0 < 0 then (papermilllaw52_SheetBad.j1 kj4 a0 a1 l2 a3 true t9002 t9003 t9006) else (if a0 > 17179869184 then (papermilllaw52_SheetBad.j1 kj4 a0 a1 l2 a3 true t9002 t9003 t9006) else (if a1 = 0 then (none) else (if t9002 = (wrap64 (Int.tdiv a0 a1)) then (papermilllaw52_SheetBad.j1 kj4 a0 a1 l2 a3 (t9006 != (Int.tmod a0 a1)) t9002 t9003 t9006) else (papermilllaw52_SheetBad.j1 kj4 a0 a1 l2 a3 true t9002 t9003 t9006)))))) else (if t9002 = 0 then (if (t9003.length : Int) = 0 then (if t9006 = 0 then ((papermilllaw52_awake.f).bind fun t9009 => (some t9009)) else (some false)) else (some false)) else (some false))) = some r := H
    have A10 := Aside0.mk A100
    clear A100
    by_cases c11 : t9007 = 0
    ·rw [if_pos c11] at H
     have c11b0 : (t9007 == 0) = true := beq_iff_eq.mpr c11
     have c11b1 : (t9007 != 0) = false := bne_eq_false_iff_eq.mpr c11
     clear c11
     have HC12 := Aside0.mk H
     clear H
     go_upto_region 6 with (first | (go_at_call 13; (with_reducible refine (sheet_Cut.calls kj4 a0 a1 _ _ l2 t9002 t9003 t9006 t9007 _ ?side1 ?side2 A10.out).mono ?_); (case side1 => repeat (first | exact (Kd.C_below HR2.out HB.out) | (with_reducible refine Kd.C_alloc ?_ _) | (with_reducible refine Kd.C_drewN ?_ _) | (with_reducible refine Kd.C_drew ?_))); (case side2 => exact HC2.out); rintro e w13 ⟨v9004, rfl, ho0, hb⟩; have n0_ := Aside0.mk (Kd.R_lower ho0 (below_size (by repeat (first | (with_reducible first | exact HB.out | apply below_alloc | apply pw_below_drewN | apply below_drew1) | exact HB.out)))); have n1_ := Aside0.mk (below_step (by repeat (first | (with_reducible first | exact HB.out | apply below_alloc | apply pw_below_drewN | apply below_drew1) | exact HB.out)) hb); clear HB; have HO9005 := n0_; have HB := n1_; clear n0_ n1_; (try clear hb); (try clear hb2); (try clear hk); (try clear hi); (try clear ho0)) | ((with_reducible refine gate_dst (N := 9) rfl ?_); (try (refine gate_guard (by rfl) ?_; dsimp only)); refine box_event ?hg (N := 9) ?hd (cs := #[.int .i64 0, .slice none 0 0, .int .i64 0]) (t := 25) ?hr ?_; (case hd => rfl); (case hg => rfl); (case hr => first | (go_simp; done) | (go_simp; rfl)); intro gb9008 hg w14 hbox hb; have n0_ := Aside0.mk (Kd.R_below (by (with_reducible repeat (first | apply Kd.R_alloc | apply Kd.R_drewN | apply Kd.R_drew)); exact HO9005.out) hb); have n1_ := Aside0.mk (below_step (by repeat (first | (with_reducible first | exact HB.out | apply below_alloc | apply pw_below_drewN | apply below_drew1) | exact HB.out)) hb); have n2_ := Aside0.mk (hbox); have n3_ := Aside0.mk ((by rw [hg]; exact (below_size (by repeat (first | (with_reducible first | exact HB.out | apply below_alloc | apply pw_below_drewN | apply below_drew1) | exact HB.out))) : w.heap.size ≤ gb9008)); have n4_ := Aside0.mk ((by rw [hg]; exact (below_size (by repeat (first | (with_reducible first | exact HB.out | apply below_alloc | apply pw_below_drewN | apply below_drew1) | exact HB.out))) : w.heap.size ≤ gb9008)); clear HO9005; clear HB; have HO9005 := n0_; have HB := n1_; have BK9008 := n2_; have GW9008 := n3_; have GE9008 := n4_; clear n0_ n1_ n2_ n3_ n4_; clear hb hbox hg; have hcz15_0 : w14.cell? ⟨gb9008, 0, none⟩ = some (.int .i64 0) := (blk_cell BK9008.out 0).trans rfl; have hcz15_1 : w14.cell? ⟨gb9008, 1, none⟩ = some (.slice none 0 0) := (blk_cell BK9008.out 1).trans rfl; have hcz15_2 : w14.cell? ⟨gb9008, 2, none⟩ = some (.int .i64 0) := (blk_cell BK9008.out 2).trans rfl; have hfz15_0 := blk_frozen BK9008.out 0; have hfz15_1 := blk_frozen BK9008.out 1; have hfz15_2 := blk_frozen BK9008.out 2; obtain ⟨Ao16, co16, eo16⟩ := Kd.R_slice HO9005.out; subst eo16))
     repeat (go_quiet (first | (go_at_call 13; (with_reducible refine (sheet_Cut.calls kj4 a0 a1 _ _ l2 t9002 t9003 t9006 t9007 _ ?side1 ?side2 A10.out).mono ?_); (case side1 => repeat (first | exact (Kd.C_below HR2.out HB.out) | (with_reducible refine Kd.C_alloc ?_ _) | (with_reducible refine Kd.C_drewN ?_ _) | (with_reducible refine Kd.C_drew ?_))); (case side2 => exact HC2.out); rintro e w13 ⟨v9004, rfl, ho0, hb⟩; have n0_ := Aside0.mk (Kd.R_lower ho0 (below_size (by repeat (first | (with_reducible first | exact HB.out | apply below_alloc | apply pw_below_drewN | apply below_drew1) | exact HB.out)))); have n1_ := Aside0.mk (below_step (by repeat (first | (with_reducible first | exact HB.out | apply below_alloc | apply pw_below_drewN | apply below_drew1) | exact HB.out)) hb); clear HB; have HO9005 := n0_; have HB := n1_; clear n0_ n1_; (try clear hb); (try clear hb2); (try clear hk); (try clear hi); (try clear ho0)) | ((with_reducible refine gate_dst (N := 9) rfl ?_); (try (refine gate_guard (by rfl) ?_; dsimp only)); refine box_event ?hg (N := 9) ?hd (cs := #[.int .i64 0, .slice none 0 0, .int .i64 0]) (t := 25) ?hr ?_; (case hd => rfl); (case hg => rfl); (case hr => first | (go_simp; done) | (go_simp; rfl)); intro gb9008 hg w14 hbox hb; have n0_ := Aside0.mk (Kd.R_below (by (with_reducible repeat (first | apply Kd.R_alloc | apply Kd.R_drewN | apply Kd.R_drew)); exact HO9005.out) hb); have n1_ := Aside0.mk (below_step (by repeat (first | (with_reducible first | exact HB.out | apply below_alloc | apply pw_below_drewN | apply below_drew1) | exact HB.out)) hb); have n2_ := Aside0.mk (hbox); have n3_ := Aside0.mk ((by rw [hg]; exact (below_size (by repeat (first | (with_reducible first | exact HB.out | apply below_alloc | apply pw_below_drewN | apply below_drew1) | exact HB.out))) : w.heap.size ≤ gb9008)); have n4_ := Aside0.mk ((by rw [hg]; exact (below_size (by repeat (first | (with_reducible first | exact HB.out | apply below_alloc | apply pw_below_drewN | apply below_drew1) | exact HB.out))) : w.heap.size ≤ gb9008)); clear HO9005; clear HB; have HO9005 := n0_; have HB := n1_; have BK9008 := n2_; have GW9008 := n3_; have GE9008 := n4_; clear n0_ n1_ n2_ n3_ n4_; clear hb hbox hg; have hcz15_0 : w14.cell? ⟨gb9008, 0, none⟩ = some (.int .i64 0) := (blk_cell BK9008.out 0).trans rfl; have hcz15_1 : w14.cell? ⟨gb9008, 1, none⟩ = some (.slice none 0 0) := (blk_cell BK9008.out 1).trans rfl; have hcz15_2 : w14.cell? ⟨gb9008, 2, none⟩ = some (.int .i64 0) := (blk_cell BK9008.out 2).trans rfl; have hfz15_0 := blk_frozen BK9008.out 0; have hfz15_1 := blk_frozen BK9008.out 1; have hfz15_2 := blk_frozen BK9008.out 2; obtain ⟨Ao16, co16, eo16⟩ := Kd.R_slice HO9005.out; subst eo16)); go_upto_region 6 with (first | (go_at_call 13; (with_reducible refine (sheet_Cut.calls kj4 a0 a1 _ _ l2 t9002 t9003 t9006 t9007 _ ?side1 ?side2 A10.out).mono ?_); (case side1 => repeat (first | exact (Kd.C_below HR2.out HB.out) | (with_reducible refine Kd.C_alloc ?_ _) | (with_reducible refine Kd.C_drewN ?_ _) | (with_reducible refine Kd.C_drew ?_))); (case side2 => exact HC2.out); rintro e w13 ⟨v9004, rfl, ho0, hb⟩; have n0_ := Aside0.mk (Kd.R_lower ho0 (below_size (by repeat (first | (with_reducible first | exact HB.out | apply below_alloc | apply pw_below_drewN | apply below_drew1) | exact HB.out)))); have n1_ := Aside0.mk (below_step (by repeat (first | (with_reducible first | exact HB.out | apply below_alloc | apply pw_below_drewN | apply below_drew1) | exact HB.out)) hb); clear HB; have HO9005 := n0_; have HB := n1_; clear n0_ n1_; (try clear hb); (try clear hb2); (try clear hk); (try clear hi); (try clear ho0)) | ((with_reducible refine gate_dst (N := 9) rfl ?_); (try (refine gate_guard (by rfl) ?_; dsimp only)); refine box_event ?hg (N := 9) ?hd (cs := #[.int .i64 0, .slice none 0 0, .int .i64 0]) (t := 25) ?hr ?_; (case hd => rfl); (case hg => rfl); (case hr => first | (go_simp; done) | (go_simp; rfl)); intro gb9008 hg w14 hbox hb; have n0_ := Aside0.mk (Kd.R_below (by (with_reducible repeat (first | apply Kd.R_alloc | apply Kd.R_drewN | apply Kd.R_drew)); exact HO9005.out) hb); have n1_ := Aside0.mk (below_step (by repeat (first | (with_reducible first | exact HB.out | apply below_alloc | apply pw_below_drewN | apply below_drew1) | exact HB.out)) hb); have n2_ := Aside0.mk (hbox); have n3_ := Aside0.mk ((by rw [hg]; exact (below_size (by repeat (first | (with_reducible first | exact HB.out | apply below_alloc | apply pw_below_drewN | apply below_drew1) | exact HB.out))) : w.heap.size ≤ gb9008)); have n4_ := Aside0.mk ((by rw [hg]; exact (below_size (by repeat (first | (with_reducible first | exact HB.out | apply below_alloc | apply pw_below_drewN | apply below_drew1) | exact HB.out))) : w.heap.size ≤ gb9008)); clear HO9005; clear HB; have HO9005 := n0_; have HB := n1_; have BK9008 := n2_; have GW9008 := n3_; have GE9008 := n4_; clear n0_ n1_ n2_ n3_ n4_; clear hb hbox hg; have hcz15_0 : w14.cell? ⟨gb9008, 0, none⟩ = some (.int .i64 0) := (blk_cell BK9008.out 0).trans rfl; have hcz15_1 : w14.cell? ⟨gb9008, 1, none⟩ = some (.slice none 0 0) := (blk_cell BK9008.out 1).trans rfl; have hcz15_2 : w14.cell? ⟨gb9008, 2, none⟩ = some (.int .i64 0) := (blk_cell BK9008.out 2).trans rfl; have hfz15_0 := blk_frozen BK9008.out 0; have hfz15_1 := blk_frozen BK9008.out 1; have hfz15_2 := blk_frozen BK9008.out 2; obtain ⟨Ao16, co16, eo16⟩ := Kd.R_slice HO9005.out; subst eo16)))
     (try simp only [Act.put, List.setIfInBounds_toArray, List.set_cons_zero, List.set_cons_succ])
     go_cut [72] (fun v72 wc => ∃ (kq : Nat) (x72_11 : Bool), v72 = .bool x72_11 ∧ Aside0 (papermilllaw52_SheetBad.j1 kq a0 a1 l2 a3 x72_11 t9002 t9003 t9006 = some r) ∧ Aside0 (kq ≤ kj4) ∧ Aside0 (Kd.R k50 50 wc w.heap.size (fun _ => True) (.slice Ao16 t9003.length co16) t9003) ∧ Aside0 (wc.heap[gb9008]? = some (.cells #[.int .i64 t9002, (.slice Ao16 t9003.length co16), .int .i64 t9006] 25 (0, 0))) ∧ Aside0 (Below w.heap.size w wc))
     case first =>
      have H := HC12.out
      clear HC12
      by_cases c17 : a1 < 1
      ·rw [if_pos c17] at H
       have c17b0 : decide (a1 < 1) = true := decide_eq_true c17
       clear c17
       (first | rw [c17b0] | (simp only [i64_w, i32_w]; rw [c17b0]) | skip)
       have H' := Aside0.mk H
       clear H
       go_wp2
       repeat (go_quiet (fail); try go_wp2)
       go_meet
       case rel => exact ⟨_, (true), (by first | rfl | (simp; done) | (simp [*]; done)), H', ⟨by have := HJ4.out; first | omega | exact Nat.le_refl _⟩, ⟨by (with_reducible repeat (first | apply Kd.R_alloc | apply Kd.R_drewN | apply Kd.R_drew)); exact Kd.R_mono (Kd.R_far (p := ⟨gb9008, 2, none⟩) (Kd.R_far (p := ⟨gb9008, 1, none⟩) (Kd.R_far (p := ⟨gb9008, 0, none⟩) (Kd.R_types HO9005.out BK9008.out (by decide)) (fun _ hk => hk.2) (.int .i64 t9002)) (fun _ hk => hk.2) (.slice Ao16 t9003.length co16)) (fun _ hk => hk.2) (.int .i64 t9006)) (fun _ hk => trivial)⟩, ⟨by (with_reducible repeat (first | refine blk_drewN ?_ _ | refine blk_drew ?_ | refine blk_alloc ?_ _)); refine blk_put (cs := #[.int .i64 t9002, .slice Ao16 t9003.length co16, .int .i64 0]) ?_ 2 _ rfl; (with_reducible repeat (first | refine blk_drewN ?_ _ | refine blk_drew ?_ | refine blk_alloc ?_ _)); refine blk_put (cs := #[.int .i64 t9002, .slice none 0 0, .int .i64 0]) ?_ 1 _ rfl; (with_reducible repeat (first | refine blk_drewN ?_ _ | refine blk_drew ?_ | refine blk_alloc ?_ _)); refine blk_put (cs := #[.int .i64 0, .slice none 0 0, .int .i64 0]) ?_ 0 _ rfl; (with_reducible repeat (first | refine blk_drewN ?_ _ | refine blk_drew ?_ | refine blk_alloc ?_ _)); exact BK9008.out⟩, ⟨by repeat (first | (with_reducible first | exact HB.out | apply below_alloc | apply pw_below_drewN | apply below_drew1 | refine below_set ?_ GE9008.out) | exact HB.out)⟩⟩
      ·rw [if_neg c17] at H
       have c17b0 : decide (a1 < 1) = false := decide_eq_false c17
       clear c17
       (first | rw [c17b0] | (simp only [i64_w, i32_w]; rw [c17b0]) | skip)
       by_cases c18 : a0 < 0
       ·rw [if_pos c18] at H
        have c18b0 : decide (a0 < 0) = true := decide_eq_true c18
        clear c18
        have H' := Aside0.mk H
        clear H
        go_wp2
        repeat (go_quiet (fail); try go_wp2)
        go_meet
        case rel => exact ⟨_, (true), (by first | rfl | (simp; done) | (simp [*]; done)), H', ⟨by have := HJ4.out; first | omega | exact Nat.le_refl _⟩, ⟨by (with_reducible repeat (first | apply Kd.R_alloc | apply Kd.R_drewN | apply Kd.R_drew)); exact Kd.R_mono (Kd.R_far (p := ⟨gb9008, 2, none⟩) (Kd.R_far (p := ⟨gb9008, 1, none⟩) (Kd.R_far (p := ⟨gb9008, 0, none⟩) (Kd.R_types HO9005.out BK9008.out (by decide)) (fun _ hk => hk.2) (.int .i64 t9002)) (fun _ hk => hk.2) (.slice Ao16 t9003.length co16)) (fun _ hk => hk.2) (.int .i64 t9006)) (fun _ hk => trivial)⟩, ⟨by (with_reducible repeat (first | refine blk_drewN ?_ _ | refine blk_drew ?_ | refine blk_alloc ?_ _)); refine blk_put (cs := #[.int .i64 t9002, .slice Ao16 t9003.length co16, .int .i64 0]) ?_ 2 _ rfl; (with_reducible repeat (first | refine blk_drewN ?_ _ | refine blk_drew ?_ | refine blk_alloc ?_ _)); refine blk_put (cs := #[.int .i64 t9002, .slice none 0 0, .int .i64 0]) ?_ 1 _ rfl; (with_reducible repeat (first | refine blk_drewN ?_ _ | refine blk_drew ?_ | refine blk_alloc ?_ _)); refine blk_put (cs := #[.int .i64 0, .slice none 0 0, .int .i64 0]) ?_ 0 _ rfl; (with_reducible repeat (first | refine blk_drewN ?_ _ | refine blk_drew ?_ | refine blk_alloc ?_ _)); exact BK9008.out⟩, ⟨by repeat (first | (with_reducible first | exact HB.out | apply below_alloc | apply pw_below_drewN | apply below_drew1 | refine below_set ?_ GE9008.out) | exact HB.out)⟩⟩
       ·rw [if_neg c18] at H
        have c18b0 : decide (a0 < 0) = false := decide_eq_false c18
        clear c18
        by_cases c19 : a0 > 17179869184
        ·rw [if_pos c19] at H
         have c19b0 : decide (17179869184 < a0) = true := decide_eq_true c19
         clear c19
         have H' := Aside0.mk H
         clear H
         go_wp2
         repeat (go_quiet (fail); try go_wp2)
         go_meet
         case rel => exact ⟨_, (true), (by first | rfl | (simp; done) | (simp [*]; done)), H', ⟨by have := HJ4.out; first | omega | exact Nat.le_refl _⟩, ⟨by (with_reducible repeat (first | apply Kd.R_alloc | apply Kd.R_drewN | apply Kd.R_drew)); exact Kd.R_mono (Kd.R_far (p := ⟨gb9008, 2, none⟩) (Kd.R_far (p := ⟨gb9008, 1, none⟩) (Kd.R_far (p := ⟨gb9008, 0, none⟩) (Kd.R_types HO9005.out BK9008.out (by decide)) (fun _ hk => hk.2) (.int .i64 t9002)) (fun _ hk => hk.2) (.slice Ao16 t9003.length co16)) (fun _ hk => hk.2) (.int .i64 t9006)) (fun _ hk => trivial)⟩, ⟨by (with_reducible repeat (first | refine blk_drewN ?_ _ | refine blk_drew ?_ | refine blk_alloc ?_ _)); refine blk_put (cs := #[.int .i64 t9002, .slice Ao16 t9003.length co16, .int .i64 0]) ?_ 2 _ rfl; (with_reducible repeat (first | refine blk_drewN ?_ _ | refine blk_drew ?_ | refine blk_alloc ?_ _)); refine blk_put (cs := #[.int .i64 t9002, .slice none 0 0, .int .i64 0]) ?_ 1 _ rfl; (with_reducible repeat (first | refine blk_drewN ?_ _ | refine blk_drew ?_ | refine blk_alloc ?_ _)); refine blk_put (cs := #[.int .i64 0, .slice none 0 0, .int .i64 0]) ?_ 0 _ rfl; (with_reducible repeat (first | refine blk_drewN ?_ _ | refine blk_drew ?_ | refine blk_alloc ?_ _)); exact BK9008.out⟩, ⟨by repeat (first | (with_reducible first | exact HB.out | apply below_alloc | apply pw_below_drewN | apply below_drew1 | refine below_set ?_ GE9008.out) | exact HB.out)⟩⟩
        ·rw [if_neg c19] at H
         have c19b0 : decide (17179869184 < a0) = false := decide_eq_false c19
         clear c19
         by_cases c20 : a1 = 0
         ·rw [if_pos c20] at H
          exact absurd H (by simp)
         ·rw [if_neg c20] at H
          have c20b0 : (a1 == 0) = false := beq_eq_false_iff_ne.mpr c20
          have c20b1 : (a1 != 0) = true := bne_iff_ne.mpr c20
          by_cases c21 : t9002 = (wrap64 (Int.tdiv a0 a1))
          ·rw [if_pos c21] at H
           have c21b0 : (t9002 == (wrap64 (Int.tdiv a0 a1))) = true := beq_iff_eq.mpr c21
           have c21b1 : (t9002 != (wrap64 (Int.tdiv a0 a1))) = false := bne_eq_false_iff_eq.mpr c21
           clear c21
           have H' := Aside0.mk H
           clear H
           have hcz22_0 : w14.cell? ⟨gb9008, 0, none⟩ = some (.int .i64 0) := (blk_cell BK9008.out 0).trans rfl
           have hcz22_1 : w14.cell? ⟨gb9008, 1, none⟩ = some (.slice none 0 0) := (blk_cell BK9008.out 1).trans rfl
           have hcz22_2 : w14.cell? ⟨gb9008, 2, none⟩ = some (.int .i64 0) := (blk_cell BK9008.out 2).trans rfl
           have hfz22_0 := blk_frozen BK9008.out 0
           have hfz22_1 := blk_frozen BK9008.out 1
           have hfz22_2 := blk_frozen BK9008.out 2
           go_wp2
           repeat (go_quiet (fail); try go_wp2)
           go_meet
           case rel => exact ⟨_, ((t9006 != (Int.tmod a0 a1))), (by first | rfl | (simp; done) | (simp [*]; done)), H', ⟨by have := HJ4.out; first | omega | exact Nat.le_refl _⟩, ⟨by (with_reducible repeat (first | apply Kd.R_alloc | apply Kd.R_drewN | apply Kd.R_drew)); exact Kd.R_mono (Kd.R_far (p := ⟨gb9008, 2, none⟩) (Kd.R_far (p := ⟨gb9008, 1, none⟩) (Kd.R_far (p := ⟨gb9008, 0, none⟩) (Kd.R_types HO9005.out BK9008.out (by decide)) (fun _ hk => hk.2) (.int .i64 t9002)) (fun _ hk => hk.2) (.slice Ao16 t9003.length co16)) (fun _ hk => hk.2) (.int .i64 t9006)) (fun _ hk => trivial)⟩, ⟨by (with_reducible repeat (first | refine blk_drewN ?_ _ | refine blk_drew ?_ | refine blk_alloc ?_ _)); refine blk_put (cs := #[.int .i64 t9002, .slice Ao16 t9003.length co16, .int .i64 0]) ?_ 2 _ rfl; (with_reducible repeat (first | refine blk_drewN ?_ _ | refine blk_drew ?_ | refine blk_alloc ?_ _)); refine blk_put (cs := #[.int .i64 t9002, .slice none 0 0, .int .i64 0]) ?_ 1 _ rfl; (with_reducible repeat (first | refine blk_drewN ?_ _ | refine blk_drew ?_ | refine blk_alloc ?_ _)); refine blk_put (cs := #[.int .i64 0, .slice none 0 0, .int .i64 0]) ?_ 0 _ rfl; (with_reducible repeat (first | refine blk_drewN ?_ _ | refine blk_drew ?_ | refine blk_alloc ?_ _)); exact BK9008.out⟩, ⟨by repeat (first | (with_reducible first | exact HB.out | apply below_alloc | apply pw_below_drewN | apply below_drew1 | refine below_set ?_ GE9008.out) | exact HB.out)⟩⟩
          ·rw [if_neg c21] at H
           have c21b0 : (t9002 == (wrap64 (Int.tdiv a0 a1))) = false := beq_eq_false_iff_ne.mpr c21
           have c21b1 : (t9002 != (wrap64 (Int.tdiv a0 a1))) = true := bne_iff_ne.mpr c21
           have H' := Aside0.mk H
           clear H
           have hcz23_0 : w14.cell? ⟨gb9008, 0, none⟩ = some (.int .i64 0) := (blk_cell BK9008.out 0).trans rfl
           have hcz23_1 : w14.cell? ⟨gb9008, 1, none⟩ = some (.slice none 0 0) := (blk_cell BK9008.out 1).trans rfl
           have hcz23_2 : w14.cell? ⟨gb9008, 2, none⟩ = some (.int .i64 0) := (blk_cell BK9008.out 2).trans rfl
           have hfz23_0 := blk_frozen BK9008.out 0
           have hfz23_1 := blk_frozen BK9008.out 1
           have hfz23_2 := blk_frozen BK9008.out 2
           go_wp2
           repeat (go_quiet (fail); try go_wp2)
           go_meet
           case rel => exact ⟨_, (true), (by first | rfl | (simp; done) | (simp [*]; done)), H', ⟨by have := HJ4.out; first | omega | exact Nat.le_refl _⟩, ⟨by (with_reducible repeat (first | apply Kd.R_alloc | apply Kd.R_drewN | apply Kd.R_drew)); exact Kd.R_mono (Kd.R_far (p := ⟨gb9008, 2, none⟩) (Kd.R_far (p := ⟨gb9008, 1, none⟩) (Kd.R_far (p := ⟨gb9008, 0, none⟩) (Kd.R_types HO9005.out BK9008.out (by decide)) (fun _ hk => hk.2) (.int .i64 t9002)) (fun _ hk => hk.2) (.slice Ao16 t9003.length co16)) (fun _ hk => hk.2) (.int .i64 t9006)) (fun _ hk => trivial)⟩, ⟨by (with_reducible repeat (first | refine blk_drewN ?_ _ | refine blk_drew ?_ | refine blk_alloc ?_ _)); refine blk_put (cs := #[.int .i64 t9002, .slice Ao16 t9003.length co16, .int .i64 0]) ?_ 2 _ rfl; (with_reducible repeat (first | refine blk_drewN ?_ _ | refine blk_drew ?_ | refine blk_alloc ?_ _)); refine blk_put (cs := #[.int .i64 t9002, .slice none 0 0, .int .i64 0]) ?_ 1 _ rfl; (with_reducible repeat (first | refine blk_drewN ?_ _ | refine blk_drew ?_ | refine blk_alloc ?_ _)); refine blk_put (cs := #[.int .i64 0, .slice none 0 0, .int .i64 0]) ?_ 0 _ rfl; (with_reducible repeat (first | refine blk_drewN ?_ _ | refine blk_drew ?_ | refine blk_alloc ?_ _)); exact BK9008.out⟩, ⟨by repeat (first | (with_reducible first | exact HB.out | apply below_alloc | apply pw_below_drewN | apply below_drew1 | refine below_set ?_ GE9008.out) | exact HB.out)⟩⟩
     case rest =>
      clear HC12
      try clear c1
      try clear c2
      try clear p2
      try clear c6
      try clear c6b0
      try clear c6b1
      try clear p6
      try clear c7
      try clear c8
      try clear c11
      try clear c11b0
      try clear c11b1
      try clear c17
      try clear c17b0
      try clear c18
      try clear c18b0
      try clear c19
      try clear c19b0
      try clear c20
      try clear c20b0
      try clear c20b1
      try clear c21
      try clear c21b0
      try clear c21b1
      try clear hcz15_0
      try clear hcz15_1
      try clear hcz15_2
      try clear hcz22_0
      try clear hcz22_1
      try clear hcz22_2
      try clear hcz23_0
      try clear hcz23_1
      try clear hcz23_2
      try clear hfz15_0
      try clear hfz15_1
      try clear hfz15_2
      try clear hfz22_0
      try clear hfz22_1
      try clear hfz22_2
      try clear hfz23_0
      try clear hfz23_1
      try clear hfz23_2
      try clear p2
      obtain ⟨kq, x72_11, rfl, HA, HJ11, HO_9009001, BK9008, HB⟩ := hcut
      cases kq with
      | zero => exact absurd HA.out (by simp [papermilllaw52_SheetBad.j1])
      | succ kj11 =>
       have H := HA.out
       clear HA
       simp only [papermilllaw52_SheetBad.j1] at H
       by_cases c24 : x72_11 = true
       ·subst c24
        have H1 : (some false) = some r := by rw [if_pos rfl] at H; exact H
        clear H
        have H := H1
        clear H1
        obtain rfl := Option.some.inj H
        go_wp2
        repeat (go_quiet (fail); try go_wp2)
        go_ret
        exact ⟨by first | rfl | (simp [errW_none, errW_some] <;> rfl) | (simp [*, errW_none, errW_some] <;> rfl), by repeat (first | (with_reducible first | exact HB.out | apply below_alloc | apply pw_below_drewN | apply below_drew1 | refine below_set ?_ GE9008.out) | exact HB.out)⟩
       ·replace c24 := Bool.eq_false_iff.mpr c24
        subst c24
        have H1 : (if a3 < 0 then (papermilllaw52_SheetBad.j2 kj11 a0 a1 l2 a3 true t9002 t9003 t9006) else (papermilllaw52_SheetBad.j2 kj11 a0 a1 l2 a3 (decide (a3 ≥ t9002)) t9002 t9003 t9006)) = some r := by rw [if_neg (show ¬ (false = true) by decide)] at H; exact H
        clear H
        have H := H1
        clear H1
        have HC25 := Aside0.mk H
        clear H
        go_upto_region 8 with (fail)
        repeat (go_quiet (fail); go_upto_region 8 with (fail))
        go_cut [80] (fun v80 wc => ∃ (kq : Nat) (x80_24 : Bool), v80 = .bool x80_24 ∧ Aside0 (papermilllaw52_SheetBad.j2 kq a0 a1 l2 a3 x80_24 t9002 t9003 t9006 = some r) ∧ Aside0 (kq ≤ kj11) ∧ Aside0 (Kd.R k50 50 wc w.heap.size (fun _ => True) (.slice Ao16 t9003.length co16) t9003) ∧ Aside0 (wc.heap[gb9008]? = some (.cells #[.int .i64 t9002, (.slice Ao16 t9003.length co16), .int .i64 t9006] 25 (0, 0))) ∧ Aside0 (Below w.heap.size w wc))
        case first =>
         have H := HC25.out
         clear HC25
         by_cases c26 : a3 < 0
         ·rw [if_pos c26] at H
          have c26b0 : decide (a3 < 0) = true := decide_eq_true c26
          clear c26
          (first | rw [c26b0] | (simp only [i64_w, i32_w]; rw [c26b0]) | skip)
          have H' := Aside0.mk H
          clear H
          go_wp2
          repeat (go_quiet (fail); try go_wp2)
          go_meet
          case rel => exact ⟨_, (true), (by first | rfl | (simp; done) | (simp [*]; done)), H', ⟨by have := HJ4.out; have := HJ11.out; first | omega | exact Nat.le_refl _⟩, ⟨by (with_reducible repeat (first | apply Kd.R_alloc | apply Kd.R_drewN | apply Kd.R_drew)); exact HO_9009001.out⟩, ⟨by (with_reducible repeat (first | refine blk_drewN ?_ _ | refine blk_drew ?_ | refine blk_alloc ?_ _)); exact BK9008.out⟩, ⟨by repeat (first | (with_reducible first | exact HB.out | apply below_alloc | apply pw_below_drewN | apply below_drew1 | refine below_set ?_ GE9008.out) | exact HB.out)⟩⟩
         ·rw [if_neg c26] at H
          have c26b0 : decide (a3 < 0) = false := decide_eq_false c26
          clear c26
          (first | rw [c26b0] | (simp only [i64_w, i32_w]; rw [c26b0]) | skip)
          have H' := Aside0.mk H
          clear H
          have hcz27_0 : wc.cell? ⟨gb9008, 0, none⟩ = some (.int .i64 t9002) := (blk_cell BK9008.out 0).trans rfl
          have hcz27_1 : wc.cell? ⟨gb9008, 1, none⟩ = some (.slice Ao16 t9003.length co16) := (blk_cell BK9008.out 1).trans rfl
          have hcz27_2 : wc.cell? ⟨gb9008, 2, none⟩ = some (.int .i64 t9006) := (blk_cell BK9008.out 2).trans rfl
          have hfz27_0 := blk_frozen BK9008.out 0
          have hfz27_1 := blk_frozen BK9008.out 1
          have hfz27_2 := blk_frozen BK9008.out 2
          go_wp2
          repeat (go_quiet (fail); try go_wp2)
          go_meet
          case rel => exact ⟨_, (decide (a3 ≥ t9002)), (by first | rfl | (simp; done) | (simp [*]; done)), H', ⟨by have := HJ4.out; have := HJ11.out; first | omega | exact Nat.le_refl _⟩, ⟨by (with_reducible repeat (first | apply Kd.R_alloc | apply Kd.R_drewN | apply Kd.R_drew)); exact HO_9009001.out⟩, ⟨by (with_reducible repeat (first | refine blk_drewN ?_ _ | refine blk_drew ?_ | refine blk_alloc ?_ _)); exact BK9008.out⟩, ⟨by repeat (first | (with_reducible first | exact HB.out | apply below_alloc | apply pw_below_drewN | apply below_drew1 | refine below_set ?_ GE9008.out) | exact HB.out)⟩⟩
        case rest =>
         clear HC25
         try clear c1
         try clear c2
         try clear p2
         try clear c6
         try clear c6b0
         try clear c6b1
         try clear p6
         try clear c7
         try clear c8
         try clear c11
         try clear c11b0
         try clear c11b1
         try clear c17
         try clear c17b0
         try clear c18
         try clear c18b0
         try clear c19
         try clear c19b0
         try clear c20
         try clear c20b0
         try clear c20b1
         try clear c21
         try clear c21b0
         try clear c21b1
         try clear c24
         try clear c26
         try clear c26b0
         try clear hcz15_0
         try clear hcz15_1
         try clear hcz15_2
         try clear hcz22_0
         try clear hcz22_1
         try clear hcz22_2
         try clear hcz23_0
         try clear hcz23_1
         try clear hcz23_2
         try clear hcz27_0
         try clear hcz27_1
         try clear hcz27_2
         try clear hfz15_0
         try clear hfz15_1
         try clear hfz15_2
         try clear hfz22_0
         try clear hfz22_1
         try clear hfz22_2
         try clear hfz23_0
         try clear hfz23_1
         try clear hfz23_2
         try clear hfz27_0
         try clear hfz27_1
         try clear hfz27_2
         try clear p2
         try clear p6
         obtain ⟨kq, x80_24, rfl, HA, HJ24, HO_9009001, BK9008, HB⟩ := hcut
         cases kq with
         | zero => exact absurd HA.out (by simp [papermilllaw52_SheetBad.j2])
         | succ kj24 =>
          have H := HA.out
          clear HA
          simp only [papermilllaw52_SheetBad.j2] at H
          by_cases c28 : x80_24 = true
          ·subst c28
           have H1 : ((papermillref04_Has.f kj24 t9003 a3).bind fun t9010 => (if t9010 = true then (some false) else ((papermilllaw52_awake.f).bind fun t9011 => (some t9011)))) = some r := by rw [if_pos rfl] at H; exact H
           clear H
           have H := H1
           clear H1
           replace H := Option.bind_eq_some_iff.mp H
           obtain ⟨t9010, A290, H⟩ := H
           replace H : (if t9010 = true then (some false) else ((papermilllaw52_awake.f).bind fun t9011 => (some t9011))) = some r := H
           have A29 := Aside0.mk A290
           clear A290
           by_cases c30 : t9010 = true
           ·subst c30
            have H1 : (some false) = some r := by rw [if_pos rfl] at H; exact H
            clear H
            have H := H1
            clear H1
            obtain rfl := Option.some.inj H
            have hcz31_0 : wc.cell? ⟨gb9008, 0, none⟩ = some (.int .i64 t9002) := (blk_cell BK9008.out 0).trans rfl
            have hcz31_1 : wc.cell? ⟨gb9008, 1, none⟩ = some (.slice Ao16 t9003.length co16) := (blk_cell BK9008.out 1).trans rfl
            have hcz31_2 : wc.cell? ⟨gb9008, 2, none⟩ = some (.int .i64 t9006) := (blk_cell BK9008.out 2).trans rfl
            have hfz31_0 := blk_frozen BK9008.out 0
            have hfz31_1 := blk_frozen BK9008.out 1
            have hfz31_2 := blk_frozen BK9008.out 2
            go_wp2_with (first | (go_at_call 25; (with_reducible refine (papermillref04_Has.calls kj24 _ _ t9003 a3 true _ ?side1 ?side2 A29.out).mono ?_); (case side1 => repeat (first | exact (Kd.R_reads' HO_9009001.out).2.2 | (with_reducible refine Kd.C_alloc ?_ _) | (with_reducible refine Kd.C_drewN ?_ _) | (with_reducible refine Kd.C_drew ?_))); (case side2 => exact (Kd.R_reads' HO_9009001.out).2.1); rintro e w' ⟨rfl, ⟨nd, rfl⟩⟩; (try first | exact ⟨rfl, _, World.drewN_drewN _ _ _⟩ | exact ⟨rfl, _, Eq.trans (World.drewN_drewN _ _ _) (congrArg (World.drewN _) (Nat.add_assoc _ _ _))⟩)))
            repeat (go_quiet (first | (go_at_call 25; (with_reducible refine (papermillref04_Has.calls kj24 _ _ t9003 a3 true _ ?side1 ?side2 A29.out).mono ?_); (case side1 => repeat (first | exact (Kd.R_reads' HO_9009001.out).2.2 | (with_reducible refine Kd.C_alloc ?_ _) | (with_reducible refine Kd.C_drewN ?_ _) | (with_reducible refine Kd.C_drew ?_))); (case side2 => exact (Kd.R_reads' HO_9009001.out).2.1); rintro e w' ⟨rfl, ⟨nd, rfl⟩⟩; (try first | exact ⟨rfl, _, World.drewN_drewN _ _ _⟩ | exact ⟨rfl, _, Eq.trans (World.drewN_drewN _ _ _) (congrArg (World.drewN _) (Nat.add_assoc _ _ _))⟩))); try go_wp2_with (first | (go_at_call 25; (with_reducible refine (papermillref04_Has.calls kj24 _ _ t9003 a3 true _ ?side1 ?side2 A29.out).mono ?_); (case side1 => repeat (first | exact (Kd.R_reads' HO_9009001.out).2.2 | (with_reducible refine Kd.C_alloc ?_ _) | (with_reducible refine Kd.C_drewN ?_ _) | (with_reducible refine Kd.C_drew ?_))); (case side2 => exact (Kd.R_reads' HO_9009001.out).2.1); rintro e w' ⟨rfl, ⟨nd, rfl⟩⟩; (try first | exact ⟨rfl, _, World.drewN_drewN _ _ _⟩ | exact ⟨rfl, _, Eq.trans (World.drewN_drewN _ _ _) (congrArg (World.drewN _) (Nat.add_assoc _ _ _))⟩))))
            go_ret
            exact ⟨by first | rfl | (simp [errW_none, errW_some] <;> rfl) | (simp [*, errW_none, errW_some] <;> rfl), by repeat (first | (with_reducible first | exact HB.out | apply below_alloc | apply pw_below_drewN | apply below_drew1 | refine below_set ?_ GE9008.out) | exact HB.out)⟩
           ·replace c30 := Bool.eq_false_iff.mpr c30
            subst c30
            have H1 : ((papermilllaw52_awake.f).bind fun t9011 => (some t9011)) = some r := by rw [if_neg (show ¬ (false = true) by decide)] at H; exact H
            clear H
            have H := H1
            clear H1
            replace H := Option.bind_eq_some_iff.mp H
            obtain ⟨t9011, A320, H⟩ := H
            replace H : (some t9011) = some r := H
            have A32 := Aside0.mk A320
            clear A320
            obtain rfl := Option.some.inj H
            have hcz33_0 : wc.cell? ⟨gb9008, 0, none⟩ = some (.int .i64 t9002) := (blk_cell BK9008.out 0).trans rfl
            have hcz33_1 : wc.cell? ⟨gb9008, 1, none⟩ = some (.slice Ao16 t9003.length co16) := (blk_cell BK9008.out 1).trans rfl
            have hcz33_2 : wc.cell? ⟨gb9008, 2, none⟩ = some (.int .i64 t9006) := (blk_cell BK9008.out 2).trans rfl
            have hfz33_0 := blk_frozen BK9008.out 0
            have hfz33_1 := blk_frozen BK9008.out 1
            have hfz33_2 := blk_frozen BK9008.out 2
            go_wp2_with (first | (go_at_call 25; (with_reducible refine (papermillref04_Has.calls kj24 _ _ t9003 a3 false _ ?side1 ?side2 A29.out).mono ?_); (case side1 => repeat (first | exact (Kd.R_reads' HO_9009001.out).2.2 | (with_reducible refine Kd.C_alloc ?_ _) | (with_reducible refine Kd.C_drewN ?_ _) | (with_reducible refine Kd.C_drew ?_))); (case side2 => exact (Kd.R_reads' HO_9009001.out).2.1); rintro e w' ⟨rfl, ⟨nd, rfl⟩⟩; (try first | exact ⟨rfl, _, World.drewN_drewN _ _ _⟩ | exact ⟨rfl, _, Eq.trans (World.drewN_drewN _ _ _) (congrArg (World.drewN _) (Nat.add_assoc _ _ _))⟩)) | (go_at_call 12; (with_reducible refine (papermilllaw52_awake.calls  t9011 _ A32.out).mono ?_); rintro e w34 ⟨rfl, hb⟩; have n0_ := Aside0.mk (Kd.R_below (by (with_reducible repeat (first | apply Kd.R_alloc | apply Kd.R_drewN | apply Kd.R_drew)); exact HO_9009001.out) hb); have n1_ := Aside0.mk (blk_below (g := gb9008) (o := .cells #[.int .i64 t9002, .slice Ao16 t9003.length co16, .int .i64 t9006] 25 (0, 0)) (by (with_reducible repeat (first | refine blk_drewN ?_ _ | refine blk_drew ?_ | refine blk_alloc ?_ _)); exact BK9008.out) hb); have n2_ := Aside0.mk (below_step (by repeat (first | (with_reducible first | exact HB.out | apply below_alloc | apply pw_below_drewN | apply below_drew1 | refine below_set ?_ GE9008.out) | exact HB.out)) hb); clear HO_9009001; clear BK9008; clear HB; have HO_9009001 := n0_; have BK9008 := n1_; have HB := n2_; clear n0_ n1_ n2_; (try clear hb); (try clear hb2); (try clear hk); (try clear hi)))
            repeat (go_quiet (first | (go_at_call 25; (with_reducible refine (papermillref04_Has.calls kj24 _ _ t9003 a3 false _ ?side1 ?side2 A29.out).mono ?_); (case side1 => repeat (first | exact (Kd.R_reads' HO_9009001.out).2.2 | (with_reducible refine Kd.C_alloc ?_ _) | (with_reducible refine Kd.C_drewN ?_ _) | (with_reducible refine Kd.C_drew ?_))); (case side2 => exact (Kd.R_reads' HO_9009001.out).2.1); rintro e w' ⟨rfl, ⟨nd, rfl⟩⟩; (try first | exact ⟨rfl, _, World.drewN_drewN _ _ _⟩ | exact ⟨rfl, _, Eq.trans (World.drewN_drewN _ _ _) (congrArg (World.drewN _) (Nat.add_assoc _ _ _))⟩)) | (go_at_call 12; (with_reducible refine (papermilllaw52_awake.calls  t9011 _ A32.out).mono ?_); rintro e w34 ⟨rfl, hb⟩; have n0_ := Aside0.mk (Kd.R_below (by (with_reducible repeat (first | apply Kd.R_alloc | apply Kd.R_drewN | apply Kd.R_drew)); exact HO_9009001.out) hb); have n1_ := Aside0.mk (blk_below (g := gb9008) (o := .cells #[.int .i64 t9002, .slice Ao16 t9003.length co16, .int .i64 t9006] 25 (0, 0)) (by (with_reducible repeat (first | refine blk_drewN ?_ _ | refine blk_drew ?_ | refine blk_alloc ?_ _)); exact BK9008.out) hb); have n2_ := Aside0.mk (below_step (by repeat (first | (with_reducible first | exact HB.out | apply below_alloc | apply pw_below_drewN | apply below_drew1 | refine below_set ?_ GE9008.out) | exact HB.out)) hb); clear HO_9009001; clear BK9008; clear HB; have HO_9009001 := n0_; have BK9008 := n1_; have HB := n2_; clear n0_ n1_ n2_; (try clear hb); (try clear hb2); (try clear hk); (try clear hi))); try go_wp2_with (first | (go_at_call 25; (with_reducible refine (papermillref04_Has.calls kj24 _ _ t9003 a3 false _ ?side1 ?side2 A29.out).mono ?_); (case side1 => repeat (first | exact (Kd.R_reads' HO_9009001.out).2.2 | (with_reducible refine Kd.C_alloc ?_ _) | (with_reducible refine Kd.C_drewN ?_ _) | (with_reducible refine Kd.C_drew ?_))); (case side2 => exact (Kd.R_reads' HO_9009001.out).2.1); rintro e w' ⟨rfl, ⟨nd, rfl⟩⟩; (try first | exact ⟨rfl, _, World.drewN_drewN _ _ _⟩ | exact ⟨rfl, _, Eq.trans (World.drewN_drewN _ _ _) (congrArg (World.drewN _) (Nat.add_assoc _ _ _))⟩)) | (go_at_call 12; (with_reducible refine (papermilllaw52_awake.calls  t9011 _ A32.out).mono ?_); rintro e w34 ⟨rfl, hb⟩; have n0_ := Aside0.mk (Kd.R_below (by (with_reducible repeat (first | apply Kd.R_alloc | apply Kd.R_drewN | apply Kd.R_drew)); exact HO_9009001.out) hb); have n1_ := Aside0.mk (blk_below (g := gb9008) (o := .cells #[.int .i64 t9002, .slice Ao16 t9003.length co16, .int .i64 t9006] 25 (0, 0)) (by (with_reducible repeat (first | refine blk_drewN ?_ _ | refine blk_drew ?_ | refine blk_alloc ?_ _)); exact BK9008.out) hb); have n2_ := Aside0.mk (below_step (by repeat (first | (with_reducible first | exact HB.out | apply below_alloc | apply pw_below_drewN | apply below_drew1 | refine below_set ?_ GE9008.out) | exact HB.out)) hb); clear HO_9009001; clear BK9008; clear HB; have HO_9009001 := n0_; have BK9008 := n1_; have HB := n2_; clear n0_ n1_ n2_; (try clear hb); (try clear hb2); (try clear hk); (try clear hi))))
            go_ret
            exact ⟨by first | rfl | (simp [errW_none, errW_some] <;> rfl) | (simp [*, errW_none, errW_some] <;> rfl), by repeat (first | (with_reducible first | exact HB.out | apply below_alloc | apply pw_below_drewN | apply below_drew1 | refine below_set ?_ GE9008.out) | exact HB.out)⟩
          ·replace c28 := Bool.eq_false_iff.mpr c28
           subst c28
           have H1 : (papermilllaw52_SheetBad.l0 kj24 a0 a1 l2 a3 true (wrap64 (a0 - (wrap64 ((wrap64 (a3 + 1)) * a1)))) t9002 t9003 t9006) = some r := by rw [if_neg (show ¬ (false = true) by decide)] at H; exact H
           clear H
           have H := H1
           clear H1
           have H' := Aside0.mk H
           clear H
           go_wp2
           repeat (go_quiet (fail); try go_wp2)
           go_loopg [11, 12] kj24 (fun kq v11 v12 w' => ∃ (x11_4 : Bool) (x12_4 : Int), v11 = .bool x11_4 ∧ v12 = .int .i64 x12_4 ∧ Aside0 (papermilllaw52_SheetBad.l0 kq a0 a1 l2 a3 x11_4 x12_4 t9002 t9003 t9006 = some r) ∧ Aside0 (kq ≤ kj24) ∧ Aside0 (Kd.R k50 50 w' w.heap.size (fun _ => True) (.slice Ao16 t9003.length co16) t9003) ∧ Aside0 (w'.heap[gb9008]? = some (.cells #[.int .i64 t9002, (.slice Ao16 t9003.length co16), .int .i64 t9006] 25 (0, 0))) ∧ Aside0 (Below w.heap.size w w'))
           case atStart => exact ⟨(true), (wrap64 (a0 - (wrap64 ((wrap64 (a3 + 1)) * a1)))), (by first | rfl | (simp; done) | (simp [*]; done)), (by first | rfl | (simp; done) | (simp [*]; done)), H', ⟨Nat.le_refl _⟩, ⟨by (with_reducible repeat (first | apply Kd.R_alloc | apply Kd.R_drewN | apply Kd.R_drew)); exact HO_9009001.out⟩, ⟨by (with_reducible repeat (first | refine blk_drewN ?_ _ | refine blk_drew ?_ | refine blk_alloc ?_ _)); exact BK9008.out⟩, ⟨by repeat (first | (with_reducible first | exact HB.out | apply below_alloc | apply pw_below_drewN | apply below_drew1 | refine below_set ?_ GE9008.out) | exact HB.out)⟩⟩
           case round =>
            clear H'
            try clear c1
            try clear c2
            try clear p2
            try clear c3
            try clear c6
            try clear c6b0
            try clear c6b1
            try clear p6
            try clear c7
            try clear c8
            try clear c11
            try clear c11b0
            try clear c11b1
            try clear c17
            try clear c17b0
            try clear c18
            try clear c18b0
            try clear c19
            try clear c19b0
            try clear c20
            try clear c20b0
            try clear c20b1
            try clear c21
            try clear c21b0
            try clear c21b1
            try clear c24
            try clear c26
            try clear c26b0
            try clear c28
            try clear c30
            try clear hcz15_0
            try clear hcz15_1
            try clear hcz15_2
            try clear hcz22_0
            try clear hcz22_1
            try clear hcz22_2
            try clear hcz23_0
            try clear hcz23_1
            try clear hcz23_2
            try clear hcz27_0
            try clear hcz27_1
            try clear hcz27_2
            try clear hcz31_0
            try clear hcz31_1
            try clear hcz31_2
            try clear hcz33_0
            try clear hcz33_1
            try clear hcz33_2
            try clear hfz15_0
            try clear hfz15_1
            try clear hfz15_2
            try clear hfz22_0
            try clear hfz22_1
            try clear hfz22_2
            try clear hfz23_0
            try clear hfz23_1
            try clear hfz23_2
            try clear hfz27_0
            try clear hfz27_1
            try clear hfz27_2
            try clear hfz31_0
            try clear hfz31_1
            try clear hfz31_2
            try clear hfz33_0
            try clear hfz33_1
            try clear hfz33_2
            try clear p2
            try clear p6
            obtain ⟨x11_4, x12_4, rfl, rfl, HA, HK4, HO_9009001, BK9008, HB⟩ := hrel
            cases gk with
            | zero => exact absurd HA.out (by simp [papermilllaw52_SheetBad.l0])
            | succ k4 =>
             have H := HA.out
             clear HA
             simp only [papermilllaw52_SheetBad.l0] at H
             by_cases c35 : x12_4 < (wrap64 (a0 - (wrap64 (a3 * a1))))
             ·rw [if_pos c35] at H
              have c35b0 : decide (x12_4 < (wrap64 (a0 - (wrap64 (a3 * a1))))) = true := decide_eq_true c35
              clear c35
              by_cases c36 : x11_4 = true
              ·subst c36
               have H1 : ((papermillref04_Has.f k4 l2 x12_4).bind fun t9012 => (papermilllaw52_SheetBad.l0 k4 a0 a1 l2 a3 (!t9012) (wrap64 (x12_4 + 1)) t9002 t9003 t9006)) = some r := by rw [if_pos rfl] at H; exact H
               clear H
               have H := H1
               clear H1
               replace H := Option.bind_eq_some_iff.mp H
               obtain ⟨t9012, A370, H⟩ := H
               replace H : (papermilllaw52_SheetBad.l0 k4 a0 a1 l2 a3 (!t9012) (wrap64 (x12_4 + 1)) t9002 t9003 t9006) = some r := H
               have A37 := Aside0.mk A370
               clear A370
               have H' := Aside0.mk H
               clear H
               go_wp2_with (first | (go_at_call 25; (with_reducible refine (papermillref04_Has.calls k4 _ _ l2 x12_4 t9012 _ ?side1 ?side2 A37.out).mono ?_); (case side1 => repeat (first | exact (Kd.C_below HR2.out HB.out) | (with_reducible refine Kd.C_alloc ?_ _) | (with_reducible refine Kd.C_drewN ?_ _) | (with_reducible refine Kd.C_drew ?_))); (case side2 => exact HC2.out); rintro e w' ⟨rfl, ⟨nd, rfl⟩⟩; (try first | exact ⟨rfl, _, World.drewN_drewN _ _ _⟩ | exact ⟨rfl, _, Eq.trans (World.drewN_drewN _ _ _) (congrArg (World.drewN _) (Nat.add_assoc _ _ _))⟩)))
               repeat (go_quiet (first | (go_at_call 25; (with_reducible refine (papermillref04_Has.calls k4 _ _ l2 x12_4 t9012 _ ?side1 ?side2 A37.out).mono ?_); (case side1 => repeat (first | exact (Kd.C_below HR2.out HB.out) | (with_reducible refine Kd.C_alloc ?_ _) | (with_reducible refine Kd.C_drewN ?_ _) | (with_reducible refine Kd.C_drew ?_))); (case side2 => exact HC2.out); rintro e w' ⟨rfl, ⟨nd, rfl⟩⟩; (try first | exact ⟨rfl, _, World.drewN_drewN _ _ _⟩ | exact ⟨rfl, _, Eq.trans (World.drewN_drewN _ _ _) (congrArg (World.drewN _) (Nat.add_assoc _ _ _))⟩))); try go_wp2_with (first | (go_at_call 25; (with_reducible refine (papermillref04_Has.calls k4 _ _ l2 x12_4 t9012 _ ?side1 ?side2 A37.out).mono ?_); (case side1 => repeat (first | exact (Kd.C_below HR2.out HB.out) | (with_reducible refine Kd.C_alloc ?_ _) | (with_reducible refine Kd.C_drewN ?_ _) | (with_reducible refine Kd.C_drew ?_))); (case side2 => exact HC2.out); rintro e w' ⟨rfl, ⟨nd, rfl⟩⟩; (try first | exact ⟨rfl, _, World.drewN_drewN _ _ _⟩ | exact ⟨rfl, _, Eq.trans (World.drewN_drewN _ _ _) (congrArg (World.drewN _) (Nat.add_assoc _ _ _))⟩))))
               go_roundg k4
               case measure => have := HJ4.out; have := HJ11.out; have := HJ24.out; have := HK4.out; omega
               case rel => exact ⟨(!t9012), (wrap64 (x12_4 + 1)), (by first | rfl | (simp; done) | (simp [*]; done)), (by first | rfl | (simp; done) | (simp [*]; done)), H', ⟨by have := HJ4.out; have := HJ11.out; have := HJ24.out; have := HK4.out; omega⟩, ⟨by (with_reducible repeat (first | apply Kd.R_alloc | apply Kd.R_drewN | apply Kd.R_drew)); exact HO_9009001.out⟩, ⟨by (with_reducible repeat (first | refine blk_drewN ?_ _ | refine blk_drew ?_ | refine blk_alloc ?_ _)); exact BK9008.out⟩, ⟨by repeat (first | (with_reducible first | exact HB.out | apply below_alloc | apply pw_below_drewN | apply below_drew1 | refine below_set ?_ GE9008.out) | exact HB.out)⟩⟩
              ·replace c36 := Bool.eq_false_iff.mpr c36
               subst c36
               have H1 : (papermilllaw52_SheetBad.l0 k4 a0 a1 l2 a3 false (wrap64 (x12_4 + 1)) t9002 t9003 t9006) = some r := by rw [if_neg (show ¬ (false = true) by decide)] at H; exact H
               clear H
               have H := H1
               clear H1
               have H' := Aside0.mk H
               clear H
               go_wp2
               repeat (go_quiet (fail); try go_wp2)
               go_roundg k4
               case measure => have := HJ4.out; have := HJ11.out; have := HJ24.out; have := HK4.out; omega
               case rel => exact ⟨(false), (wrap64 (x12_4 + 1)), (by first | rfl | (simp; done) | (simp [*]; done)), (by first | rfl | (simp; done) | (simp [*]; done)), H', ⟨by have := HJ4.out; have := HJ11.out; have := HJ24.out; have := HK4.out; omega⟩, ⟨by (with_reducible repeat (first | apply Kd.R_alloc | apply Kd.R_drewN | apply Kd.R_drew)); exact HO_9009001.out⟩, ⟨by (with_reducible repeat (first | refine blk_drewN ?_ _ | refine blk_drew ?_ | refine blk_alloc ?_ _)); exact BK9008.out⟩, ⟨by repeat (first | (with_reducible first | exact HB.out | apply below_alloc | apply pw_below_drewN | apply below_drew1 | refine below_set ?_ GE9008.out) | exact HB.out)⟩⟩
             ·rw [if_neg c35] at H
              have c35b0 : decide (x12_4 < (wrap64 (a0 - (wrap64 (a3 * a1))))) = false := decide_eq_false c35
              clear c35
              replace H := Option.bind_eq_some_iff.mp H
              obtain ⟨t9013, A380, H⟩ := H
              replace H : (if (t9013 == x11_4) = true then ((papermilllaw52_awake.f).bind fun t9014 => (some t9014)) else (some false)) = some r := H
              have A38 := Aside0.mk A380
              clear A380
              by_cases c39 : (t9013 == x11_4) = true
              ·rw [if_pos c39] at H
               have c39b0 : (t9013 == x11_4) = true := c39
               (try (have c39b1 : decide (t9013 = x11_4) = true := by simpa using c39))
               (try (have c39b2 : (t9013 == x11_4) = true := by simpa using c39))
               clear c39
               replace H := Option.bind_eq_some_iff.mp H
               obtain ⟨t9014, A400, H⟩ := H
               replace H : (some t9014) = some r := H
               have A40 := Aside0.mk A400
               clear A400
               obtain rfl := Option.some.inj H
               have hcz41_0 : wr.cell? ⟨gb9008, 0, none⟩ = some (.int .i64 t9002) := (blk_cell BK9008.out 0).trans rfl
               have hcz41_1 : wr.cell? ⟨gb9008, 1, none⟩ = some (.slice Ao16 t9003.length co16) := (blk_cell BK9008.out 1).trans rfl
               have hcz41_2 : wr.cell? ⟨gb9008, 2, none⟩ = some (.int .i64 t9006) := (blk_cell BK9008.out 2).trans rfl
               have hfz41_0 := blk_frozen BK9008.out 0
               have hfz41_1 := blk_frozen BK9008.out 1
               have hfz41_2 := blk_frozen BK9008.out 2
               go_wp2_with (first | (go_at_call 25; (with_reducible refine (papermillref04_Has.calls k4 _ _ t9003 a3 t9013 _ ?side1 ?side2 A38.out).mono ?_); (case side1 => repeat (first | exact (Kd.R_reads' HO_9009001.out).2.2 | (with_reducible refine Kd.C_alloc ?_ _) | (with_reducible refine Kd.C_drewN ?_ _) | (with_reducible refine Kd.C_drew ?_))); (case side2 => exact (Kd.R_reads' HO_9009001.out).2.1); rintro e w' ⟨rfl, ⟨nd, rfl⟩⟩; (try first | exact ⟨rfl, _, World.drewN_drewN _ _ _⟩ | exact ⟨rfl, _, Eq.trans (World.drewN_drewN _ _ _) (congrArg (World.drewN _) (Nat.add_assoc _ _ _))⟩)) | (go_at_call 12; (with_reducible refine (papermilllaw52_awake.calls  t9014 _ A40.out).mono ?_); rintro e w42 ⟨rfl, hb⟩; have n0_ := Aside0.mk (Kd.R_below (by (with_reducible repeat (first | apply Kd.R_alloc | apply Kd.R_drewN | apply Kd.R_drew)); exact HO_9009001.out) hb); have n1_ := Aside0.mk (blk_below (g := gb9008) (o := .cells #[.int .i64 t9002, .slice Ao16 t9003.length co16, .int .i64 t9006] 25 (0, 0)) (by (with_reducible repeat (first | refine blk_drewN ?_ _ | refine blk_drew ?_ | refine blk_alloc ?_ _)); exact BK9008.out) hb); have n2_ := Aside0.mk (below_step (by repeat (first | (with_reducible first | exact HB.out | apply below_alloc | apply pw_below_drewN | apply below_drew1 | refine below_set ?_ GE9008.out) | exact HB.out)) hb); clear HO_9009001; clear BK9008; clear HB; have HO_9009001 := n0_; have BK9008 := n1_; have HB := n2_; clear n0_ n1_ n2_; (try clear hb); (try clear hb2); (try clear hk); (try clear hi)))
               repeat (go_quiet (first | (go_at_call 25; (with_reducible refine (papermillref04_Has.calls k4 _ _ t9003 a3 t9013 _ ?side1 ?side2 A38.out).mono ?_); (case side1 => repeat (first | exact (Kd.R_reads' HO_9009001.out).2.2 | (with_reducible refine Kd.C_alloc ?_ _) | (with_reducible refine Kd.C_drewN ?_ _) | (with_reducible refine Kd.C_drew ?_))); (case side2 => exact (Kd.R_reads' HO_9009001.out).2.1); rintro e w' ⟨rfl, ⟨nd, rfl⟩⟩; (try first | exact ⟨rfl, _, World.drewN_drewN _ _ _⟩ | exact ⟨rfl, _, Eq.trans (World.drewN_drewN _ _ _) (congrArg (World.drewN _) (Nat.add_assoc _ _ _))⟩)) | (go_at_call 12; (with_reducible refine (papermilllaw52_awake.calls  t9014 _ A40.out).mono ?_); rintro e w42 ⟨rfl, hb⟩; have n0_ := Aside0.mk (Kd.R_below (by (with_reducible repeat (first | apply Kd.R_alloc | apply Kd.R_drewN | apply Kd.R_drew)); exact HO_9009001.out) hb); have n1_ := Aside0.mk (blk_below (g := gb9008) (o := .cells #[.int .i64 t9002, .slice Ao16 t9003.length co16, .int .i64 t9006] 25 (0, 0)) (by (with_reducible repeat (first | refine blk_drewN ?_ _ | refine blk_drew ?_ | refine blk_alloc ?_ _)); exact BK9008.out) hb); have n2_ := Aside0.mk (below_step (by repeat (first | (with_reducible first | exact HB.out | apply below_alloc | apply pw_below_drewN | apply below_drew1 | refine below_set ?_ GE9008.out) | exact HB.out)) hb); clear HO_9009001; clear BK9008; clear HB; have HO_9009001 := n0_; have BK9008 := n1_; have HB := n2_; clear n0_ n1_ n2_; (try clear hb); (try clear hb2); (try clear hk); (try clear hi))); try go_wp2_with (first | (go_at_call 25; (with_reducible refine (papermillref04_Has.calls k4 _ _ t9003 a3 t9013 _ ?side1 ?side2 A38.out).mono ?_); (case side1 => repeat (first | exact (Kd.R_reads' HO_9009001.out).2.2 | (with_reducible refine Kd.C_alloc ?_ _) | (with_reducible refine Kd.C_drewN ?_ _) | (with_reducible refine Kd.C_drew ?_))); (case side2 => exact (Kd.R_reads' HO_9009001.out).2.1); rintro e w' ⟨rfl, ⟨nd, rfl⟩⟩; (try first | exact ⟨rfl, _, World.drewN_drewN _ _ _⟩ | exact ⟨rfl, _, Eq.trans (World.drewN_drewN _ _ _) (congrArg (World.drewN _) (Nat.add_assoc _ _ _))⟩)) | (go_at_call 12; (with_reducible refine (papermilllaw52_awake.calls  t9014 _ A40.out).mono ?_); rintro e w42 ⟨rfl, hb⟩; have n0_ := Aside0.mk (Kd.R_below (by (with_reducible repeat (first | apply Kd.R_alloc | apply Kd.R_drewN | apply Kd.R_drew)); exact HO_9009001.out) hb); have n1_ := Aside0.mk (blk_below (g := gb9008) (o := .cells #[.int .i64 t9002, .slice Ao16 t9003.length co16, .int .i64 t9006] 25 (0, 0)) (by (with_reducible repeat (first | refine blk_drewN ?_ _ | refine blk_drew ?_ | refine blk_alloc ?_ _)); exact BK9008.out) hb); have n2_ := Aside0.mk (below_step (by repeat (first | (with_reducible first | exact HB.out | apply below_alloc | apply pw_below_drewN | apply below_drew1 | refine below_set ?_ GE9008.out) | exact HB.out)) hb); clear HO_9009001; clear BK9008; clear HB; have HO_9009001 := n0_; have BK9008 := n1_; have HB := n2_; clear n0_ n1_ n2_; (try clear hb); (try clear hb2); (try clear hk); (try clear hi))))
               go_ret
               exact ⟨by first | rfl | (simp [errW_none, errW_some] <;> rfl) | (simp [*, errW_none, errW_some] <;> rfl), by repeat (first | (with_reducible first | exact HB.out | apply below_alloc | apply pw_below_drewN | apply below_drew1 | refine below_set ?_ GE9008.out) | exact HB.out)⟩
              ·rw [if_neg c39] at H
               have c39b0 : (t9013 == x11_4) = false := by simpa using c39
               (try (have c39b1 : decide (t9013 = x11_4) = false := by simpa using c39))
               (try (have c39b2 : (t9013 == x11_4) = false := by simpa using c39))
               (try (have c39b3 : ¬ (t9013 = x11_4) := by simpa using c39))
               clear c39
               obtain rfl := Option.some.inj H
               have hcz43_0 : wr.cell? ⟨gb9008, 0, none⟩ = some (.int .i64 t9002) := (blk_cell BK9008.out 0).trans rfl
               have hcz43_1 : wr.cell? ⟨gb9008, 1, none⟩ = some (.slice Ao16 t9003.length co16) := (blk_cell BK9008.out 1).trans rfl
               have hcz43_2 : wr.cell? ⟨gb9008, 2, none⟩ = some (.int .i64 t9006) := (blk_cell BK9008.out 2).trans rfl
               have hfz43_0 := blk_frozen BK9008.out 0
               have hfz43_1 := blk_frozen BK9008.out 1
               have hfz43_2 := blk_frozen BK9008.out 2
               go_wp2_with (first | (go_at_call 25; (with_reducible refine (papermillref04_Has.calls k4 _ _ t9003 a3 t9013 _ ?side1 ?side2 A38.out).mono ?_); (case side1 => repeat (first | exact (Kd.R_reads' HO_9009001.out).2.2 | (with_reducible refine Kd.C_alloc ?_ _) | (with_reducible refine Kd.C_drewN ?_ _) | (with_reducible refine Kd.C_drew ?_))); (case side2 => exact (Kd.R_reads' HO_9009001.out).2.1); rintro e w' ⟨rfl, ⟨nd, rfl⟩⟩; (try first | exact ⟨rfl, _, World.drewN_drewN _ _ _⟩ | exact ⟨rfl, _, Eq.trans (World.drewN_drewN _ _ _) (congrArg (World.drewN _) (Nat.add_assoc _ _ _))⟩)))
               repeat (go_quiet (first | (go_at_call 25; (with_reducible refine (papermillref04_Has.calls k4 _ _ t9003 a3 t9013 _ ?side1 ?side2 A38.out).mono ?_); (case side1 => repeat (first | exact (Kd.R_reads' HO_9009001.out).2.2 | (with_reducible refine Kd.C_alloc ?_ _) | (with_reducible refine Kd.C_drewN ?_ _) | (with_reducible refine Kd.C_drew ?_))); (case side2 => exact (Kd.R_reads' HO_9009001.out).2.1); rintro e w' ⟨rfl, ⟨nd, rfl⟩⟩; (try first | exact ⟨rfl, _, World.drewN_drewN _ _ _⟩ | exact ⟨rfl, _, Eq.trans (World.drewN_drewN _ _ _) (congrArg (World.drewN _) (Nat.add_assoc _ _ _))⟩))); try go_wp2_with (first | (go_at_call 25; (with_reducible refine (papermillref04_Has.calls k4 _ _ t9003 a3 t9013 _ ?side1 ?side2 A38.out).mono ?_); (case side1 => repeat (first | exact (Kd.R_reads' HO_9009001.out).2.2 | (with_reducible refine Kd.C_alloc ?_ _) | (with_reducible refine Kd.C_drewN ?_ _) | (with_reducible refine Kd.C_drew ?_))); (case side2 => exact (Kd.R_reads' HO_9009001.out).2.1); rintro e w' ⟨rfl, ⟨nd, rfl⟩⟩; (try first | exact ⟨rfl, _, World.drewN_drewN _ _ _⟩ | exact ⟨rfl, _, Eq.trans (World.drewN_drewN _ _ _) (congrArg (World.drewN _) (Nat.add_assoc _ _ _))⟩))))
               go_ret
               exact ⟨by first | rfl | (simp [errW_none, errW_some] <;> rfl) | (simp [*, errW_none, errW_some] <;> rfl), by repeat (first | (with_reducible first | exact HB.out | apply below_alloc | apply pw_below_drewN | apply below_drew1 | refine below_set ?_ GE9008.out) | exact HB.out)⟩
    ·rw [if_neg c11] at H
     have c11b0 : (t9007 == 0) = false := beq_eq_false_iff_ne.mpr c11
     have c11b1 : (t9007 != 0) = true := bne_iff_ne.mpr c11
     by_cases c44 : t9002 = 0
     ·rw [if_pos c44] at H
      have c44b0 : (t9002 == 0) = true := beq_iff_eq.mpr c44
      have c44b1 : (t9002 != 0) = false := bne_eq_false_iff_eq.mpr c44
      clear c44
      by_cases c45 : (t9003.length : Int) = 0
      ·rw [if_pos c45] at H
       have c45b0 : ((t9003.length : Int) == 0) = true := beq_iff_eq.mpr c45
       have c45b1 : ((t9003.length : Int) != 0) = false := bne_eq_false_iff_eq.mpr c45
       clear c45
       by_cases c46 : t9006 = 0
       ·rw [if_pos c46] at H
        have c46b0 : (t9006 == 0) = true := beq_iff_eq.mpr c46
        have c46b1 : (t9006 != 0) = false := bne_eq_false_iff_eq.mpr c46
        clear c46
        replace H := Option.bind_eq_some_iff.mp H
        obtain ⟨t9009, A470, H⟩ := H
        replace H : (some t9009) = some r := H
        have A47 := Aside0.mk A470
        clear A470
        obtain rfl := Option.some.inj H
        go_wp2_with (first | (go_at_call 13; (with_reducible refine (sheet_Cut.calls kj4 a0 a1 _ _ l2 t9002 t9003 t9006 t9007 _ ?side1 ?side2 A10.out).mono ?_); (case side1 => repeat (first | exact (Kd.C_below HR2.out HB.out) | (with_reducible refine Kd.C_alloc ?_ _) | (with_reducible refine Kd.C_drewN ?_ _) | (with_reducible refine Kd.C_drew ?_))); (case side2 => exact HC2.out); rintro e w48 ⟨v9004, rfl, ho0, hb⟩; have n0_ := Aside0.mk (Kd.R_lower ho0 (below_size (by repeat (first | (with_reducible first | exact HB.out | apply below_alloc | apply pw_below_drewN | apply below_drew1) | exact HB.out)))); have n1_ := Aside0.mk (below_step (by repeat (first | (with_reducible first | exact HB.out | apply below_alloc | apply pw_below_drewN | apply below_drew1) | exact HB.out)) hb); clear HB; have HO9005 := n0_; have HB := n1_; clear n0_ n1_; (try clear hb); (try clear hb2); (try clear hk); (try clear hi); (try clear ho0)) | ((with_reducible refine gate_dst (N := 9) rfl ?_); (try (refine gate_guard (by rfl) ?_; dsimp only)); refine box_event ?hg (N := 9) ?hd (cs := #[.int .i64 0, .slice none 0 0, .int .i64 0]) (t := 25) ?hr ?_; (case hd => rfl); (case hg => rfl); (case hr => first | (go_simp; done) | (go_simp; rfl)); intro gb9008 hg w49 hbox hb; have n0_ := Aside0.mk (Kd.R_below (by (with_reducible repeat (first | apply Kd.R_alloc | apply Kd.R_drewN | apply Kd.R_drew)); exact HO9005.out) hb); have n1_ := Aside0.mk (below_step (by repeat (first | (with_reducible first | exact HB.out | apply below_alloc | apply pw_below_drewN | apply below_drew1) | exact HB.out)) hb); have n2_ := Aside0.mk (hbox); have n3_ := Aside0.mk ((by rw [hg]; exact (below_size (by repeat (first | (with_reducible first | exact HB.out | apply below_alloc | apply pw_below_drewN | apply below_drew1) | exact HB.out))) : w.heap.size ≤ gb9008)); have n4_ := Aside0.mk ((by rw [hg]; exact (below_size (by repeat (first | (with_reducible first | exact HB.out | apply below_alloc | apply pw_below_drewN | apply below_drew1) | exact HB.out))) : w.heap.size ≤ gb9008)); clear HO9005; clear HB; have HO9005 := n0_; have HB := n1_; have BK9008 := n2_; have GW9008 := n3_; have GE9008 := n4_; clear n0_ n1_ n2_ n3_ n4_; clear hb hbox hg; have hcz50_0 : w49.cell? ⟨gb9008, 0, none⟩ = some (.int .i64 0) := (blk_cell BK9008.out 0).trans rfl; have hcz50_1 : w49.cell? ⟨gb9008, 1, none⟩ = some (.slice none 0 0) := (blk_cell BK9008.out 1).trans rfl; have hcz50_2 : w49.cell? ⟨gb9008, 2, none⟩ = some (.int .i64 0) := (blk_cell BK9008.out 2).trans rfl; have hfz50_0 := blk_frozen BK9008.out 0; have hfz50_1 := blk_frozen BK9008.out 1; have hfz50_2 := blk_frozen BK9008.out 2; obtain ⟨Ao51, co51, eo51⟩ := Kd.R_slice HO9005.out; subst eo51) | (go_at_call 12; (with_reducible refine (papermilllaw52_awake.calls  t9009 _ A47.out).mono ?_); rintro e w52 ⟨rfl, hb⟩; have n0_ := Aside0.mk (Kd.R_below (by (with_reducible repeat (first | apply Kd.R_alloc | apply Kd.R_drewN | apply Kd.R_drew)); exact (Kd.R_mono (Kd.R_far (p := ⟨gb9008, 2, none⟩) (Kd.R_far (p := ⟨gb9008, 1, none⟩) (Kd.R_far (p := ⟨gb9008, 0, none⟩) (Kd.R_types HO9005.out BK9008.out (by decide)) (fun _ hk => hk.2) (.int .i64 t9002)) (fun _ hk => hk.2) (.slice Ao51 t9003.length co51)) (fun _ hk => hk.2) (.int .i64 t9006)) (fun _ h_ => h_.1))) hb); have n1_ := Aside0.mk (blk_below (g := gb9008) (o := .cells #[.int .i64 t9002, .slice Ao51 t9003.length co51, .int .i64 t9006] 25 (0, 0)) (by (with_reducible repeat (first | refine blk_drewN ?_ _ | refine blk_drew ?_ | refine blk_alloc ?_ _)); refine blk_put (cs := #[.int .i64 t9002, .slice Ao51 t9003.length co51, .int .i64 0]) ?_ 2 _ rfl; (with_reducible repeat (first | refine blk_drewN ?_ _ | refine blk_drew ?_ | refine blk_alloc ?_ _)); refine blk_put (cs := #[.int .i64 t9002, .slice none 0 0, .int .i64 0]) ?_ 1 _ rfl; (with_reducible repeat (first | refine blk_drewN ?_ _ | refine blk_drew ?_ | refine blk_alloc ?_ _)); refine blk_put (cs := #[.int .i64 0, .slice none 0 0, .int .i64 0]) ?_ 0 _ rfl; (with_reducible repeat (first | refine blk_drewN ?_ _ | refine blk_drew ?_ | refine blk_alloc ?_ _)); exact BK9008.out) hb); have n2_ := Aside0.mk (below_step (by repeat (first | (with_reducible first | exact HB.out | apply below_alloc | apply pw_below_drewN | apply below_drew1 | refine below_set ?_ GE9008.out) | exact HB.out)) hb); clear HO9005; clear BK9008; clear HB; have HO9005 := n0_; have BK9008 := n1_; have HB := n2_; clear n0_ n1_ n2_; (try clear hb); (try clear hb2); (try clear hk); (try clear hi)))
        repeat (go_quiet (first | (go_at_call 13; (with_reducible refine (sheet_Cut.calls kj4 a0 a1 _ _ l2 t9002 t9003 t9006 t9007 _ ?side1 ?side2 A10.out).mono ?_); (case side1 => repeat (first | exact (Kd.C_below HR2.out HB.out) | (with_reducible refine Kd.C_alloc ?_ _) | (with_reducible refine Kd.C_drewN ?_ _) | (with_reducible refine Kd.C_drew ?_))); (case side2 => exact HC2.out); rintro e w48 ⟨v9004, rfl, ho0, hb⟩; have n0_ := Aside0.mk (Kd.R_lower ho0 (below_size (by repeat (first | (with_reducible first | exact HB.out | apply below_alloc | apply pw_below_drewN | apply below_drew1) | exact HB.out)))); have n1_ := Aside0.mk (below_step (by repeat (first | (with_reducible first | exact HB.out | apply below_alloc | apply pw_below_drewN | apply below_drew1) | exact HB.out)) hb); clear HB; have HO9005 := n0_; have HB := n1_; clear n0_ n1_; (try clear hb); (try clear hb2); (try clear hk); (try clear hi); (try clear ho0)) | ((with_reducible refine gate_dst (N := 9) rfl ?_); (try (refine gate_guard (by rfl) ?_; dsimp only)); refine box_event ?hg (N := 9) ?hd (cs := #[.int .i64 0, .slice none 0 0, .int .i64 0]) (t := 25) ?hr ?_; (case hd => rfl); (case hg => rfl); (case hr => first | (go_simp; done) | (go_simp; rfl)); intro gb9008 hg w49 hbox hb; have n0_ := Aside0.mk (Kd.R_below (by (with_reducible repeat (first | apply Kd.R_alloc | apply Kd.R_drewN | apply Kd.R_drew)); exact HO9005.out) hb); have n1_ := Aside0.mk (below_step (by repeat (first | (with_reducible first | exact HB.out | apply below_alloc | apply pw_below_drewN | apply below_drew1) | exact HB.out)) hb); have n2_ := Aside0.mk (hbox); have n3_ := Aside0.mk ((by rw [hg]; exact (below_size (by repeat (first | (with_reducible first | exact HB.out | apply below_alloc | apply pw_below_drewN | apply below_drew1) | exact HB.out))) : w.heap.size ≤ gb9008)); have n4_ := Aside0.mk ((by rw [hg]; exact (below_size (by repeat (first | (with_reducible first | exact HB.out | apply below_alloc | apply pw_below_drewN | apply below_drew1) | exact HB.out))) : w.heap.size ≤ gb9008)); clear HO9005; clear HB; have HO9005 := n0_; have HB := n1_; have BK9008 := n2_; have GW9008 := n3_; have GE9008 := n4_; clear n0_ n1_ n2_ n3_ n4_; clear hb hbox hg; have hcz50_0 : w49.cell? ⟨gb9008, 0, none⟩ = some (.int .i64 0) := (blk_cell BK9008.out 0).trans rfl; have hcz50_1 : w49.cell? ⟨gb9008, 1, none⟩ = some (.slice none 0 0) := (blk_cell BK9008.out 1).trans rfl; have hcz50_2 : w49.cell? ⟨gb9008, 2, none⟩ = some (.int .i64 0) := (blk_cell BK9008.out 2).trans rfl; have hfz50_0 := blk_frozen BK9008.out 0; have hfz50_1 := blk_frozen BK9008.out 1; have hfz50_2 := blk_frozen BK9008.out 2; obtain ⟨Ao51, co51, eo51⟩ := Kd.R_slice HO9005.out; subst eo51) | (go_at_call 12; (with_reducible refine (papermilllaw52_awake.calls  t9009 _ A47.out).mono ?_); rintro e w52 ⟨rfl, hb⟩; have n0_ := Aside0.mk (Kd.R_below (by (with_reducible repeat (first | apply Kd.R_alloc | apply Kd.R_drewN | apply Kd.R_drew)); exact (Kd.R_mono (Kd.R_far (p := ⟨gb9008, 2, none⟩) (Kd.R_far (p := ⟨gb9008, 1, none⟩) (Kd.R_far (p := ⟨gb9008, 0, none⟩) (Kd.R_types HO9005.out BK9008.out (by decide)) (fun _ hk => hk.2) (.int .i64 t9002)) (fun _ hk => hk.2) (.slice Ao51 t9003.length co51)) (fun _ hk => hk.2) (.int .i64 t9006)) (fun _ h_ => h_.1))) hb); have n1_ := Aside0.mk (blk_below (g := gb9008) (o := .cells #[.int .i64 t9002, .slice Ao51 t9003.length co51, .int .i64 t9006] 25 (0, 0)) (by (with_reducible repeat (first | refine blk_drewN ?_ _ | refine blk_drew ?_ | refine blk_alloc ?_ _)); refine blk_put (cs := #[.int .i64 t9002, .slice Ao51 t9003.length co51, .int .i64 0]) ?_ 2 _ rfl; (with_reducible repeat (first | refine blk_drewN ?_ _ | refine blk_drew ?_ | refine blk_alloc ?_ _)); refine blk_put (cs := #[.int .i64 t9002, .slice none 0 0, .int .i64 0]) ?_ 1 _ rfl; (with_reducible repeat (first | refine blk_drewN ?_ _ | refine blk_drew ?_ | refine blk_alloc ?_ _)); refine blk_put (cs := #[.int .i64 0, .slice none 0 0, .int .i64 0]) ?_ 0 _ rfl; (with_reducible repeat (first | refine blk_drewN ?_ _ | refine blk_drew ?_ | refine blk_alloc ?_ _)); exact BK9008.out) hb); have n2_ := Aside0.mk (below_step (by repeat (first | (with_reducible first | exact HB.out | apply below_alloc | apply pw_below_drewN | apply below_drew1 | refine below_set ?_ GE9008.out) | exact HB.out)) hb); clear HO9005; clear BK9008; clear HB; have HO9005 := n0_; have BK9008 := n1_; have HB := n2_; clear n0_ n1_ n2_; (try clear hb); (try clear hb2); (try clear hk); (try clear hi))); try go_wp2_with (first | (go_at_call 13; (with_reducible refine (sheet_Cut.calls kj4 a0 a1 _ _ l2 t9002 t9003 t9006 t9007 _ ?side1 ?side2 A10.out).mono ?_); (case side1 => repeat (first | exact (Kd.C_below HR2.out HB.out) | (with_reducible refine Kd.C_alloc ?_ _) | (with_reducible refine Kd.C_drewN ?_ _) | (with_reducible refine Kd.C_drew ?_))); (case side2 => exact HC2.out); rintro e w48 ⟨v9004, rfl, ho0, hb⟩; have n0_ := Aside0.mk (Kd.R_lower ho0 (below_size (by repeat (first | (with_reducible first | exact HB.out | apply below_alloc | apply pw_below_drewN | apply below_drew1) | exact HB.out)))); have n1_ := Aside0.mk (below_step (by repeat (first | (with_reducible first | exact HB.out | apply below_alloc | apply pw_below_drewN | apply below_drew1) | exact HB.out)) hb); clear HB; have HO9005 := n0_; have HB := n1_; clear n0_ n1_; (try clear hb); (try clear hb2); (try clear hk); (try clear hi); (try clear ho0)) | ((with_reducible refine gate_dst (N := 9) rfl ?_); (try (refine gate_guard (by rfl) ?_; dsimp only)); refine box_event ?hg (N := 9) ?hd (cs := #[.int .i64 0, .slice none 0 0, .int .i64 0]) (t := 25) ?hr ?_; (case hd => rfl); (case hg => rfl); (case hr => first | (go_simp; done) | (go_simp; rfl)); intro gb9008 hg w49 hbox hb; have n0_ := Aside0.mk (Kd.R_below (by (with_reducible repeat (first | apply Kd.R_alloc | apply Kd.R_drewN | apply Kd.R_drew)); exact HO9005.out) hb); have n1_ := Aside0.mk (below_step (by repeat (first | (with_reducible first | exact HB.out | apply below_alloc | apply pw_below_drewN | apply below_drew1) | exact HB.out)) hb); have n2_ := Aside0.mk (hbox); have n3_ := Aside0.mk ((by rw [hg]; exact (below_size (by repeat (first | (with_reducible first | exact HB.out | apply below_alloc | apply pw_below_drewN | apply below_drew1) | exact HB.out))) : w.heap.size ≤ gb9008)); have n4_ := Aside0.mk ((by rw [hg]; exact (below_size (by repeat (first | (with_reducible first | exact HB.out | apply below_alloc | apply pw_below_drewN | apply below_drew1) | exact HB.out))) : w.heap.size ≤ gb9008)); clear HO9005; clear HB; have HO9005 := n0_; have HB := n1_; have BK9008 := n2_; have GW9008 := n3_; have GE9008 := n4_; clear n0_ n1_ n2_ n3_ n4_; clear hb hbox hg; have hcz50_0 : w49.cell? ⟨gb9008, 0, none⟩ = some (.int .i64 0) := (blk_cell BK9008.out 0).trans rfl; have hcz50_1 : w49.cell? ⟨gb9008, 1, none⟩ = some (.slice none 0 0) := (blk_cell BK9008.out 1).trans rfl; have hcz50_2 : w49.cell? ⟨gb9008, 2, none⟩ = some (.int .i64 0) := (blk_cell BK9008.out 2).trans rfl; have hfz50_0 := blk_frozen BK9008.out 0; have hfz50_1 := blk_frozen BK9008.out 1; have hfz50_2 := blk_frozen BK9008.out 2; obtain ⟨Ao51, co51, eo51⟩ := Kd.R_slice HO9005.out; subst eo51) | (go_at_call 12; (with_reducible refine (papermilllaw52_awake.calls  t9009 _ A47.out).mono ?_); rintro e w52 ⟨rfl, hb⟩; have n0_ := Aside0.mk (Kd.R_below (by (with_reducible repeat (first | apply Kd.R_alloc | apply Kd.R_drewN | apply Kd.R_drew)); exact (Kd.R_mono (Kd.R_far (p := ⟨gb9008, 2, none⟩) (Kd.R_far (p := ⟨gb9008, 1, none⟩) (Kd.R_far (p := ⟨gb9008, 0, none⟩) (Kd.R_types HO9005.out BK9008.out (by decide)) (fun _ hk => hk.2) (.int .i64 t9002)) (fun _ hk => hk.2) (.slice Ao51 t9003.length co51)) (fun _ hk => hk.2) (.int .i64 t9006)) (fun _ h_ => h_.1))) hb); have n1_ := Aside0.mk (blk_below (g := gb9008) (o := .cells #[.int .i64 t9002, .slice Ao51 t9003.length co51, .int .i64 t9006] 25 (0, 0)) (by (with_reducible repeat (first | refine blk_drewN ?_ _ | refine blk_drew ?_ | refine blk_alloc ?_ _)); refine blk_put (cs := #[.int .i64 t9002, .slice Ao51 t9003.length co51, .int .i64 0]) ?_ 2 _ rfl; (with_reducible repeat (first | refine blk_drewN ?_ _ | refine blk_drew ?_ | refine blk_alloc ?_ _)); refine blk_put (cs := #[.int .i64 t9002, .slice none 0 0, .int .i64 0]) ?_ 1 _ rfl; (with_reducible repeat (first | refine blk_drewN ?_ _ | refine blk_drew ?_ | refine blk_alloc ?_ _)); refine blk_put (cs := #[.int .i64 0, .slice none 0 0, .int .i64 0]) ?_ 0 _ rfl; (with_reducible repeat (first | refine blk_drewN ?_ _ | refine blk_drew ?_ | refine blk_alloc ?_ _)); exact BK9008.out) hb); have n2_ := Aside0.mk (below_step (by repeat (first | (with_reducible first | exact HB.out | apply below_alloc | apply pw_below_drewN | apply below_drew1 | refine below_set ?_ GE9008.out) | exact HB.out)) hb); clear HO9005; clear BK9008; clear HB; have HO9005 := n0_; have BK9008 := n1_; have HB := n2_; clear n0_ n1_ n2_; (try clear hb); (try clear hb2); (try clear hk); (try clear hi))))
        go_ret
        exact ⟨by first | rfl | (simp [errW_none, errW_some] <;> rfl) | (simp [*, errW_none, errW_some] <;> rfl), by repeat (first | (with_reducible first | exact HB.out | apply below_alloc | apply pw_below_drewN | apply below_drew1 | refine below_set ?_ GE9008.out) | exact HB.out)⟩
       ·rw [if_neg c46] at H
        have c46b0 : (t9006 == 0) = false := beq_eq_false_iff_ne.mpr c46
        have c46b1 : (t9006 != 0) = true := bne_iff_ne.mpr c46
        obtain rfl := Option.some.inj H
        go_wp2_with (first | (go_at_call 13; (with_reducible refine (sheet_Cut.calls kj4 a0 a1 _ _ l2 t9002 t9003 t9006 t9007 _ ?side1 ?side2 A10.out).mono ?_); (case side1 => repeat (first | exact (Kd.C_below HR2.out HB.out) | (with_reducible refine Kd.C_alloc ?_ _) | (with_reducible refine Kd.C_drewN ?_ _) | (with_reducible refine Kd.C_drew ?_))); (case side2 => exact HC2.out); rintro e w53 ⟨v9004, rfl, ho0, hb⟩; have n0_ := Aside0.mk (Kd.R_lower ho0 (below_size (by repeat (first | (with_reducible first | exact HB.out | apply below_alloc | apply pw_below_drewN | apply below_drew1) | exact HB.out)))); have n1_ := Aside0.mk (below_step (by repeat (first | (with_reducible first | exact HB.out | apply below_alloc | apply pw_below_drewN | apply below_drew1) | exact HB.out)) hb); clear HB; have HO9005 := n0_; have HB := n1_; clear n0_ n1_; (try clear hb); (try clear hb2); (try clear hk); (try clear hi); (try clear ho0)) | ((with_reducible refine gate_dst (N := 9) rfl ?_); (try (refine gate_guard (by rfl) ?_; dsimp only)); refine box_event ?hg (N := 9) ?hd (cs := #[.int .i64 0, .slice none 0 0, .int .i64 0]) (t := 25) ?hr ?_; (case hd => rfl); (case hg => rfl); (case hr => first | (go_simp; done) | (go_simp; rfl)); intro gb9008 hg w54 hbox hb; have n0_ := Aside0.mk (Kd.R_below (by (with_reducible repeat (first | apply Kd.R_alloc | apply Kd.R_drewN | apply Kd.R_drew)); exact HO9005.out) hb); have n1_ := Aside0.mk (below_step (by repeat (first | (with_reducible first | exact HB.out | apply below_alloc | apply pw_below_drewN | apply below_drew1) | exact HB.out)) hb); have n2_ := Aside0.mk (hbox); have n3_ := Aside0.mk ((by rw [hg]; exact (below_size (by repeat (first | (with_reducible first | exact HB.out | apply below_alloc | apply pw_below_drewN | apply below_drew1) | exact HB.out))) : w.heap.size ≤ gb9008)); have n4_ := Aside0.mk ((by rw [hg]; exact (below_size (by repeat (first | (with_reducible first | exact HB.out | apply below_alloc | apply pw_below_drewN | apply below_drew1) | exact HB.out))) : w.heap.size ≤ gb9008)); clear HO9005; clear HB; have HO9005 := n0_; have HB := n1_; have BK9008 := n2_; have GW9008 := n3_; have GE9008 := n4_; clear n0_ n1_ n2_ n3_ n4_; clear hb hbox hg; have hcz55_0 : w54.cell? ⟨gb9008, 0, none⟩ = some (.int .i64 0) := (blk_cell BK9008.out 0).trans rfl; have hcz55_1 : w54.cell? ⟨gb9008, 1, none⟩ = some (.slice none 0 0) := (blk_cell BK9008.out 1).trans rfl; have hcz55_2 : w54.cell? ⟨gb9008, 2, none⟩ = some (.int .i64 0) := (blk_cell BK9008.out 2).trans rfl; have hfz55_0 := blk_frozen BK9008.out 0; have hfz55_1 := blk_frozen BK9008.out 1; have hfz55_2 := blk_frozen BK9008.out 2; obtain ⟨Ao56, co56, eo56⟩ := Kd.R_slice HO9005.out; subst eo56))
        repeat (go_quiet (first | (go_at_call 13; (with_reducible refine (sheet_Cut.calls kj4 a0 a1 _ _ l2 t9002 t9003 t9006 t9007 _ ?side1 ?side2 A10.out).mono ?_); (case side1 => repeat (first | exact (Kd.C_below HR2.out HB.out) | (with_reducible refine Kd.C_alloc ?_ _) | (with_reducible refine Kd.C_drewN ?_ _) | (with_reducible refine Kd.C_drew ?_))); (case side2 => exact HC2.out); rintro e w53 ⟨v9004, rfl, ho0, hb⟩; have n0_ := Aside0.mk (Kd.R_lower ho0 (below_size (by repeat (first | (with_reducible first | exact HB.out | apply below_alloc | apply pw_below_drewN | apply below_drew1) | exact HB.out)))); have n1_ := Aside0.mk (below_step (by repeat (first | (with_reducible first | exact HB.out | apply below_alloc | apply pw_below_drewN | apply below_drew1) | exact HB.out)) hb); clear HB; have HO9005 := n0_; have HB := n1_; clear n0_ n1_; (try clear hb); (try clear hb2); (try clear hk); (try clear hi); (try clear ho0)) | ((with_reducible refine gate_dst (N := 9) rfl ?_); (try (refine gate_guard (by rfl) ?_; dsimp only)); refine box_event ?hg (N := 9) ?hd (cs := #[.int .i64 0, .slice none 0 0, .int .i64 0]) (t := 25) ?hr ?_; (case hd => rfl); (case hg => rfl); (case hr => first | (go_simp; done) | (go_simp; rfl)); intro gb9008 hg w54 hbox hb; have n0_ := Aside0.mk (Kd.R_below (by (with_reducible repeat (first | apply Kd.R_alloc | apply Kd.R_drewN | apply Kd.R_drew)); exact HO9005.out) hb); have n1_ := Aside0.mk (below_step (by repeat (first | (with_reducible first | exact HB.out | apply below_alloc | apply pw_below_drewN | apply below_drew1) | exact HB.out)) hb); have n2_ := Aside0.mk (hbox); have n3_ := Aside0.mk ((by rw [hg]; exact (below_size (by repeat (first | (with_reducible first | exact HB.out | apply below_alloc | apply pw_below_drewN | apply below_drew1) | exact HB.out))) : w.heap.size ≤ gb9008)); have n4_ := Aside0.mk ((by rw [hg]; exact (below_size (by repeat (first | (with_reducible first | exact HB.out | apply below_alloc | apply pw_below_drewN | apply below_drew1) | exact HB.out))) : w.heap.size ≤ gb9008)); clear HO9005; clear HB; have HO9005 := n0_; have HB := n1_; have BK9008 := n2_; have GW9008 := n3_; have GE9008 := n4_; clear n0_ n1_ n2_ n3_ n4_; clear hb hbox hg; have hcz55_0 : w54.cell? ⟨gb9008, 0, none⟩ = some (.int .i64 0) := (blk_cell BK9008.out 0).trans rfl; have hcz55_1 : w54.cell? ⟨gb9008, 1, none⟩ = some (.slice none 0 0) := (blk_cell BK9008.out 1).trans rfl; have hcz55_2 : w54.cell? ⟨gb9008, 2, none⟩ = some (.int .i64 0) := (blk_cell BK9008.out 2).trans rfl; have hfz55_0 := blk_frozen BK9008.out 0; have hfz55_1 := blk_frozen BK9008.out 1; have hfz55_2 := blk_frozen BK9008.out 2; obtain ⟨Ao56, co56, eo56⟩ := Kd.R_slice HO9005.out; subst eo56)); try go_wp2_with (first | (go_at_call 13; (with_reducible refine (sheet_Cut.calls kj4 a0 a1 _ _ l2 t9002 t9003 t9006 t9007 _ ?side1 ?side2 A10.out).mono ?_); (case side1 => repeat (first | exact (Kd.C_below HR2.out HB.out) | (with_reducible refine Kd.C_alloc ?_ _) | (with_reducible refine Kd.C_drewN ?_ _) | (with_reducible refine Kd.C_drew ?_))); (case side2 => exact HC2.out); rintro e w53 ⟨v9004, rfl, ho0, hb⟩; have n0_ := Aside0.mk (Kd.R_lower ho0 (below_size (by repeat (first | (with_reducible first | exact HB.out | apply below_alloc | apply pw_below_drewN | apply below_drew1) | exact HB.out)))); have n1_ := Aside0.mk (below_step (by repeat (first | (with_reducible first | exact HB.out | apply below_alloc | apply pw_below_drewN | apply below_drew1) | exact HB.out)) hb); clear HB; have HO9005 := n0_; have HB := n1_; clear n0_ n1_; (try clear hb); (try clear hb2); (try clear hk); (try clear hi); (try clear ho0)) | ((with_reducible refine gate_dst (N := 9) rfl ?_); (try (refine gate_guard (by rfl) ?_; dsimp only)); refine box_event ?hg (N := 9) ?hd (cs := #[.int .i64 0, .slice none 0 0, .int .i64 0]) (t := 25) ?hr ?_; (case hd => rfl); (case hg => rfl); (case hr => first | (go_simp; done) | (go_simp; rfl)); intro gb9008 hg w54 hbox hb; have n0_ := Aside0.mk (Kd.R_below (by (with_reducible repeat (first | apply Kd.R_alloc | apply Kd.R_drewN | apply Kd.R_drew)); exact HO9005.out) hb); have n1_ := Aside0.mk (below_step (by repeat (first | (with_reducible first | exact HB.out | apply below_alloc | apply pw_below_drewN | apply below_drew1) | exact HB.out)) hb); have n2_ := Aside0.mk (hbox); have n3_ := Aside0.mk ((by rw [hg]; exact (below_size (by repeat (first | (with_reducible first | exact HB.out | apply below_alloc | apply pw_below_drewN | apply below_drew1) | exact HB.out))) : w.heap.size ≤ gb9008)); have n4_ := Aside0.mk ((by rw [hg]; exact (below_size (by repeat (first | (with_reducible first | exact HB.out | apply below_alloc | apply pw_below_drewN | apply below_drew1) | exact HB.out))) : w.heap.size ≤ gb9008)); clear HO9005; clear HB; have HO9005 := n0_; have HB := n1_; have BK9008 := n2_; have GW9008 := n3_; have GE9008 := n4_; clear n0_ n1_ n2_ n3_ n4_; clear hb hbox hg; have hcz55_0 : w54.cell? ⟨gb9008, 0, none⟩ = some (.int .i64 0) := (blk_cell BK9008.out 0).trans rfl; have hcz55_1 : w54.cell? ⟨gb9008, 1, none⟩ = some (.slice none 0 0) := (blk_cell BK9008.out 1).trans rfl; have hcz55_2 : w54.cell? ⟨gb9008, 2, none⟩ = some (.int .i64 0) := (blk_cell BK9008.out 2).trans rfl; have hfz55_0 := blk_frozen BK9008.out 0; have hfz55_1 := blk_frozen BK9008.out 1; have hfz55_2 := blk_frozen BK9008.out 2; obtain ⟨Ao56, co56, eo56⟩ := Kd.R_slice HO9005.out; subst eo56)))
        go_ret
        exact ⟨by first | rfl | (simp [errW_none, errW_some] <;> rfl) | (simp [*, errW_none, errW_some] <;> rfl), by repeat (first | (with_reducible first | exact HB.out | apply below_alloc | apply pw_below_drewN | apply below_drew1 | refine below_set ?_ GE9008.out) | exact HB.out)⟩
      ·rw [if_neg c45] at H
       have c45b0 : ((t9003.length : Int) == 0) = false := beq_eq_false_iff_ne.mpr c45
       have c45b1 : ((t9003.length : Int) != 0) = true := bne_iff_ne.mpr c45
       have c45b2 : ¬ (t9003 = []) := fun h_ => c45 (by rw [h_]; rfl)
       obtain rfl := Option.some.inj H
       go_wp2_with (first | (go_at_call 13; (with_reducible refine (sheet_Cut.calls kj4 a0 a1 _ _ l2 t9002 t9003 t9006 t9007 _ ?side1 ?side2 A10.out).mono ?_); (case side1 => repeat (first | exact (Kd.C_below HR2.out HB.out) | (with_reducible refine Kd.C_alloc ?_ _) | (with_reducible refine Kd.C_drewN ?_ _) | (with_reducible refine Kd.C_drew ?_))); (case side2 => exact HC2.out); rintro e w57 ⟨v9004, rfl, ho0, hb⟩; have n0_ := Aside0.mk (Kd.R_lower ho0 (below_size (by repeat (first | (with_reducible first | exact HB.out | apply below_alloc | apply pw_below_drewN | apply below_drew1) | exact HB.out)))); have n1_ := Aside0.mk (below_step (by repeat (first | (with_reducible first | exact HB.out | apply below_alloc | apply pw_below_drewN | apply below_drew1) | exact HB.out)) hb); clear HB; have HO9005 := n0_; have HB := n1_; clear n0_ n1_; (try clear hb); (try clear hb2); (try clear hk); (try clear hi); (try clear ho0)) | ((with_reducible refine gate_dst (N := 9) rfl ?_); (try (refine gate_guard (by rfl) ?_; dsimp only)); refine box_event ?hg (N := 9) ?hd (cs := #[.int .i64 0, .slice none 0 0, .int .i64 0]) (t := 25) ?hr ?_; (case hd => rfl); (case hg => rfl); (case hr => first | (go_simp; done) | (go_simp; rfl)); intro gb9008 hg w58 hbox hb; have n0_ := Aside0.mk (Kd.R_below (by (with_reducible repeat (first | apply Kd.R_alloc | apply Kd.R_drewN | apply Kd.R_drew)); exact HO9005.out) hb); have n1_ := Aside0.mk (below_step (by repeat (first | (with_reducible first | exact HB.out | apply below_alloc | apply pw_below_drewN | apply below_drew1) | exact HB.out)) hb); have n2_ := Aside0.mk (hbox); have n3_ := Aside0.mk ((by rw [hg]; exact (below_size (by repeat (first | (with_reducible first | exact HB.out | apply below_alloc | apply pw_below_drewN | apply below_drew1) | exact HB.out))) : w.heap.size ≤ gb9008)); have n4_ := Aside0.mk ((by rw [hg]; exact (below_size (by repeat (first | (with_reducible first | exact HB.out | apply below_alloc | apply pw_below_drewN | apply below_drew1) | exact HB.out))) : w.heap.size ≤ gb9008)); clear HO9005; clear HB; have HO9005 := n0_; have HB := n1_; have BK9008 := n2_; have GW9008 := n3_; have GE9008 := n4_; clear n0_ n1_ n2_ n3_ n4_; clear hb hbox hg; have hcz59_0 : w58.cell? ⟨gb9008, 0, none⟩ = some (.int .i64 0) := (blk_cell BK9008.out 0).trans rfl; have hcz59_1 : w58.cell? ⟨gb9008, 1, none⟩ = some (.slice none 0 0) := (blk_cell BK9008.out 1).trans rfl; have hcz59_2 : w58.cell? ⟨gb9008, 2, none⟩ = some (.int .i64 0) := (blk_cell BK9008.out 2).trans rfl; have hfz59_0 := blk_frozen BK9008.out 0; have hfz59_1 := blk_frozen BK9008.out 1; have hfz59_2 := blk_frozen BK9008.out 2; obtain ⟨Ao60, co60, eo60⟩ := Kd.R_slice HO9005.out; subst eo60))
       repeat (go_quiet (first | (go_at_call 13; (with_reducible refine (sheet_Cut.calls kj4 a0 a1 _ _ l2 t9002 t9003 t9006 t9007 _ ?side1 ?side2 A10.out).mono ?_); (case side1 => repeat (first | exact (Kd.C_below HR2.out HB.out) | (with_reducible refine Kd.C_alloc ?_ _) | (with_reducible refine Kd.C_drewN ?_ _) | (with_reducible refine Kd.C_drew ?_))); (case side2 => exact HC2.out); rintro e w57 ⟨v9004, rfl, ho0, hb⟩; have n0_ := Aside0.mk (Kd.R_lower ho0 (below_size (by repeat (first | (with_reducible first | exact HB.out | apply below_alloc | apply pw_below_drewN | apply below_drew1) | exact HB.out)))); have n1_ := Aside0.mk (below_step (by repeat (first | (with_reducible first | exact HB.out | apply below_alloc | apply pw_below_drewN | apply below_drew1) | exact HB.out)) hb); clear HB; have HO9005 := n0_; have HB := n1_; clear n0_ n1_; (try clear hb); (try clear hb2); (try clear hk); (try clear hi); (try clear ho0)) | ((with_reducible refine gate_dst (N := 9) rfl ?_); (try (refine gate_guard (by rfl) ?_; dsimp only)); refine box_event ?hg (N := 9) ?hd (cs := #[.int .i64 0, .slice none 0 0, .int .i64 0]) (t := 25) ?hr ?_; (case hd => rfl); (case hg => rfl); (case hr => first | (go_simp; done) | (go_simp; rfl)); intro gb9008 hg w58 hbox hb; have n0_ := Aside0.mk (Kd.R_below (by (with_reducible repeat (first | apply Kd.R_alloc | apply Kd.R_drewN | apply Kd.R_drew)); exact HO9005.out) hb); have n1_ := Aside0.mk (below_step (by repeat (first | (with_reducible first | exact HB.out | apply below_alloc | apply pw_below_drewN | apply below_drew1) | exact HB.out)) hb); have n2_ := Aside0.mk (hbox); have n3_ := Aside0.mk ((by rw [hg]; exact (below_size (by repeat (first | (with_reducible first | exact HB.out | apply below_alloc | apply pw_below_drewN | apply below_drew1) | exact HB.out))) : w.heap.size ≤ gb9008)); have n4_ := Aside0.mk ((by rw [hg]; exact (below_size (by repeat (first | (with_reducible first | exact HB.out | apply below_alloc | apply pw_below_drewN | apply below_drew1) | exact HB.out))) : w.heap.size ≤ gb9008)); clear HO9005; clear HB; have HO9005 := n0_; have HB := n1_; have BK9008 := n2_; have GW9008 := n3_; have GE9008 := n4_; clear n0_ n1_ n2_ n3_ n4_; clear hb hbox hg; have hcz59_0 : w58.cell? ⟨gb9008, 0, none⟩ = some (.int .i64 0) := (blk_cell BK9008.out 0).trans rfl; have hcz59_1 : w58.cell? ⟨gb9008, 1, none⟩ = some (.slice none 0 0) := (blk_cell BK9008.out 1).trans rfl; have hcz59_2 : w58.cell? ⟨gb9008, 2, none⟩ = some (.int .i64 0) := (blk_cell BK9008.out 2).trans rfl; have hfz59_0 := blk_frozen BK9008.out 0; have hfz59_1 := blk_frozen BK9008.out 1; have hfz59_2 := blk_frozen BK9008.out 2; obtain ⟨Ao60, co60, eo60⟩ := Kd.R_slice HO9005.out; subst eo60)); try go_wp2_with (first | (go_at_call 13; (with_reducible refine (sheet_Cut.calls kj4 a0 a1 _ _ l2 t9002 t9003 t9006 t9007 _ ?side1 ?side2 A10.out).mono ?_); (case side1 => repeat (first | exact (Kd.C_below HR2.out HB.out) | (with_reducible refine Kd.C_alloc ?_ _) | (with_reducible refine Kd.C_drewN ?_ _) | (with_reducible refine Kd.C_drew ?_))); (case side2 => exact HC2.out); rintro e w57 ⟨v9004, rfl, ho0, hb⟩; have n0_ := Aside0.mk (Kd.R_lower ho0 (below_size (by repeat (first | (with_reducible first | exact HB.out | apply below_alloc | apply pw_below_drewN | apply below_drew1) | exact HB.out)))); have n1_ := Aside0.mk (below_step (by repeat (first | (with_reducible first | exact HB.out | apply below_alloc | apply pw_below_drewN | apply below_drew1) | exact HB.out)) hb); clear HB; have HO9005 := n0_; have HB := n1_; clear n0_ n1_; (try clear hb); (try clear hb2); (try clear hk); (try clear hi); (try clear ho0)) | ((with_reducible refine gate_dst (N := 9) rfl ?_); (try (refine gate_guard (by rfl) ?_; dsimp only)); refine box_event ?hg (N := 9) ?hd (cs := #[.int .i64 0, .slice none 0 0, .int .i64 0]) (t := 25) ?hr ?_; (case hd => rfl); (case hg => rfl); (case hr => first | (go_simp; done) | (go_simp; rfl)); intro gb9008 hg w58 hbox hb; have n0_ := Aside0.mk (Kd.R_below (by (with_reducible repeat (first | apply Kd.R_alloc | apply Kd.R_drewN | apply Kd.R_drew)); exact HO9005.out) hb); have n1_ := Aside0.mk (below_step (by repeat (first | (with_reducible first | exact HB.out | apply below_alloc | apply pw_below_drewN | apply below_drew1) | exact HB.out)) hb); have n2_ := Aside0.mk (hbox); have n3_ := Aside0.mk ((by rw [hg]; exact (below_size (by repeat (first | (with_reducible first | exact HB.out | apply below_alloc | apply pw_below_drewN | apply below_drew1) | exact HB.out))) : w.heap.size ≤ gb9008)); have n4_ := Aside0.mk ((by rw [hg]; exact (below_size (by repeat (first | (with_reducible first | exact HB.out | apply below_alloc | apply pw_below_drewN | apply below_drew1) | exact HB.out))) : w.heap.size ≤ gb9008)); clear HO9005; clear HB; have HO9005 := n0_; have HB := n1_; have BK9008 := n2_; have GW9008 := n3_; have GE9008 := n4_; clear n0_ n1_ n2_ n3_ n4_; clear hb hbox hg; have hcz59_0 : w58.cell? ⟨gb9008, 0, none⟩ = some (.int .i64 0) := (blk_cell BK9008.out 0).trans rfl; have hcz59_1 : w58.cell? ⟨gb9008, 1, none⟩ = some (.slice none 0 0) := (blk_cell BK9008.out 1).trans rfl; have hcz59_2 : w58.cell? ⟨gb9008, 2, none⟩ = some (.int .i64 0) := (blk_cell BK9008.out 2).trans rfl; have hfz59_0 := blk_frozen BK9008.out 0; have hfz59_1 := blk_frozen BK9008.out 1; have hfz59_2 := blk_frozen BK9008.out 2; obtain ⟨Ao60, co60, eo60⟩ := Kd.R_slice HO9005.out; subst eo60)))
       go_ret
       exact ⟨by first | rfl | (simp [errW_none, errW_some] <;> rfl) | (simp [*, errW_none, errW_some] <;> rfl), by repeat (first | (with_reducible first | exact HB.out | apply below_alloc | apply pw_below_drewN | apply below_drew1 | refine below_set ?_ GE9008.out) | exact HB.out)⟩
     ·rw [if_neg c44] at H
      have c44b0 : (t9002 == 0) = false := beq_eq_false_iff_ne.mpr c44
      have c44b1 : (t9002 != 0) = true := bne_iff_ne.mpr c44
      obtain rfl := Option.some.inj H
      go_wp2_with (first | (go_at_call 13; (with_reducible refine (sheet_Cut.calls kj4 a0 a1 _ _ l2 t9002 t9003 t9006 t9007 _ ?side1 ?side2 A10.out).mono ?_); (case side1 => repeat (first | exact (Kd.C_below HR2.out HB.out) | (with_reducible refine Kd.C_alloc ?_ _) | (with_reducible refine Kd.C_drewN ?_ _) | (with_reducible refine Kd.C_drew ?_))); (case side2 => exact HC2.out); rintro e w61 ⟨v9004, rfl, ho0, hb⟩; have n0_ := Aside0.mk (Kd.R_lower ho0 (below_size (by repeat (first | (with_reducible first | exact HB.out | apply below_alloc | apply pw_below_drewN | apply below_drew1) | exact HB.out)))); have n1_ := Aside0.mk (below_step (by repeat (first | (with_reducible first | exact HB.out | apply below_alloc | apply pw_below_drewN | apply below_drew1) | exact HB.out)) hb); clear HB; have HO9005 := n0_; have HB := n1_; clear n0_ n1_; (try clear hb); (try clear hb2); (try clear hk); (try clear hi); (try clear ho0)) | ((with_reducible refine gate_dst (N := 9) rfl ?_); (try (refine gate_guard (by rfl) ?_; dsimp only)); refine box_event ?hg (N := 9) ?hd (cs := #[.int .i64 0, .slice none 0 0, .int .i64 0]) (t := 25) ?hr ?_; (case hd => rfl); (case hg => rfl); (case hr => first | (go_simp; done) | (go_simp; rfl)); intro gb9008 hg w62 hbox hb; have n0_ := Aside0.mk (Kd.R_below (by (with_reducible repeat (first | apply Kd.R_alloc | apply Kd.R_drewN | apply Kd.R_drew)); exact HO9005.out) hb); have n1_ := Aside0.mk (below_step (by repeat (first | (with_reducible first | exact HB.out | apply below_alloc | apply pw_below_drewN | apply below_drew1) | exact HB.out)) hb); have n2_ := Aside0.mk (hbox); have n3_ := Aside0.mk ((by rw [hg]; exact (below_size (by repeat (first | (with_reducible first | exact HB.out | apply below_alloc | apply pw_below_drewN | apply below_drew1) | exact HB.out))) : w.heap.size ≤ gb9008)); have n4_ := Aside0.mk ((by rw [hg]; exact (below_size (by repeat (first | (with_reducible first | exact HB.out | apply below_alloc | apply pw_below_drewN | apply below_drew1) | exact HB.out))) : w.heap.size ≤ gb9008)); clear HO9005; clear HB; have HO9005 := n0_; have HB := n1_; have BK9008 := n2_; have GW9008 := n3_; have GE9008 := n4_; clear n0_ n1_ n2_ n3_ n4_; clear hb hbox hg; have hcz63_0 : w62.cell? ⟨gb9008, 0, none⟩ = some (.int .i64 0) := (blk_cell BK9008.out 0).trans rfl; have hcz63_1 : w62.cell? ⟨gb9008, 1, none⟩ = some (.slice none 0 0) := (blk_cell BK9008.out 1).trans rfl; have hcz63_2 : w62.cell? ⟨gb9008, 2, none⟩ = some (.int .i64 0) := (blk_cell BK9008.out 2).trans rfl; have hfz63_0 := blk_frozen BK9008.out 0; have hfz63_1 := blk_frozen BK9008.out 1; have hfz63_2 := blk_frozen BK9008.out 2; obtain ⟨Ao64, co64, eo64⟩ := Kd.R_slice HO9005.out; subst eo64))
      repeat (go_quiet (first | (go_at_call 13; (with_reducible refine (sheet_Cut.calls kj4 a0 a1 _ _ l2 t9002 t9003 t9006 t9007 _ ?side1 ?side2 A10.out).mono ?_); (case side1 => repeat (first | exact (Kd.C_below HR2.out HB.out) | (with_reducible refine Kd.C_alloc ?_ _) | (with_reducible refine Kd.C_drewN ?_ _) | (with_reducible refine Kd.C_drew ?_))); (case side2 => exact HC2.out); rintro e w61 ⟨v9004, rfl, ho0, hb⟩; have n0_ := Aside0.mk (Kd.R_lower ho0 (below_size (by repeat (first | (with_reducible first | exact HB.out | apply below_alloc | apply pw_below_drewN | apply below_drew1) | exact HB.out)))); have n1_ := Aside0.mk (below_step (by repeat (first | (with_reducible first | exact HB.out | apply below_alloc | apply pw_below_drewN | apply below_drew1) | exact HB.out)) hb); clear HB; have HO9005 := n0_; have HB := n1_; clear n0_ n1_; (try clear hb); (try clear hb2); (try clear hk); (try clear hi); (try clear ho0)) | ((with_reducible refine gate_dst (N := 9) rfl ?_); (try (refine gate_guard (by rfl) ?_; dsimp only)); refine box_event ?hg (N := 9) ?hd (cs := #[.int .i64 0, .slice none 0 0, .int .i64 0]) (t := 25) ?hr ?_; (case hd => rfl); (case hg => rfl); (case hr => first | (go_simp; done) | (go_simp; rfl)); intro gb9008 hg w62 hbox hb; have n0_ := Aside0.mk (Kd.R_below (by (with_reducible repeat (first | apply Kd.R_alloc | apply Kd.R_drewN | apply Kd.R_drew)); exact HO9005.out) hb); have n1_ := Aside0.mk (below_step (by repeat (first | (with_reducible first | exact HB.out | apply below_alloc | apply pw_below_drewN | apply below_drew1) | exact HB.out)) hb); have n2_ := Aside0.mk (hbox); have n3_ := Aside0.mk ((by rw [hg]; exact (below_size (by repeat (first | (with_reducible first | exact HB.out | apply below_alloc | apply pw_below_drewN | apply below_drew1) | exact HB.out))) : w.heap.size ≤ gb9008)); have n4_ := Aside0.mk ((by rw [hg]; exact (below_size (by repeat (first | (with_reducible first | exact HB.out | apply below_alloc | apply pw_below_drewN | apply below_drew1) | exact HB.out))) : w.heap.size ≤ gb9008)); clear HO9005; clear HB; have HO9005 := n0_; have HB := n1_; have BK9008 := n2_; have GW9008 := n3_; have GE9008 := n4_; clear n0_ n1_ n2_ n3_ n4_; clear hb hbox hg; have hcz63_0 : w62.cell? ⟨gb9008, 0, none⟩ = some (.int .i64 0) := (blk_cell BK9008.out 0).trans rfl; have hcz63_1 : w62.cell? ⟨gb9008, 1, none⟩ = some (.slice none 0 0) := (blk_cell BK9008.out 1).trans rfl; have hcz63_2 : w62.cell? ⟨gb9008, 2, none⟩ = some (.int .i64 0) := (blk_cell BK9008.out 2).trans rfl; have hfz63_0 := blk_frozen BK9008.out 0; have hfz63_1 := blk_frozen BK9008.out 1; have hfz63_2 := blk_frozen BK9008.out 2; obtain ⟨Ao64, co64, eo64⟩ := Kd.R_slice HO9005.out; subst eo64)); try go_wp2_with (first | (go_at_call 13; (with_reducible refine (sheet_Cut.calls kj4 a0 a1 _ _ l2 t9002 t9003 t9006 t9007 _ ?side1 ?side2 A10.out).mono ?_); (case side1 => repeat (first | exact (Kd.C_below HR2.out HB.out) | (with_reducible refine Kd.C_alloc ?_ _) | (with_reducible refine Kd.C_drewN ?_ _) | (with_reducible refine Kd.C_drew ?_))); (case side2 => exact HC2.out); rintro e w61 ⟨v9004, rfl, ho0, hb⟩; have n0_ := Aside0.mk (Kd.R_lower ho0 (below_size (by repeat (first | (with_reducible first | exact HB.out | apply below_alloc | apply pw_below_drewN | apply below_drew1) | exact HB.out)))); have n1_ := Aside0.mk (below_step (by repeat (first | (with_reducible first | exact HB.out | apply below_alloc | apply pw_below_drewN | apply below_drew1) | exact HB.out)) hb); clear HB; have HO9005 := n0_; have HB := n1_; clear n0_ n1_; (try clear hb); (try clear hb2); (try clear hk); (try clear hi); (try clear ho0)) | ((with_reducible refine gate_dst (N := 9) rfl ?_); (try (refine gate_guard (by rfl) ?_; dsimp only)); refine box_event ?hg (N := 9) ?hd (cs := #[.int .i64 0, .slice none 0 0, .int .i64 0]) (t := 25) ?hr ?_; (case hd => rfl); (case hg => rfl); (case hr => first | (go_simp; done) | (go_simp; rfl)); intro gb9008 hg w62 hbox hb; have n0_ := Aside0.mk (Kd.R_below (by (with_reducible repeat (first | apply Kd.R_alloc | apply Kd.R_drewN | apply Kd.R_drew)); exact HO9005.out) hb); have n1_ := Aside0.mk (below_step (by repeat (first | (with_reducible first | exact HB.out | apply below_alloc | apply pw_below_drewN | apply below_drew1) | exact HB.out)) hb); have n2_ := Aside0.mk (hbox); have n3_ := Aside0.mk ((by rw [hg]; exact (below_size (by repeat (first | (with_reducible first | exact HB.out | apply below_alloc | apply pw_below_drewN | apply below_drew1) | exact HB.out))) : w.heap.size ≤ gb9008)); have n4_ := Aside0.mk ((by rw [hg]; exact (below_size (by repeat (first | (with_reducible first | exact HB.out | apply below_alloc | apply pw_below_drewN | apply below_drew1) | exact HB.out))) : w.heap.size ≤ gb9008)); clear HO9005; clear HB; have HO9005 := n0_; have HB := n1_; have BK9008 := n2_; have GW9008 := n3_; have GE9008 := n4_; clear n0_ n1_ n2_ n3_ n4_; clear hb hbox hg; have hcz63_0 : w62.cell? ⟨gb9008, 0, none⟩ = some (.int .i64 0) := (blk_cell BK9008.out 0).trans rfl; have hcz63_1 : w62.cell? ⟨gb9008, 1, none⟩ = some (.slice none 0 0) := (blk_cell BK9008.out 1).trans rfl; have hcz63_2 : w62.cell? ⟨gb9008, 2, none⟩ = some (.int .i64 0) := (blk_cell BK9008.out 2).trans rfl; have hfz63_0 := blk_frozen BK9008.out 0; have hfz63_1 := blk_frozen BK9008.out 1; have hfz63_2 := blk_frozen BK9008.out 2; obtain ⟨Ao64, co64, eo64⟩ := Kd.R_slice HO9005.out; subst eo64)))
      go_ret
      exact ⟨by first | rfl | (simp [errW_none, errW_some] <;> rfl) | (simp [*, errW_none, errW_some] <;> rfl), by repeat (first | (with_reducible first | exact HB.out | apply below_alloc | apply pw_below_drewN | apply below_drew1 | refine below_set ?_ GE9008.out) | exact HB.out)⟩

end Go.Proofs.Ytnfcpcgbdoiiiaa.G

namespace Go.Proofs.Ytnfcpcgbdoiiiaa.G
open Go.RowKit Go.Proofs.YtnfcpcgbdoiiiaaW.PrintWords Go.Proofs.YtnfcpcgbdoiiiaaW.PrintLast Go.Proofs.YtnfcpcgbdoiiiaaW.PrintMore
set_option linter.unusedVariables false
set_option linter.unusedSimpArgs false

theorem touch_mem (n z k : Int) (hr : rightB n z = true) (hk : 0 ≤ k) (hq : k < n / z) (s : S50) : Mem (touch n z s) k ↔ s.f0 < s.f1 ∧ s.f0 < n - k * z ∧ n - k * z - z < s.f1 := by
  obtain ⟨h0, h1, h2, h3⟩ := (rightB_iff n z).1 hr
  have d1 := Int.emod_add_mul_ediv n z
  have hmc : z * (n / z) = n / z * z := Int.mul_comm _ _
  rw [hmc] at d1
  have r1 := Int.emod_nonneg n (show z ≠ 0 by omega)
  have r2 := Int.emod_lt_of_pos n (show 0 < z by omega)
  have hm := mul_le_of_lt_div n z k h0 h2 hk hq
  have hge : (k + 1) * z ≤ n / z * z := Int.mul_le_mul_of_nonneg_right (by omega) (by omega)
  rw [Int.add_mul, Int.one_mul] at hge
  have em : (n / z - 1 - k) * z = n / z * z - z - k * z := by rw [Int.sub_mul, Int.sub_mul, Int.one_mul]
  have em2 : (n / z - 1 - k + 1) * z = n / z * z - k * z := by rw [Int.add_mul, em]; omega
  have ea : ∀ a : Int, (a - n % z) / z ≤ n / z - 1 - k ↔ a < n - k * z := by
    intro a
    rw [← Int.lt_add_one_iff, Int.ediv_lt_iff_lt_mul (by omega), em2]
    omega
  have eb : ∀ b : Int, n / z - 1 - k ≤ (b - 1 - n % z) / z ↔ n - k * z - z < b := by
    intro b
    rw [Int.le_ediv_iff_mul_le (by omega), em]
    omega
  unfold touch
  have ea' := ea (mx s.f0 (n % z))
  have eb' := eb (mn s.f1 n)
  generalize (mx s.f0 (n % z) - n % z) / z = A at *
  generalize (mn s.f1 n - 1 - n % z) / z = B at *
  have bx : mx s.f0 (n % z) = max s.f0 (n % z) := by unfold mx; split <;> omega
  have bn : mn s.f1 n = min s.f1 n := by unfold mn; split <;> omega
  rw [bx] at ea' ⊢
  rw [bn] at eb' ⊢
  by_cases h : max s.f0 (n % z) < min s.f1 n
  · rw [if_pos h]
    have e1 : Mem [⟨n / z - 1 - B, n / z - 1 - A + 1⟩] k ↔ n / z - 1 - B ≤ k ∧ k < n / z - 1 - A + 1 := by simp [Mem]
    rw [e1]
    generalize n / z * z = Q at *
    generalize k * z = K at *
    omega
  · rw [if_neg h]
    refine iff_of_false (mem_nil k) ?_
    generalize n / z * z = Q at *
    generalize k * z = K at *
    omega
theorem touched_mem (n z k : Int) (hr : rightB n z = true) (hk : 0 ≤ k) (hq : k < n / z) (l : List S50) : Mem (touched n z l) k ↔ ∃ x, n - k * z - z ≤ x ∧ x < n - k * z ∧ Mem l x := by
  have h2 := ((rightB_iff n z).1 hr).2.2.1
  have e : Mem (touched n z l) k ↔ ∃ s ∈ l, Mem (touch n z s) k := by
    unfold Mem touched
    constructor
    · rintro ⟨t, ht, h⟩
      obtain ⟨s, hs, hts⟩ := List.mem_flatMap.1 ht
      exact ⟨s, hs, t, hts, h⟩
    · rintro ⟨s, hs, t, hts, h⟩
      exact ⟨t, List.mem_flatMap.2 ⟨s, hs, hts⟩, h⟩
  rw [e]
  constructor
  · rintro ⟨s, hs, h⟩
    have h := (touch_mem n z k hr hk hq s).1 h
    generalize k * z = K at *
    exact ⟨max s.f0 (n - K - z), by omega, by omega, s, hs, by omega, by omega⟩
  · rintro ⟨x, h1, h3, s, hs, h4, h5⟩
    refine ⟨s, hs, (touch_mem n z k hr hk hq s).2 ?_⟩
    generalize k * z = K at *
    omega
theorem bad_l0 (n z k : Int) (hr : rightB n z = true) (hk : 0 ≤ k) (hq : k < n / z) (l : List S50) (hl : l.length ≤ 300) (G : List S50) (hG : G.length ≤ 256) (c r : Int) : ∀ (d : Nat) (g : Bool), (d : Int) ≤ z → (hasOf G k = true ↔ g = true ∧ ∀ x, n - k * z - d ≤ x → x < n - k * z → hasOf l x = false) → Ends (fun j => papermilllaw52_SheetBad.l0 j n z l k g (n - k * z - d) c G r) true := by
  obtain ⟨h0, h1, h2, h3⟩ := (rightB_iff n z).1 hr
  have hm := mul_le_of_lt_div n z k h0 h2 hk hq
  have w1 : wrap64 (k * z) = k * z := by unfold wrap64; omega
  have w2 : wrap64 (n - k * z) = n - k * z := by unfold wrap64; omega
  intro d
  induction d with
  | zero =>
    intro g hd hg
    refine Ends.succ ?_
    simp only [papermilllaw52_SheetBad.l0, w1, w2, papermilllaw52_awake.f, Option.bind_some]
    refine Ends.neg (by omega) (Ends.bind (rhas_ends G k (by omega)) (Ends.pos ?_ (Ends.ret _)))
    have : hasOf G k = true ↔ g = true := by
      rw [hg]; constructor
      · exact fun h => h.1
      · exact fun h => ⟨h, fun x h1 h2 => by omega⟩
    rw [show hasOf G k = g from Bool.eq_iff_iff.2 this]; simp
  | succ d ih =>
    intro g hd hg
    refine Ends.succ ?_
    have w3 : wrap64 (n - k * z - ((d + 1 : Nat) : Int) + 1) = n - k * z - (d : Int) := by unfold wrap64; omega
    simp only [papermilllaw52_SheetBad.l0, w1, w2, w3]
    refine Ends.pos (by omega) ?_
    cases g with
    | true =>
      refine Ends.pos rfl (Ends.bind (rhas_ends l _ (by omega)) (ih _ (by omega) ?_))
      rw [hg]
      constructor
      · rintro ⟨_, h⟩
        exact ⟨by rw [h _ (by omega) (by omega)]; rfl, fun x hx hy => h x (by omega) hy⟩
      · rintro ⟨ha, h⟩
        refine ⟨rfl, fun x hx hy => ?_⟩
        by_cases hxx : x = n - k * z - ((d + 1 : Nat) : Int)
        · rw [hxx]; simpa using ha
        · exact h x (by omega) hy
    | false =>
      refine Ends.neg (by decide) (ih _ (by omega) ?_)
      rw [hg]
      constructor
      · rintro ⟨h, _⟩; cases h
      · rintro ⟨h, _⟩; cases h
theorem bad_j2 (n z k : Int) (hr : rightB n z = true) (l : List S50) (hl : l.length ≤ 300) (c : Bool) (hc : c = decide (k < 0 ∨ k ≥ n / z)) (q r : Int) (hb : (bothOf [⟨0, n / z⟩] (touched n z l) 2).2 = 0) :
    Ends (fun j => papermilllaw52_SheetBad.j2 j n z l k c q (bothOf [⟨0, n / z⟩] (touched n z l) 2).1 r) true := by
  obtain ⟨h0, h1, h2, h3⟩ := (rightB_iff n z).1 hr
  have hlen := both_fits hb
  have hin := both_has (Or.inr (Or.inr rfl)) hb k
  have hone : hasOf [⟨0, n / z⟩] k = decide (0 ≤ k ∧ k < n / z) := by simp [hasOf]
  rw [hone, wayOf_2] at hin
  refine Ends.succ ?_
  simp only [papermilllaw52_SheetBad.j2, papermilllaw52_awake.f, Option.bind_some]
  by_cases h : k < 0 ∨ k ≥ n / z
  · refine Ends.pos (by rw [hc]; simpa using h) (Ends.bind (rhas_ends _ k (by omega)) (Ends.neg ?_ (Ends.ret _)))
    rw [hin, decide_eq_false (by omega)]
    simp
  · refine Ends.neg (by rw [hc]; simpa using h) ?_
    have hk : 0 ≤ k := by omega
    have hq : k < n / z := by omega
    have hm := mul_le_of_lt_div n z k h0 h2 hk hq
    have hz : ∃ d : Nat, (d : Int) = z := ⟨z.toNat, by omega⟩
    obtain ⟨d, hd⟩ := hz
    have hkn : k ≤ n := Int.le_trans (Int.le_of_lt hq) (div_le_self' n z h0 h2).2
    have e : wrap64 (n - wrap64 (wrap64 (k + 1) * z)) = n - k * z - (d : Int) := by
      have w0 : wrap64 (k + 1) = k + 1 := by unfold wrap64; omega
      rw [w0, Int.add_mul, Int.one_mul]
      generalize k * z = K at *
      have w1 : wrap64 (K + z) = K + z := by unfold wrap64; omega
      rw [w1]
      have w2 : wrap64 (n - (K + z)) = n - (K + z) := by unfold wrap64; omega
      rw [w2]; omega
    rw [e]
    refine bad_l0 n z k hr hk hq l hl _ hlen q r d true (by omega) ?_
    rw [hin, decide_eq_true (show 0 ≤ k ∧ k < n / z from ⟨hk, hq⟩)]
    have ht := touched_mem n z k hr hk hq l
    rw [← hasOf_iff] at ht
    rw [hd]
    constructor
    · intro hh
      have hf : hasOf (touched n z l) k = false := by simpa using hh
      refine ⟨rfl, fun x hx hy => ?_⟩
      cases hxx : hasOf l x with
      | false => rfl
      | true => 
        have := ht.2 ⟨x, hx, hy, (hasOf_iff l x).1 hxx⟩
        rw [hf] at this; cases this
    · rintro ⟨_, hh⟩
      have hf : hasOf (touched n z l) k = false := by
        cases htt : hasOf (touched n z l) k with
        | false => rfl
        | true =>
          obtain ⟨x, hx, hy, hx2⟩ := ht.1 htt
          have := hh x hx hy
          rw [(hasOf_iff l x).2 hx2] at this; cases this
      rw [hf]; rfl
theorem bad_j1 (n z k : Int) (hr : rightB n z = true) (l : List S50) (hl : l.length ≤ 300) (r : Int) (hb : (bothOf [⟨0, n / z⟩] (touched n z l) 2).2 = 0) :
    Ends (fun j => papermilllaw52_SheetBad.j1 j n z l k false (n / z) (bothOf [⟨0, n / z⟩] (touched n z l) 2).1 r) true := by
  refine Ends.succ ?_
  simp only [papermilllaw52_SheetBad.j1]
  refine Ends.neg (by decide) ?_
  by_cases h : k < 0
  · exact Ends.pos h (bad_j2 n z k hr l hl _ (by simp [h]) _ _ hb)
  · exact Ends.neg h (bad_j2 n z k hr l hl _ (by simp [h]) _ _ hb)
theorem bad_j0 (n z k : Int) (l : List S50) (c : Bool) (hc : c = decide ((l.length : Int) > 300 ∨ z > 60)) : Ends (fun j => papermilllaw52_SheetBad.j0 j n z l k c) true := by
  refine Ends.succ ?_
  simp only [papermilllaw52_SheetBad.j0, papermilllaw52_awake.f, Option.bind_some]
  by_cases h : (l.length : Int) > 300 ∨ z > 60
  · exact Ends.pos (by rw [hc]; simpa using h) (Ends.ret _)
  refine Ends.neg (by rw [hc]; simpa using h) (Ends.bind (cut_ends n z l) ?_)
  have dead : ∀ e : Int, e ≠ 0 → cutOf n z l = (0, [], 0, e) → Ends (fun j => if (cutOf n z l).2.2.2 = 0 then (if z < 1 then (papermilllaw52_SheetBad.j1 j n z l k true (cutOf n z l).1 (cutOf n z l).2.1 (cutOf n z l).2.2.1) else (if n < 0 then (papermilllaw52_SheetBad.j1 j n z l k true (cutOf n z l).1 (cutOf n z l).2.1 (cutOf n z l).2.2.1) else (if n > 17179869184 then (papermilllaw52_SheetBad.j1 j n z l k true (cutOf n z l).1 (cutOf n z l).2.1 (cutOf n z l).2.2.1) else (if z = 0 then (none) else (if (cutOf n z l).1 = (wrap64 (Int.tdiv n z)) then (papermilllaw52_SheetBad.j1 j n z l k ((cutOf n z l).2.2.1 != (Int.tmod n z)) (cutOf n z l).1 (cutOf n z l).2.1 (cutOf n z l).2.2.1) else (papermilllaw52_SheetBad.j1 j n z l k true (cutOf n z l).1 (cutOf n z l).2.1 (cutOf n z l).2.2.1)))))) else (if (cutOf n z l).1 = 0 then (if ((cutOf n z l).2.1.length : Int) = 0 then (if (cutOf n z l).2.2.1 = 0 then (some true) else (some false)) else (some false)) else (some false))) true := by
    intro e he hcut
    rw [hcut]
    exact Ends.neg he (Ends.pos rfl (Ends.pos rfl (Ends.pos rfl (Ends.ret _))))
  by_cases hr : rightB n z = true
  · by_cases h04 : check04 l = 0
    · by_cases hb : (bothOf [⟨0, n / z⟩] (touched n z l) 2).2 = 0
      · have e : cutOf n z l = (n / z, (bothOf [⟨0, n / z⟩] (touched n z l) 2).1, n % z, 0) := by unfold cutOf cutEnd; rw [if_pos hr, if_pos h04, if_pos hb]
        rw [e]
        obtain ⟨h0, h1, h2, h3⟩ := (rightB_iff n z).1 hr
        have hnz := div_le_self' n z h0 h2
        have ew : wrap64 (Int.tdiv n z) = n / z := by
          rw [Int.tdiv_eq_ediv_of_nonneg h0]
          generalize n / z = q at *
          unfold wrap64; omega
        rw [ew, Int.tmod_eq_emod_of_nonneg h0]
        have eb : ((n % z) != (n % z)) = false := by simp
        refine Ends.pos rfl (Ends.neg (by omega) (Ends.neg (by omega) (Ends.neg (by omega) (Ends.neg (by omega) (Ends.pos rfl ?_)))))
        simp only [eb]
        exact bad_j1 n z k hr l (by omega) _ hb
      · exact dead _ hb (by unfold cutOf cutEnd; rw [if_pos hr, if_pos h04, if_neg hb])
    · exact dead _ h04 (by unfold cutOf; rw [if_pos hr, if_neg h04])
  · exact dead 1 (by decide) (by unfold cutOf; rw [if_neg hr])

/-- the law, over lists and numbers -/
theorem SheetBad : ∀ (a0 : Int) (a1 : Int) (l2 : List (S50)) (a3 : Int), (Lit.int .i64 a0).wf = true → (Lit.int .i64 a1).wf = true → (l2.length ≤ maxLen ∧ ∀ x ∈ l2, wf_50 x) → (Lit.int .i64 a3).wf = true → ∃ k, papermilllaw52_SheetBad.f k a0 a1 l2 a3 = some true := by
  intro n z l k _ _ _ _
  suffices h : Ends (fun j => papermilllaw52_SheetBad.f j n z l k) true from h.get
  unfold papermilllaw52_SheetBad.f
  by_cases h : (l.length : Int) > 300
  · exact Ends.pos h (bad_j0 n z k l _ (by simp [h]))
  · exact Ends.neg h (bad_j0 n z k l _ (by simp [h]))

end Go.Proofs.Ytnfcpcgbdoiiiaa.G

namespace Go.Proofs.Ytnfcpcgbdoiiiaa.sheetBad
open Go.ChangeShapes Go.WideShapes Go.ChangeAt Go.RowKit Go.Proofs.YtnfcpcgbdoiiiaaW.PrintWords Go.Proofs.YtnfcpcgbdoiiiaaW.PrintLast Go.Proofs.Ytnfcpcgbdoiiiaa.G
open Go.ChangeMaps (open_string shut_string)
set_option linter.unusedVariables false
set_option linter.unusedSimpArgs false
theorem own : ownKnob Try.prog.godebug = none := by kernel_rfl
theorem laidOut : laidOutB Try.prog = true := by kernel_rfl
set_option maxRecDepth 100000 in
theorem lifted (os : Os) (started : os.Started) (H : Type) (enc : TypeId × Value → H) :
    ReturnsInHanded {} Try.checked os 8 .any (Rows.sheetBadSpec.pre6 enc Try.prog Try.f8 Rows.sheetBadRow.domain false) (Rows.sheetBadSpec.post enc Try.prog Try.f8 false true false false) := by
  refine returnsInHanded_of_change_sized (C := Try.checked) own started (by kernel_rfl) Try.func8
    (ChangeSpec.witness6 (enc := enc) (C := Try.checked) false ⟨#[], #[.int .i64 0, .int .i64 0, .slice none 0 0, .int .i64 0], []⟩ 8 (by kernel_rfl) (by kernel_rfl) (by kernel_rfl) (by kernel_rfl)) ?_
  intro W base args ds gs before hval0 hW hcnd hsz0 _
  have hval : ∀ (j : Nat) t v, Try.f8.params[j]? = some t → args[j]? = some v → Value.okWide Try.prog W .any base t v := hval0
  have hW' := hW
  obtain ⟨p, q, hA0, hV, rfl, hfz, hnd⟩ := hW
  have hA : DataW.TrodAll enc Try.prog W 0 (fun _ => true) true Try.f8.params.toList args.toList ds p := hA0
  rw [Try.params8] at hA hval
  obtain ⟨v0, vs0, d0, ds0, p0, q0, hargs, rfl, rfl, h0, r0⟩ := trodAll_cons hA
  obtain ⟨v1, vs1, d1, ds1, p1, q1, rfl, rfl, rfl, h1, r1⟩ := trodAll_cons r0
  obtain ⟨v2, vs2, d2, ds2, p2, q2, rfl, rfl, rfl, h2, r2⟩ := trodAll_cons r1
  obtain ⟨v3, vs3, d3, ds3, p3, q3, rfl, rfl, rfl, h3, r3⟩ := trodAll_cons r2
  obtain ⟨rfl, rfl, rfl⟩ := trodAll_nil r3
  obtain rfl : args = #[v0, v1, v2, v3] := by cases args; simp_all
  obtain ⟨rfl, rfl⟩ := trodVars_none hV
  have k0 := h0
  have lt0 : ∀ x ∈ p0, x.block < W.heap.size := by obtain ⟨m, hm⟩ := k0; exact DataW.trod_lt m _ _ _ hm
  obtain ⟨a0, rfl, rfl, rfl, hw0⟩ := open_int Try.underlying3 (hval 0 3 v0 rfl rfl) h0
  have k1 := h1
  have lt1 : ∀ x ∈ p1, x.block < W.heap.size := by obtain ⟨m, hm⟩ := k1; exact DataW.trod_lt m _ _ _ hm
  obtain ⟨a1, rfl, rfl, rfl, hw1⟩ := open_int Try.underlying3 (hval 1 3 v1 rfl rfl) h1
  have k2 := h2
  have lt2 : ∀ x ∈ p2, x.block < W.heap.size := by obtain ⟨m, hm⟩ := k2; exact DataW.trod_lt m _ _ _ hm
  obtain ⟨a2, len2, cap2, rfl⟩ := okWide_slice Try.underlying22 (hval 2 22 v2 rfl rfl)
  obtain ⟨l2, ⟨A2, c2, hcs2, hlc2, hC2⟩, hw2⟩ : ∃ l, ((Kd.slice 50 k50)).K W l [.slice a2 len2 cap2] ∧ (l.length ≤ maxLen ∧ ∀ x ∈ l, wf_50 x) := by
    obtain ⟨fuel, hf⟩ := k2
    exact (Opens.slice Try.underlying22 (by kernel_rfl) opens_50) enc W fuel _ _ hf
  simp only [List.cons.injEq, and_true, Value.slice.injEq] at hcs2
  obtain ⟨rfl, rfl, rfl⟩ := hcs2
  have k3 := h3
  have lt3 : ∀ x ∈ p3, x.block < W.heap.size := by obtain ⟨m, hm⟩ := k3; exact DataW.trod_lt m _ _ _ hm
  obtain ⟨a3, rfl, rfl, rfl, hw3⟩ := open_int Try.underlying3 (hval 3 3 v3 rfl rfl) h3
  clear hA0 hval0 hsz0
  obtain ⟨k, hk⟩ := SheetBad a0 a1 l2 a3 hw0 hw1 hw2 hw3
  refine (papermilllaw52_SheetBad.calls k a0 a1 _ _ l2 a3 true W hC2 hlc2 hk).mono fun e W' he => ?_
  obtain ⟨he, bel⟩ := he
  subst he
  exact ⟨_, rfl, _, _, _, [], _, [], hW', trodAll_mk1 (shut_bool Try.underlying4 _), (trodAll_cons_mk (Below.trod laidOut (by kernel_rfl) (of_decide_eq_true (by kernel_rfl)) k0 bel lt0) (trodAll_cons_mk (Below.trod laidOut (by kernel_rfl) (of_decide_eq_true (by kernel_rfl)) k1 bel lt1) (trodAll_cons_mk (Below.trod laidOut (by kernel_rfl) (of_decide_eq_true (by kernel_rfl)) k2 bel lt2) (trodAll_cons_mk (Below.trod laidOut (by kernel_rfl) (of_decide_eq_true (by kernel_rfl)) k3 bel lt3) trodAll_mk0)))), rfl, bel.frame _, fun h => by cases h⟩
theorem over : Rows.sheetBadRow.holds Try.pinned (OpenSpec.ofChange Rows.sheetBadSpec) :=
  OpenClaim.holds_of_wide 8 Try.f8 rfl rfl rfl rfl rfl rfl rfl ⟨rfl, rfl, rfl, rfl, rfl⟩ rfl rfl rfl rfl rfl (by kernel_rfl) Try.func8 (by kernel_rfl)
    (of_decide_eq_true (by kernel_rfl)) (by unfold Func.isWrapper; first | (rw [if_pos (by decide +kernel)]; kernel_rfl) | (rw [if_neg (by decide +kernel)]; exact ⟨rfl, rfl⟩))
    (fun os started H enc _ => lifted os started H enc)
theorem proved : Rows.SheetBadSaid := over
#print axioms proved
end Go.Proofs.Ytnfcpcgbdoiiiaa.sheetBad
namespace Go.Proofs.Ytnfcpcgbdoiiiaa
/-- The row, under a short name, for the claim. -/
theorem sheetBad_holds : Rows.SheetBadSaid := sheetBad.proved
end Go.Proofs.Ytnfcpcgbdoiiiaa
