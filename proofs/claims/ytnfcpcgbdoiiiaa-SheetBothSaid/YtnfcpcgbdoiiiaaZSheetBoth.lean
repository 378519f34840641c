/- The law SheetBoth: whatever it is handed, it returns true, and what it is handed reads as before. No conditions. -/
import Derived.Test.YtnfcpcgbdoiiiaaM1
import Derived.Test.YtnfcpcgbdoiiiaaM4
import Derived.Test.YtnfcpcgbdoiiiaaM8
import Derived.Test.YtnfcpcgbdoiiiaaM3
import Derived.Test.YtnfcpcgbdoiiiaaM5
import Derived.Test.YtnfcpcgbdoiiiaaRows
import Derived.WalkKit
import Derived.ProofKit
import Derived.OpenShut
import Derived.ShutString
import Derived.ChangeOld
import Derived.Below
import Derived.SizedLaws
namespace Go.Proofs.Ytnfcpcgbdoiiiaa.G
open Go.RowKit Go.Proofs.YtnfcpcgbdoiiiaaW.PrintWords Go.Proofs.YtnfcpcgbdoiiiaaW.PrintLast Go.Proofs.YtnfcpcgbdoiiiaaW.PrintMore
attribute [local go_sem] max2_int min2_int max_two min_two max_three min_three max_four min_four   -- for this text's walks alone
set_option linter.unusedVariables false
set_option linter.unusedSimpArgs false

/-! ### papermilllaw52_SheetBoth: function 9 -/
mutual
def papermilllaw52_SheetBoth.l0 : Nat → List (S25) → Int → Int → Bool → Int → Int → Int → List (S50) → Int → Option (Bool)
 | 0, _, _, _, _, _, _, _, _, _ => none
 | k + 1, x0, x1, x2, x9, x10, x11, x10010000, x10010001, x10010002 => if x11 < (x0.length : Int) then (if x9 = true then (if 0 ≤ x11 then ((papermillref04_Has.f k ((rd_T25 x0 x11).f1) x1).bind fun t10012 => (papermilllaw52_SheetBoth.l0 k x0 x1 x2 t10012 (mn x10 ((rd_T25 x0 x11).f0)) (wrap64 (x11 + 1)) x10010000 x10010001 x10010002)) else (none)) else (if 0 ≤ x11 then (papermilllaw52_SheetBoth.l0 k x0 x1 x2 false (mn x10 ((rd_T25 x0 x11).f0)) (wrap64 (x11 + 1)) x10010000 x10010001 x10010002) else (none))) else (if x10010000 = x10 then (if x10010002 = 0 then ((papermillref04_Has.f k x10010001 x1).bind fun t10015 => (papermilllaw52_SheetBoth.j1 k x0 x2 (t10015 != x9) x10010000 x10010001 x10010002)) else (papermilllaw52_SheetBoth.j1 k x0 x2 true x10010000 x10010001 x10010002)) else (papermilllaw52_SheetBoth.j1 k x0 x2 true x10010000 x10010001 x10010002))
def papermilllaw52_SheetBoth.j1 : Nat → List (S25) → Int → Bool → Int → List (S50) → Int → Option (Bool)
 | 0, _, _, _, _, _, _ => none
 | k + 1, x0, x2, x81, x10010000, x10010001, x10010002 => if x81 = true then (some false) else (if x2 < 0 then (papermilllaw52_SheetBoth.j2 k x0 x2 true x10010000 x10010001 x10010002) else (papermilllaw52_SheetBoth.j2 k x0 x2 (decide (x2 ≥ (x0.length : Int))) x10010000 x10010001 x10010002))
def papermilllaw52_SheetBoth.j2 : Nat → List (S25) → Int → Bool → Int → List (S50) → Int → Option (Bool)
 | 0, _, _, _, _, _, _ => none
 | k + 1, x0, x2, x89, x10010000, x10010001, x10010002 => if x89 = true then ((papermilllaw52_awake.f).bind fun t10016 => (some t10016)) else ((sheet_Good.f k x10010000 x10010001 x10010002).bind fun bt10017 => (if 0 ≤ x2 then (if x2 < (x0.length : Int) then ((sheet_Good.f k ((rd_T25 x0 x2).f0) ((rd_T25 x0 x2).f1) ((rd_T25 x0 x2).f2)).bind fun bt10020 => (if bt10017.2 = 0 then (if bt10020.2 = 0 then (if bt10017.1 ≤ bt10020.1 then ((papermilllaw52_awake.f).bind fun t10022 => (some t10022)) else (some false)) else (some false)) else (some false))) else (none)) else (none)))
end
def papermilllaw52_SheetBoth.f (k : Nat) (l0 : List (S25)) (a1 : Int) (a2 : Int) : Option (Bool) := (papermilllaw52_few.f k l0).bind fun t10001 => (if t10001 = true then ((sheet_Together.f k l0).bind fun bt10003 => (if bt10003.2.2.2 = 0 then (papermilllaw52_SheetBoth.l0 k l0 a1 a2 (decide ((l0.length : Int) > 0)) 17179869184 0 bt10003.1 bt10003.2.1 bt10003.2.2.1) else (if bt10003.1 = 0 then (if (bt10003.2.1.length : Int) = 0 then ((papermilllaw52_awake.f).bind fun t10010 => (some t10010)) else (some false)) else (some false)))) else ((papermilllaw52_awake.f).bind fun t10002 => (some t10002)))
theorem papermilllaw52_SheetBoth.mono_l : ∀ k, (∀ y0 y1 y2 y3 y4 y5 y6 y7 y8, LeO (papermilllaw52_SheetBoth.l0 k y0 y1 y2 y3 y4 y5 y6 y7 y8) (papermilllaw52_SheetBoth.l0 (k + 1) y0 y1 y2 y3 y4 y5 y6 y7 y8)) ∧ (∀ y0 y1 y2 y3 y4 y5, LeO (papermilllaw52_SheetBoth.j1 k y0 y1 y2 y3 y4 y5) (papermilllaw52_SheetBoth.j1 (k + 1) y0 y1 y2 y3 y4 y5)) ∧ (∀ y0 y1 y2 y3 y4 y5, LeO (papermilllaw52_SheetBoth.j2 k y0 y1 y2 y3 y4 y5) (papermilllaw52_SheetBoth.j2 (k + 1) y0 y1 y2 y3 y4 y5))
 | 0 => ⟨fun _ _ _ _ _ _ _ _ _ r h => by simp [papermilllaw52_SheetBoth.l0] at h, fun _ _ _ _ _ _ r h => by simp [papermilllaw52_SheetBoth.j1] at h, fun _ _ _ _ _ _ r h => by simp [papermilllaw52_SheetBoth.j2] at h⟩
 | k + 1 => by
  obtain ⟨ih0, ih1, ih2⟩ := papermilllaw52_SheetBoth.mono_l k
  refine ⟨?_, ?_, ?_⟩
  ·intro y0 y1 y2 y3 y4 y5 y6 y7 y8
   unfold papermilllaw52_SheetBoth.l0
   repeat' first
   | (with_reducible exact ih0 _ _ _ _ _ _ _ _ _)
   | (with_reducible exact ih1 _ _ _ _ _ _)
   | (with_reducible exact ih2 _ _ _ _ _ _)
   | (with_reducible exact papermilllaw52_few.mono _ _)
   | (with_reducible exact papermillref04_Has.mono _ _ _)
   | (with_reducible exact sheet_Good.mono _ _ _ _)
   | (with_reducible exact sheet_Together.mono _ _)
   | (with_reducible exact LeO.refl _)
   | (with_reducible exact LeO.none _)
   | (with_reducible refine LeO.ite ?_ ?_)
   | (with_reducible refine LeO.bind ?_ (fun _ => ?_))
   | exact ih0 _ _ _ _ _ _ _ _ _
   | exact ih1 _ _ _ _ _ _
   | exact ih2 _ _ _ _ _ _
   | exact papermilllaw52_few.mono _ _
   | exact papermillref04_Has.mono _ _ _
   | exact sheet_Good.mono _ _ _ _
   | exact sheet_Together.mono _ _
   | exact LeO.none _
   | refine LeO.ite ?_ ?_
   | refine LeO.bind ?_ (fun _ => ?_)
  ·intro y0 y1 y2 y3 y4 y5
   unfold papermilllaw52_SheetBoth.j1
   repeat' first
   | (with_reducible exact ih0 _ _ _ _ _ _ _ _ _)
   | (with_reducible exact ih1 _ _ _ _ _ _)
   | (with_reducible exact ih2 _ _ _ _ _ _)
   | (with_reducible exact papermilllaw52_few.mono _ _)
   | (with_reducible exact papermillref04_Has.mono _ _ _)
   | (with_reducible exact sheet_Good.mono _ _ _ _)
   | (with_reducible exact sheet_Together.mono _ _)
   | (with_reducible exact LeO.refl _)
   | (with_reducible exact LeO.none _)
   | (with_reducible refine LeO.ite ?_ ?_)
   | (with_reducible refine LeO.bind ?_ (fun _ => ?_))
   | exact ih0 _ _ _ _ _ _ _ _ _
   | exact ih1 _ _ _ _ _ _
   | exact ih2 _ _ _ _ _ _
   | exact papermilllaw52_few.mono _ _
   | exact papermillref04_Has.mono _ _ _
   | exact sheet_Good.mono _ _ _ _
   | exact sheet_Together.mono _ _
   | exact LeO.none _
   | refine LeO.ite ?_ ?_
   | refine LeO.bind ?_ (fun _ => ?_)
  ·intro y0 y1 y2 y3 y4 y5
   unfold papermilllaw52_SheetBoth.j2
   repeat' first
   | (with_reducible exact ih0 _ _ _ _ _ _ _ _ _)
   | (with_reducible exact ih1 _ _ _ _ _ _)
   | (with_reducible exact ih2 _ _ _ _ _ _)
   | (with_reducible exact papermilllaw52_few.mono _ _)
   | (with_reducible exact papermillref04_Has.mono _ _ _)
   | (with_reducible exact sheet_Good.mono _ _ _ _)
   | (with_reducible exact sheet_Together.mono _ _)
   | (with_reducible exact LeO.refl _)
   | (with_reducible exact LeO.none _)
   | (with_reducible refine LeO.ite ?_ ?_)
   | (with_reducible refine LeO.bind ?_ (fun _ => ?_))
   | exact ih0 _ _ _ _ _ _ _ _ _
   | exact ih1 _ _ _ _ _ _
   | exact ih2 _ _ _ _ _ _
   | exact papermilllaw52_few.mono _ _
   | exact papermillref04_Has.mono _ _ _
   | exact sheet_Good.mono _ _ _ _
   | exact sheet_Together.mono _ _
   | exact LeO.none _
   | refine LeO.ite ?_ ?_
   | refine LeO.bind ?_ (fun _ => ?_)
theorem papermilllaw52_SheetBoth.mono : ∀ a0 a1 a2 k, LeO (papermilllaw52_SheetBoth.f k a0 a1 a2) (papermilllaw52_SheetBoth.f (k + 1) a0 a1 a2) := by
 intro a0 a1 a2 k
 obtain ⟨ih0, ih1, ih2⟩ := papermilllaw52_SheetBoth.mono_l k
 unfold papermilllaw52_SheetBoth.f
 repeat' first
   | (with_reducible exact ih0 _ _ _ _ _ _ _ _ _)
   | (with_reducible exact ih1 _ _ _ _ _ _)
   | (with_reducible exact ih2 _ _ _ _ _ _)
   | (with_reducible exact papermilllaw52_few.mono _ _)
   | (with_reducible exact papermillref04_Has.mono _ _ _)
   | (with_reducible exact sheet_Good.mono _ _ _ _)
   | (with_reducible exact sheet_Together.mono _ _)
   | (with_reducible exact LeO.refl _)
   | (with_reducible exact LeO.none _)
   | (with_reducible refine LeO.ite ?_ ?_)
   | (with_reducible refine LeO.bind ?_ (fun _ => ?_))
   | exact ih0 _ _ _ _ _ _ _ _ _
   | exact ih1 _ _ _ _ _ _
   | exact ih2 _ _ _ _ _ _
   | exact papermilllaw52_few.mono _ _
   | exact papermillref04_Has.mono _ _ _
   | exact sheet_Good.mono _ _ _ _
   | exact sheet_Together.mono _ _
   | exact LeO.none _
   | refine LeO.ite ?_ ?_
   | refine LeO.bind ?_ (fun _ => ?_)
set_option maxHeartbeats 8000000 in
set_option maxRecDepth 100000 in
theorem papermilllaw52_SheetBoth.calls (k : Nat) (A0 : Option Addr) (c0 : Nat) (l0 : List (S25)) (a1 : Int) (a2 : Int) (r : Bool) (w : World) (hr0 : Kd.C k25 w A0 l0.length l0) (hc0 : l0.length ≤ c0) (h : papermilllaw52_SheetBoth.f k l0 a1 a2 = some r) :
  Calls Try.prog 9 #[.slice A0 l0.length c0, .int .i64 a1, .int .i64 a2] w fun e w' => e = .returned (.bool r) ∧ Below w.heap.size w w' := by
 have hu25 := Try.underlying25
 have HR0 := Aside0.mk hr0
 have HC0 := Aside0.mk hc0
 clear hr0 hc0
 have HB := Aside0.mk (Below.refl w.heap.size w)
 have H : ((papermilllaw52_few.f k l0).bind fun t10001 => (if t10001 = true then ((sheet_Together.f k l0).bind fun bt10003 => (if bt10003.2.2.2 = 0 then (papermilllaw52_SheetBoth.l0 k l0 a1 a2 (decide ((l0.length : Int) > 0)) 17179869184 0 bt10003.1 bt10003.2.1 bt10003.2.2.1) else (if bt10003.1 = 0 then (if (bt10003.2.1.length : Int) = 0 then ((papermilllaw52_awake.f).bind fun t10010 => (some t10010)) else (some false)) else (some false)))) else ((papermilllaw52_awake.f).bind fun t10002 => (some t10002)))) = some r := h
 clear h
 replace H := Option.bind_eq_some_iff.mp H
 obtain ⟨t10001, A40, H⟩ := H
 replace H : (if t10001 = true then ((sheet_Together.f k l0).bind fun bt10003 => (if bt10003.2.2.2 = 0 then (papermilllaw52_SheetBoth.l0 k l0 a1 a2 (decide ((l0.length : Int) > 0)) 17179869184 0 bt10003.1 bt10003.2.1 bt10003.2.2.1) else (if bt10003.1 = 0 then (if (bt10003.2.1.length : Int) = 0 then ((papermilllaw52_awake.f).bind fun t10010 => (some t10010)) else (some false)) else (some false)))) else ((papermilllaw52_awake.f).bind fun t10002 => (some t10002))) = some r := H
 have A4 := Aside0.mk A40
 clear A40
 by_cases c5 : t10001 = true
 ·subst c5
  have H1 : ((sheet_Together.f k l0).bind fun bt10003 => (if bt10003.2.2.2 = 0 then (papermilllaw52_SheetBoth.l0 k l0 a1 a2 (decide ((l0.length : Int) > 0)) 17179869184 0 bt10003.1 bt10003.2.1 bt10003.2.2.1) else (if bt10003.1 = 0 then (if (bt10003.2.1.length : Int) = 0 then ((papermilllaw52_awake.f).bind fun t10010 => (some t10010)) else (some false)) else (some false)))) = some r := by rw [if_pos rfl] at H; exact H
  clear H
  have H := H1
  clear H1
  replace H := Option.bind_eq_some_iff.mp H
  obtain ⟨⟨t10003, t10004, t10007, t10008⟩, A60, H⟩ := H
  replace H : (if t10008 = 0 then (papermilllaw52_SheetBoth.l0 k l0 a1 a2 (decide ((l0.length : Int) > 0)) 17179869184 0 t10003 t10004 t10007) else (if t10003 = 0 then (if (t10004.length : Int) = 0 then ((papermilllaw52_awake.f).bind fun t10010 => (some t10010)) else (some false)) else (some false))) = some r := H
  have A6 := Aside0.mk A60
  clear A60
  by_cases c7 : t10008 = 0
  ·rw [if_pos c7] at H
   have c7b0 : (t10008 == 0) = true := beq_iff_eq.mpr c7
   have c7b1 : (t10008 != 0) = false := bne_eq_false_iff_eq.mpr c7
   clear c7
   have H' := Aside0.mk H
   clear H
   go_enter Try.func9, Try.ntmps9
   go_wp2_with (first | ((with_reducible refine gate_callee (f := 20) rfl ?_); refine goesL_ (some 17) rfl rfl Try.func20 (by kernel_rfl) rfl #[.slice A0 l0.length c0] rfl (by (try simp only [List.map_toArray, List.map_cons, List.map_nil]); first | done | rfl | (simp only [List.length_drop, List.length_take]; rfl)) ?_; (with_reducible refine (papermilllaw52_few.calls k _ _ l0 true _ ?side1 ?side2 A4.out).mono ?_); (case side1 => repeat (first | exact HR0.out | (with_reducible refine Kd.C_alloc ?_ _) | (with_reducible refine Kd.C_drewN ?_ _) | (with_reducible refine Kd.C_drew ?_))); (case side2 => exact HC0.out); rintro e w' ⟨rfl, ⟨nd, rfl⟩⟩; refine ⟨_, rfl, ?_⟩) | ((with_reducible refine gate_callee (f := 21) rfl ?_); refine goesL_ (some 22) rfl rfl Try.func21 (by kernel_rfl) rfl #[.slice A0 l0.length c0] rfl (by (try simp only [List.map_toArray, List.map_cons, List.map_nil]); first | done | rfl | (simp only [List.length_drop, List.length_take]; rfl)) ?_; (with_reducible refine (sheet_Together.calls k _ _ l0 t10003 t10004 t10007 t10008 _ ?side1 ?side2 A6.out).mono ?_); (case side1 => repeat (first | exact HR0.out | (with_reducible refine Kd.C_alloc ?_ _) | (with_reducible refine Kd.C_drewN ?_ _) | (with_reducible refine Kd.C_drew ?_))); (case side2 => exact HC0.out); rintro e w8 ⟨v10005, rfl, ho0, hb⟩; refine ⟨_, rfl, ?_⟩; have n0_ := Aside0.mk (Kd.R_lower ho0 (below_size (by repeat (first | (with_reducible first | exact HB.out | apply below_alloc | apply pw_below_drewN | apply below_drew1) | exact HB.out)))); have n1_ := Aside0.mk (below_step (by repeat (first | (with_reducible first | exact HB.out | apply below_alloc | apply pw_below_drewN | apply below_drew1) | exact HB.out)) hb); clear HB; have HO10006 := n0_; have HB := n1_; clear n0_ n1_; (try clear hb); (try clear hb2); (try clear hk); (try clear hi); (try clear ho0)) | ((with_reducible refine gate_dst (N := 7) rfl ?_); (try (refine gate_guard (by rfl) ?_; dsimp only)); refine box_event ?hg (N := 7) ?hd (cs := #[.int .i64 0, .slice none 0 0, .int .i64 0]) (t := 25) ?hr ?_; (case hd => rfl); (case hg => rfl); (case hr => first | (go_simp; done) | (go_simp; rfl)); intro gb10009 hg w9 hbox hb; have n0_ := Aside0.mk (Kd.R_below (by (with_reducible repeat (first | apply Kd.R_alloc | apply Kd.R_drewN | apply Kd.R_drew)); exact HO10006.out) hb); have n1_ := Aside0.mk (below_step (by repeat (first | (with_reducible first | exact HB.out | apply below_alloc | apply pw_below_drewN | apply below_drew1) | exact HB.out)) hb); have n2_ := Aside0.mk (hbox); have n3_ := Aside0.mk ((by rw [hg]; exact (below_size (by repeat (first | (with_reducible first | exact HB.out | apply below_alloc | apply pw_below_drewN | apply below_drew1) | exact HB.out))) : w.heap.size ≤ gb10009)); have n4_ := Aside0.mk ((by rw [hg]; exact (below_size (by repeat (first | (with_reducible first | exact HB.out | apply below_alloc | apply pw_below_drewN | apply below_drew1) | exact HB.out))) : w.heap.size ≤ gb10009)); clear HO10006; clear HB; have HO10006 := n0_; have HB := n1_; have BK10009 := n2_; have GW10009 := n3_; have GE10009 := n4_; clear n0_ n1_ n2_ n3_ n4_; clear hb hbox hg; have hcz10_0 : w9.cell? ⟨gb10009, 0, none⟩ = some (.int .i64 0) := (blk_cell BK10009.out 0).trans rfl; have hcz10_1 : w9.cell? ⟨gb10009, 1, none⟩ = some (.slice none 0 0) := (blk_cell BK10009.out 1).trans rfl; have hcz10_2 : w9.cell? ⟨gb10009, 2, none⟩ = some (.int .i64 0) := (blk_cell BK10009.out 2).trans rfl; have hfz10_0 := blk_frozen BK10009.out 0; have hfz10_1 := blk_frozen BK10009.out 1; have hfz10_2 := blk_frozen BK10009.out 2; obtain ⟨Ao11, co11, eo11⟩ := Kd.R_slice HO10006.out; subst eo11))
   go_loopg [9, 10, 11] k (fun kq v9 v10 v11 w' => ∃ (x9_1 : Bool) (x10_1 : Int) (x11_1 : Int), v9 = .bool x9_1 ∧ v10 = .int .i64 x10_1 ∧ v11 = .int .i64 x11_1 ∧ Aside0 (papermilllaw52_SheetBoth.l0 kq l0 a1 a2 x9_1 x10_1 x11_1 t10003 t10004 t10007 = some r) ∧ Aside0 (kq ≤ k) ∧ Aside0 (Kd.R k50 50 w' w.heap.size (fun _ => True) (.slice Ao11 t10004.length co11) t10004) ∧ Aside0 (w'.heap[gb10009]? = some (.cells #[.int .i64 t10003, (.slice Ao11 t10004.length co11), .int .i64 t10007] 25 (0, 0))) ∧ Aside0 (Below w.heap.size w w'))
   case atStart => exact ⟨(decide ((l0.length : Int) > 0)), (17179869184), (0), (by first | rfl | (simp; done) | (simp [*]; done)), (by first | rfl | (simp; done) | (simp [*]; done)), (by first | rfl | (simp; done) | (simp [*]; done)), H', ⟨Nat.le_refl _⟩, ⟨by (with_reducible repeat (first | apply Kd.R_alloc | apply Kd.R_drewN | apply Kd.R_drew)); exact Kd.R_mono (Kd.R_far (p := ⟨gb10009, 2, none⟩) (Kd.R_far (p := ⟨gb10009, 1, none⟩) (Kd.R_far (p := ⟨gb10009, 0, none⟩) (Kd.R_types HO10006.out BK10009.out (by decide)) (fun _ hk => hk.2) (.int .i64 t10003)) (fun _ hk => hk.2) (.slice Ao11 t10004.length co11)) (fun _ hk => hk.2) (.int .i64 t10007)) (fun _ hk => trivial)⟩, ⟨by (with_reducible repeat (first | refine blk_drewN ?_ _ | refine blk_drew ?_ | refine blk_alloc ?_ _)); refine blk_put (cs := #[.int .i64 t10003, .slice Ao11 t10004.length co11, .int .i64 0]) ?_ 2 _ rfl; (with_reducible repeat (first | refine blk_drewN ?_ _ | refine blk_drew ?_ | refine blk_alloc ?_ _)); refine blk_put (cs := #[.int .i64 t10003, .slice none 0 0, .int .i64 0]) ?_ 1 _ rfl; (with_reducible repeat (first | refine blk_drewN ?_ _ | refine blk_drew ?_ | refine blk_alloc ?_ _)); refine blk_put (cs := #[.int .i64 0, .slice none 0 0, .int .i64 0]) ?_ 0 _ rfl; (with_reducible repeat (first | refine blk_drewN ?_ _ | refine blk_drew ?_ | refine blk_alloc ?_ _)); exact BK10009.out⟩, ⟨by repeat (first | (with_reducible first | exact HB.out | apply below_alloc | apply pw_below_drewN | apply below_drew1 | refine below_set ?_ GE10009.out) | exact HB.out)⟩⟩
   case round =>
    clear H'
    try clear c2
    try clear p2
    try clear c5
    try clear c7
    try clear c7b0
    try clear c7b1
    try clear c9
    try clear hcz10_0
    try clear hcz10_1
    try clear hcz10_2
    try clear hfz10_0
    try clear hfz10_1
    try clear hfz10_2
    obtain ⟨x9_1, x10_1, x11_1, rfl, rfl, rfl, HA, HK1, HO_10010001, BK10009, HB⟩ := hrel
    cases gk with
    | zero => exact absurd HA.out (by simp [papermilllaw52_SheetBoth.l0])
    | succ k1 =>
     have H := HA.out
     clear HA
     simp only [papermilllaw52_SheetBoth.l0] at H
     by_cases c12 : x11_1 < (l0.length : Int)
     ·rw [if_pos c12] at H
      have c12b0 : decide (x11_1 < (l0.length : Int)) = true := decide_eq_true c12
      clear c12
      by_cases c13 : x9_1 = true
      ·subst c13
       have H1 : (if 0 ≤ x11_1 then ((papermillref04_Has.f k1 ((rd_T25 l0 x11_1).f1) a1).bind fun t10012 => (papermilllaw52_SheetBoth.l0 k1 l0 a1 a2 t10012 (mn x10_1 ((rd_T25 l0 x11_1).f0)) (wrap64 (x11_1 + 1)) t10003 t10004 t10007)) else (none)) = some r := by rw [if_pos rfl] at H; exact H
       clear H
       have H := H1
       clear H1
       by_cases c14 : 0 ≤ x11_1
       ·rw [if_pos c14] at H
        have c14b0 : decide (0 ≤ x11_1) = true := decide_eq_true c14
        clear c14
        replace H := Option.bind_eq_some_iff.mp H
        obtain ⟨t10012, A150, H⟩ := H
        replace H : (papermilllaw52_SheetBoth.l0 k1 l0 a1 a2 t10012 (mn x10_1 ((rd_T25 l0 x11_1).f0)) (wrap64 (x11_1 + 1)) t10003 t10004 t10007) = some r := H
        have A15 := Aside0.mk A150
        clear A150
        obtain ⟨ji16, hji16⟩ : ∃ j_ : Int, (mn x10_1 ((rd_T25 l0 x11_1).f0)) = j_ := ⟨_, rfl⟩
        replace H : (papermilllaw52_SheetBoth.l0 k1 l0 a1 a2 t10012 ji16 (wrap64 (x11_1 + 1)) t10003 t10004 t10007) = some r := by first | (rw [hji16] at H; exact H) | (simp only [hji16] at H ⊢; exact H)
        (try rw [hji16] at A15)
        have hji16_ : (if ((rd_T25 l0 x11_1).f0) < x10_1 then ((rd_T25 l0 x11_1).f0) else x10_1) = ji16 := hji16
        have H' := Aside0.mk H
        clear H
        have p10011 : 0 ≤ (x11_1 : Int) := of_decide_eq_true (by first | (with_reducible assumption) | assumption)
        have q10011 : x11_1 < (l0.length : Int) := of_decide_eq_true (by first | (with_reducible assumption) | assumption)
        obtain ⟨ad10011, A10011_1, c10011_1, e10011, hx10011_0, hx10011_1, hx10011_2, hl10011_1, hi10011_1⟩ := at_T25 HR0.out x11_1 p10011 q10011
        cases e10011
        replace hx10011_0 := (HB.out.cell (World.block_lt_of_cell? w _ hx10011_0)).trans hx10011_0
        replace hx10011_1 := (HB.out.cell (World.block_lt_of_cell? w _ hx10011_1)).trans hx10011_1
        replace hx10011_2 := (HB.out.cell (World.block_lt_of_cell? w _ hx10011_2)).trans hx10011_2
        have HR10011_1 := Aside0.mk hi10011_1
        have HC10011_1 := Aside0.mk hl10011_1
        clear hi10011_1 hl10011_1
        replace p10011 := eq_true p10011
        replace q10011 := eq_true q10011
        go_wp2_with (first | (go_at_call 25; (with_reducible refine (papermillref04_Has.calls k1 _ _ ((rd_T25 l0 x11_1).f1) a1 t10012 _ ?side1 ?side2 A15.out).mono ?_); (case side1 => repeat (first | exact (Kd.C_below HR10011_1.out HB.out) | (with_reducible refine Kd.C_alloc ?_ _) | (with_reducible refine Kd.C_drewN ?_ _) | (with_reducible refine Kd.C_drew ?_))); (case side2 => exact HC10011_1.out); rintro e w' ⟨rfl, ⟨nd, rfl⟩⟩; have p10013 : 0 ≤ (x11_1 : Int) := of_decide_eq_true (by first | (with_reducible assumption) | assumption); have q10013 : x11_1 < (l0.length : Int) := of_decide_eq_true (by first | (with_reducible assumption) | assumption); obtain ⟨ad10013, A10013_1, c10013_1, e10013, hx10013_0, hx10013_1, hx10013_2, hl10013_1, hi10013_1⟩ := at_T25 HR0.out x11_1 p10013 q10013; obtain rfl : ad10011 = ad10013 := (by injection e10013); replace hx10013_0 := (HB.out.cell (World.block_lt_of_cell? w _ hx10013_0)).trans hx10013_0; replace hx10013_1 := (HB.out.cell (World.block_lt_of_cell? w _ hx10013_1)).trans hx10013_1; replace hx10013_2 := (HB.out.cell (World.block_lt_of_cell? w _ hx10013_2)).trans hx10013_2; have HR10013_1 := Aside0.mk hi10013_1; have HC10013_1 := Aside0.mk hl10013_1; clear hi10013_1 hl10013_1; replace p10013 := eq_true p10013; replace q10013 := eq_true q10013; have ea_ := Option.some.inj (hx10011_1.symm.trans hx10013_1); injection ea_ with ea_ en_ ec_; subst ea_; subst ec_; clear en_))
        go_roundg k1
        case measure => have := HK1.out; omega
        case rel => exact ⟨(t10012), (ji16), (wrap64 (x11_1 + 1)), (by first | rfl | (simp; done) | (simp [*]; done)), (by first | rfl | (simp; done) | (simp only [← hji16] <;> (first | rfl | simp)) | (simp [*]; done)), (by first | rfl | (simp; done) | (simp [*]; done)), H', ⟨by have := HK1.out; omega⟩, ⟨by (with_reducible repeat (first | apply Kd.R_alloc | apply Kd.R_drewN | apply Kd.R_drew)); exact HO_10010001.out⟩, ⟨by (with_reducible repeat (first | refine blk_drewN ?_ _ | refine blk_drew ?_ | refine blk_alloc ?_ _)); exact BK10009.out⟩, ⟨by repeat (first | (with_reducible first | exact HB.out | apply below_alloc | apply pw_below_drewN | apply below_drew1 | refine below_set ?_ GE10009.out) | exact HB.out)⟩⟩
       ·rw [if_neg c14] at H
        exact absurd H (by simp)
      ·replace c13 := Bool.eq_false_iff.mpr c13
       subst c13
       have H1 : (if 0 ≤ x11_1 then (papermilllaw52_SheetBoth.l0 k1 l0 a1 a2 false (mn x10_1 ((rd_T25 l0 x11_1).f0)) (wrap64 (x11_1 + 1)) t10003 t10004 t10007) else (none)) = some r := by rw [if_neg (show ¬ (false = true) by decide)] at H; exact H
       clear H
       have H := H1
       clear H1
       by_cases c17 : 0 ≤ x11_1
       ·rw [if_pos c17] at H
        have c17b0 : decide (0 ≤ x11_1) = true := decide_eq_true c17
        clear c17
        obtain ⟨ji18, hji18⟩ : ∃ j_ : Int, (mn x10_1 ((rd_T25 l0 x11_1).f0)) = j_ := ⟨_, rfl⟩
        replace H : (papermilllaw52_SheetBoth.l0 k1 l0 a1 a2 false ji18 (wrap64 (x11_1 + 1)) t10003 t10004 t10007) = some r := by first | (rw [hji18] at H; exact H) | (simp only [hji18] at H ⊢; exact H)
        have hji18_ : (if ((rd_T25 l0 x11_1).f0) < x10_1 then ((rd_T25 l0 x11_1).f0) else x10_1) = ji18 := hji18
        have H' := Aside0.mk H
        clear H
        have p10014 : 0 ≤ (x11_1 : Int) := of_decide_eq_true (by first | (with_reducible assumption) | assumption)
        have q10014 : x11_1 < (l0.length : Int) := of_decide_eq_true (by first | (with_reducible assumption) | assumption)
        obtain ⟨ad10014, A10014_1, c10014_1, e10014, hx10014_0, hx10014_1, hx10014_2, hl10014_1, hi10014_1⟩ := at_T25 HR0.out x11_1 p10014 q10014
        cases e10014
        replace hx10014_0 := (HB.out.cell (World.block_lt_of_cell? w _ hx10014_0)).trans hx10014_0
        replace hx10014_1 := (HB.out.cell (World.block_lt_of_cell? w _ hx10014_1)).trans hx10014_1
        replace hx10014_2 := (HB.out.cell (World.block_lt_of_cell? w _ hx10014_2)).trans hx10014_2
        have HR10014_1 := Aside0.mk hi10014_1
        have HC10014_1 := Aside0.mk hl10014_1
        clear hi10014_1 hl10014_1
        replace p10014 := eq_true p10014
        replace q10014 := eq_true q10014
        go_wp2
        go_roundg k1
        case measure => have := HK1.out; omega
        case rel => exact ⟨(false), (ji18), (wrap64 (x11_1 + 1)), (by first | rfl | (simp; done) | (simp [*]; done)), (by first | rfl | (simp; done) | (simp only [← hji18] <;> (first | rfl | simp)) | (simp [*]; done)), (by first | rfl | (simp; done) | (simp [*]; done)), H', ⟨by have := HK1.out; omega⟩, ⟨by (with_reducible repeat (first | apply Kd.R_alloc | apply Kd.R_drewN | apply Kd.R_drew)); exact HO_10010001.out⟩, ⟨by (with_reducible repeat (first | refine blk_drewN ?_ _ | refine blk_drew ?_ | refine blk_alloc ?_ _)); exact BK10009.out⟩, ⟨by repeat (first | (with_reducible first | exact HB.out | apply below_alloc | apply pw_below_drewN | apply below_drew1 | refine below_set ?_ GE10009.out) | exact HB.out)⟩⟩
       ·rw [if_neg c17] at H
        exact absurd H (by simp)
     ·rw [if_neg c12] at H
      have c12b0 : decide (x11_1 < (l0.length : Int)) = false := decide_eq_false c12
      clear c12
      have HC19 := Aside0.mk H
      clear H
      go_upto_region 12 with (fail)
      go_cut [81] (fun v81 wc => ∃ (kq : Nat) (x81_18 : Bool), v81 = .bool x81_18 ∧ Aside0 (papermilllaw52_SheetBoth.j1 kq l0 a2 x81_18 t10003 t10004 t10007 = some r) ∧ Aside0 (kq ≤ k1) ∧ Aside0 (Kd.R k50 50 wc w.heap.size (fun _ => True) (.slice Ao11 t10004.length co11) t10004) ∧ Aside0 (wc.heap[gb10009]? = some (.cells #[.int .i64 t10003, (.slice Ao11 t10004.length co11), .int .i64 t10007] 25 (0, 0))) ∧ Aside0 (Below w.heap.size w wc))
      case first =>
       have H := HC19.out
       clear HC19
       by_cases c20 : t10003 = x10_1
       ·rw [if_pos c20] at H
        have c20b0 : (t10003 == x10_1) = true := beq_iff_eq.mpr c20
        have c20b1 : (t10003 != x10_1) = false := bne_eq_false_iff_eq.mpr c20
        clear c20
        (first | rw [c20b0] | (simp only [i64_w, i32_w]; rw [c20b0]) | skip)
        by_cases c21 : t10007 = 0
        ·rw [if_pos c21] at H
         have c21b0 : (t10007 == 0) = true := beq_iff_eq.mpr c21
         have c21b1 : (t10007 != 0) = false := bne_eq_false_iff_eq.mpr c21
         clear c21
         replace H := Option.bind_eq_some_iff.mp H
         obtain ⟨t10015, A220, H⟩ := H
         replace H : (papermilllaw52_SheetBoth.j1 k1 l0 a2 (t10015 != x9_1) t10003 t10004 t10007) = some r := H
         have A22 := Aside0.mk A220
         clear A220
         have H' := Aside0.mk H
         clear H
         have hcz23_0 : wr.cell? ⟨gb10009, 0, none⟩ = some (.int .i64 t10003) := (blk_cell BK10009.out 0).trans rfl
         have hcz23_1 : wr.cell? ⟨gb10009, 1, none⟩ = some (.slice Ao11 t10004.length co11) := (blk_cell BK10009.out 1).trans rfl
         have hcz23_2 : wr.cell? ⟨gb10009, 2, none⟩ = some (.int .i64 t10007) := (blk_cell BK10009.out 2).trans rfl
         have hfz23_0 := blk_frozen BK10009.out 0
         have hfz23_1 := blk_frozen BK10009.out 1
         have hfz23_2 := blk_frozen BK10009.out 2
         go_wp2_with (first | (go_at_call 25; (with_reducible refine (papermillref04_Has.calls k1 _ _ t10004 a1 t10015 _ ?side1 ?side2 A22.out).mono ?_); (case side1 => repeat (first | exact (Kd.R_reads' HO_10010001.out).2.2 | (with_reducible refine Kd.C_alloc ?_ _) | (with_reducible refine Kd.C_drewN ?_ _) | (with_reducible refine Kd.C_drew ?_))); (case side2 => exact (Kd.R_reads' HO_10010001.out).2.1); rintro e w' ⟨rfl, ⟨nd, rfl⟩⟩))
         go_meet
         case rel => exact ⟨_, ((t10015 != x9_1)), (by first | rfl | (simp; done) | (simp [*]; done)), H', ⟨by have := HK1.out; first | omega | exact Nat.le_refl _⟩, ⟨by (with_reducible repeat (first | apply Kd.R_alloc | apply Kd.R_drewN | apply Kd.R_drew)); exact HO_10010001.out⟩, ⟨by (with_reducible repeat (first | refine blk_drewN ?_ _ | refine blk_drew ?_ | refine blk_alloc ?_ _)); exact BK10009.out⟩, ⟨by repeat (first | (with_reducible first | exact HB.out | apply below_alloc | apply pw_below_drewN | apply below_drew1 | refine below_set ?_ GE10009.out) | exact HB.out)⟩⟩
        ·rw [if_neg c21] at H
         have c21b0 : (t10007 == 0) = false := beq_eq_false_iff_ne.mpr c21
         have c21b1 : (t10007 != 0) = true := bne_iff_ne.mpr c21
         have H' := Aside0.mk H
         clear H
         have hcz24_0 : wr.cell? ⟨gb10009, 0, none⟩ = some (.int .i64 t10003) := (blk_cell BK10009.out 0).trans rfl
         have hcz24_1 : wr.cell? ⟨gb10009, 1, none⟩ = some (.slice Ao11 t10004.length co11) := (blk_cell BK10009.out 1).trans rfl
         have hcz24_2 : wr.cell? ⟨gb10009, 2, none⟩ = some (.int .i64 t10007) := (blk_cell BK10009.out 2).trans rfl
         have hfz24_0 := blk_frozen BK10009.out 0
         have hfz24_1 := blk_frozen BK10009.out 1
         have hfz24_2 := blk_frozen BK10009.out 2
         go_wp2
         go_meet
         case rel => exact ⟨_, (true), (by first | rfl | (simp; done) | (simp [*]; done)), H', ⟨by have := HK1.out; first | omega | exact Nat.le_refl _⟩, ⟨by (with_reducible repeat (first | apply Kd.R_alloc | apply Kd.R_drewN | apply Kd.R_drew)); exact HO_10010001.out⟩, ⟨by (with_reducible repeat (first | refine blk_drewN ?_ _ | refine blk_drew ?_ | refine blk_alloc ?_ _)); exact BK10009.out⟩, ⟨by repeat (first | (with_reducible first | exact HB.out | apply below_alloc | apply pw_below_drewN | apply below_drew1 | refine below_set ?_ GE10009.out) | exact HB.out)⟩⟩
       ·rw [if_neg c20] at H
        have c20b0 : (t10003 == x10_1) = false := beq_eq_false_iff_ne.mpr c20
        have c20b1 : (t10003 != x10_1) = true := bne_iff_ne.mpr c20
        (first | rw [c20b0] | (simp only [i64_w, i32_w]; rw [c20b0]) | skip)
        have H' := Aside0.mk H
        clear H
        have hcz25_0 : wr.cell? ⟨gb10009, 0, none⟩ = some (.int .i64 t10003) := (blk_cell BK10009.out 0).trans rfl
        have hcz25_1 : wr.cell? ⟨gb10009, 1, none⟩ = some (.slice Ao11 t10004.length co11) := (blk_cell BK10009.out 1).trans rfl
        have hcz25_2 : wr.cell? ⟨gb10009, 2, none⟩ = some (.int .i64 t10007) := (blk_cell BK10009.out 2).trans rfl
        have hfz25_0 := blk_frozen BK10009.out 0
        have hfz25_1 := blk_frozen BK10009.out 1
        have hfz25_2 := blk_frozen BK10009.out 2
        go_wp2
        go_meet
        case rel => exact ⟨_, (true), (by first | rfl | (simp; done) | (simp [*]; done)), H', ⟨by have := HK1.out; first | omega | exact Nat.le_refl _⟩, ⟨by (with_reducible repeat (first | apply Kd.R_alloc | apply Kd.R_drewN | apply Kd.R_drew)); exact HO_10010001.out⟩, ⟨by (with_reducible repeat (first | refine blk_drewN ?_ _ | refine blk_drew ?_ | refine blk_alloc ?_ _)); exact BK10009.out⟩, ⟨by repeat (first | (with_reducible first | exact HB.out | apply below_alloc | apply pw_below_drewN | apply below_drew1 | refine below_set ?_ GE10009.out) | exact HB.out)⟩⟩
      case rest =>
       clear HC19
       try clear c1
       try clear p1
       try clear q1
       try clear hx1
       try clear c2
       try clear p2
       try clear c5
       try clear p6
       try clear c7
       try clear c7b0
       try clear c7b1
       try clear c9
       try clear c10
       try clear p10
       try clear q10
       try clear hx10
       try clear c12
       try clear c12b0
       try clear c13
       try clear c14
       try clear c14b0
       try clear c17
       try clear c17b0
       try clear c20
       try clear c20b0
       try clear c20b1
       try clear c21
       try clear c21b0
       try clear c21b1
       try clear hcz10_0
       try clear hcz10_1
       try clear hcz10_2
       try clear hcz23_0
       try clear hcz23_1
       try clear hcz23_2
       try clear hcz24_0
       try clear hcz24_1
       try clear hcz24_2
       try clear hcz25_0
       try clear hcz25_1
       try clear hcz25_2
       try clear hfz10_0
       try clear hfz10_1
       try clear hfz10_2
       try clear hfz23_0
       try clear hfz23_1
       try clear hfz23_2
       try clear hfz24_0
       try clear hfz24_1
       try clear hfz24_2
       try clear hfz25_0
       try clear hfz25_1
       try clear hfz25_2
       try clear hx10011_0
       try clear hx10011_1
       try clear hx10011_2
       try clear hx10013_0
       try clear hx10013_1
       try clear hx10013_2
       try clear hx10014_0
       try clear hx10014_1
       try clear hx10014_2
       try clear p10011
       try clear p10013
       try clear p10014
       try clear p2
       try clear q10011
       try clear q10013
       try clear q10014
       obtain ⟨kq, x81_18, rfl, HA, HJ18, HO_10010001, BK10009, HB⟩ := hcut
       cases kq with
       | zero => exact absurd HA.out (by simp [papermilllaw52_SheetBoth.j1])
       | succ kj18 =>
        have H := HA.out
        clear HA
        simp only [papermilllaw52_SheetBoth.j1] at H
        by_cases c26 : x81_18 = true
        ·subst c26
         have H1 : (some false) = some r := by rw [if_pos rfl] at H; exact H
         clear H
         have H := H1
         clear H1
         obtain rfl := Option.some.inj H
         go_wp2
         go_ret
         exact ⟨by first | rfl | (simp [errW_none, errW_some] <;> rfl) | (simp [*, errW_none, errW_some] <;> rfl), by repeat (first | (with_reducible first | exact HB.out | apply below_alloc | apply pw_below_drewN | apply below_drew1 | refine below_set ?_ GE10009.out) | exact HB.out)⟩
        ·replace c26 := Bool.eq_false_iff.mpr c26
         subst c26
         have H1 : (if a2 < 0 then (papermilllaw52_SheetBoth.j2 kj18 l0 a2 true t10003 t10004 t10007) else (papermilllaw52_SheetBoth.j2 kj18 l0 a2 (decide (a2 ≥ (l0.length : Int))) t10003 t10004 t10007)) = some r := by rw [if_neg (show ¬ (false = true) by decide)] at H; exact H
         clear H
         have H := H1
         clear H1
         have HC27 := Aside0.mk H
         clear H
         go_upto_region 14 with (fail)
         go_cut [89] (fun v89 wc => ∃ (kq : Nat) (x89_26 : Bool), v89 = .bool x89_26 ∧ Aside0 (papermilllaw52_SheetBoth.j2 kq l0 a2 x89_26 t10003 t10004 t10007 = some r) ∧ Aside0 (kq ≤ kj18) ∧ Aside0 (Kd.R k50 50 wc w.heap.size (fun _ => True) (.slice Ao11 t10004.length co11) t10004) ∧ Aside0 (wc.heap[gb10009]? = some (.cells #[.int .i64 t10003, (.slice Ao11 t10004.length co11), .int .i64 t10007] 25 (0, 0))) ∧ Aside0 (Below w.heap.size w wc))
         case first =>
          have H := HC27.out
          clear HC27
          by_cases c28 : a2 < 0
          ·rw [if_pos c28] at H
           have c28b0 : decide (a2 < 0) = true := decide_eq_true c28
           clear c28
           (first | rw [c28b0] | (simp only [i64_w, i32_w]; rw [c28b0]) | skip)
           have H' := Aside0.mk H
           clear H
           go_wp2
           go_meet
           case rel => exact ⟨_, (true), (by first | rfl | (simp; done) | (simp [*]; done)), H', ⟨by have := HK1.out; have := HJ18.out; first | omega | exact Nat.le_refl _⟩, ⟨by (with_reducible repeat (first | apply Kd.R_alloc | apply Kd.R_drewN | apply Kd.R_drew)); exact HO_10010001.out⟩, ⟨by (with_reducible repeat (first | refine blk_drewN ?_ _ | refine blk_drew ?_ | refine blk_alloc ?_ _)); exact BK10009.out⟩, ⟨by repeat (first | (with_reducible first | exact HB.out | apply below_alloc | apply pw_below_drewN | apply below_drew1 | refine below_set ?_ GE10009.out) | exact HB.out)⟩⟩
          ·rw [if_neg c28] at H
           have c28b0 : decide (a2 < 0) = false := decide_eq_false c28
           clear c28
           (first | rw [c28b0] | (simp only [i64_w, i32_w]; rw [c28b0]) | skip)
           have H' := Aside0.mk H
           clear H
           go_wp2
           go_meet
           case rel => exact ⟨_, (decide (a2 ≥ (l0.length : Int))), (by first | rfl | (simp; done) | (simp [*]; done)), H', ⟨by have := HK1.out; have := HJ18.out; first | omega | exact Nat.le_refl _⟩, ⟨by (with_reducible repeat (first | apply Kd.R_alloc | apply Kd.R_drewN | apply Kd.R_drew)); exact HO_10010001.out⟩, ⟨by (with_reducible repeat (first | refine blk_drewN ?_ _ | refine blk_drew ?_ | refine blk_alloc ?_ _)); exact BK10009.out⟩, ⟨by repeat (first | (with_reducible first | exact HB.out | apply below_alloc | apply pw_below_drewN | apply below_drew1 | refine below_set ?_ GE10009.out) | exact HB.out)⟩⟩
         case rest =>
          clear HC27
          try clear c1
          try clear p1
          try clear q1
          try clear hx1
          try clear c2
          try clear p2
          try clear c5
          try clear p6
          try clear c7
          try clear c7b0
          try clear c7b1
          try clear c9
          try clear c10
          try clear p10
          try clear q10
          try clear hx10
          try clear c12
          try clear c12b0
          try clear c13
          try clear c14
          try clear c14b0
          try clear c17
          try clear c17b0
          try clear c20
          try clear c20b0
          try clear c20b1
          try clear c21
          try clear c21b0
          try clear c21b1
          try clear c26
          try clear c28
          try clear c28b0
          try clear hcz10_0
          try clear hcz10_1
          try clear hcz10_2
          try clear hcz23_0
          try clear hcz23_1
          try clear hcz23_2
          try clear hcz24_0
          try clear hcz24_1
          try clear hcz24_2
          try clear hcz25_0
          try clear hcz25_1
          try clear hcz25_2
          try clear hfz10_0
          try clear hfz10_1
          try clear hfz10_2
          try clear hfz23_0
          try clear hfz23_1
          try clear hfz23_2
          try clear hfz24_0
          try clear hfz24_1
          try clear hfz24_2
          try clear hfz25_0
          try clear hfz25_1
          try clear hfz25_2
          try clear hx10011_0
          try clear hx10011_1
          try clear hx10011_2
          try clear hx10013_0
          try clear hx10013_1
          try clear hx10013_2
          try clear hx10014_0
          try clear hx10014_1
          try clear hx10014_2
          try clear p1
          try clear p10
          try clear p10011
          try clear p10013
          try clear p10014
          try clear p2
          try clear p6
          try clear q1
          try clear q10
          try clear q10011
          try clear q10013
          try clear q10014
          obtain ⟨kq, x89_26, rfl, HA, HJ26, HO_10010001, BK10009, HB⟩ := hcut
          cases kq with
          | zero => exact absurd HA.out (by simp [papermilllaw52_SheetBoth.j2])
          | succ kj26 =>
           have H := HA.out
           clear HA
           simp only [papermilllaw52_SheetBoth.j2] at H
           by_cases c29 : x89_26 = true
           ·subst c29
            have H1 : ((papermilllaw52_awake.f).bind fun t10016 => (some t10016)) = some r := by rw [if_pos rfl] at H; exact H
            clear H
            have H := H1
            clear H1
            replace H := Option.bind_eq_some_iff.mp H
            obtain ⟨t10016, A300, H⟩ := H
            replace H : (some t10016) = some r := H
            have A30 := Aside0.mk A300
            clear A300
            obtain rfl := Option.some.inj H
            go_wp2_with (first | ((with_reducible refine gate_callee (f := 12) rfl ?_); refine goesL_ (some 90) rfl rfl Try.func12 (by kernel_rfl) rfl #[] rfl (by (try simp only [List.map_toArray, List.map_cons, List.map_nil]); first | done | rfl | (simp only [List.length_drop, List.length_take]; rfl)) ?_; (with_reducible refine (papermilllaw52_awake.calls  t10016 _ A30.out).mono ?_); rintro e w31 ⟨rfl, hb⟩; refine ⟨_, rfl, ?_⟩; have n0_ := Aside0.mk (Kd.R_below (by (with_reducible repeat (first | apply Kd.R_alloc | apply Kd.R_drewN | apply Kd.R_drew)); exact HO_10010001.out) hb); have n1_ := Aside0.mk (blk_below (g := gb10009) (o := .cells #[.int .i64 t10003, .slice Ao11 t10004.length co11, .int .i64 t10007] 25 (0, 0)) (by (with_reducible repeat (first | refine blk_drewN ?_ _ | refine blk_drew ?_ | refine blk_alloc ?_ _)); exact BK10009.out) hb); have n2_ := Aside0.mk (below_step (by repeat (first | (with_reducible first | exact HB.out | apply below_alloc | apply pw_below_drewN | apply below_drew1 | refine below_set ?_ GE10009.out) | exact HB.out)) hb); clear HO_10010001; clear BK10009; clear HB; have HO_10010001 := n0_; have BK10009 := n1_; have HB := n2_; clear n0_ n1_ n2_; (try clear hb); (try clear hb2); (try clear hk); (try clear hi)))
            go_ret
            exact ⟨by first | rfl | (simp [errW_none, errW_some] <;> rfl) | (simp [*, errW_none, errW_some] <;> rfl), by repeat (first | (with_reducible first | exact HB.out | apply below_alloc | apply pw_below_drewN | apply below_drew1 | refine below_set ?_ GE10009.out) | exact HB.out)⟩
           ·replace c29 := Bool.eq_false_iff.mpr c29
            subst c29
            have H1 : ((sheet_Good.f kj26 t10003 t10004 t10007).bind fun bt10017 => (if 0 ≤ a2 then (if a2 < (l0.length : Int) then ((sheet_Good.f kj26 ((rd_T25 l0 a2).f0) ((rd_T25 l0 a2).f1) ((rd_T25 l0 a2).f2)).bind fun bt10020 => (if bt10017.2 = 0 then (if bt10020.2 = 0 then (if bt10017.1 ≤ bt10020.1 then ((papermilllaw52_awake.f).bind fun t10022 => (some t10022)) else (some false)) else (some false)) else (some false))) else (none)) else (none))) = some r := by rw [if_neg (show ¬ (false = true) by decide)] at H; exact H
            clear H
            have H := H1
            clear H1
            replace H := Option.bind_eq_some_iff.mp H
            obtain ⟨⟨t10017, t10018⟩, A320, H⟩ := H
            replace H : (if 0 ≤ a2 then (if a2 < (l0.length : Int) then ((sheet_Good.f kj26 ((rd_T25 l0 a2).f0) ((rd_T25 l0 a2).f1) ((rd_T25 l0 a2).f2)).bind fun bt10020 => (if t10018 = 0 then (if bt10020.2 = 0 then (if t10017 ≤ bt10020.1 then ((papermilllaw52_awake.f).bind fun t10022 => (some t10022)) else (some false)) else (some false)) else (some false))) else (none)) else (none)) = some r := H
            have A32 := Aside0.mk A320
            clear A320
            by_cases c33 : 0 ≤ a2
            ·rw [if_pos c33] at H
             have c33b0 : decide (0 ≤ a2) = true := decide_eq_true c33
             clear c33
             by_cases c34 : a2 < (l0.length : Int)
             ·rw [if_pos c34] at H
              have c34b0 : decide (a2 < (l0.length : Int)) = true := decide_eq_true c34
              clear c34
              replace H := Option.bind_eq_some_iff.mp H
              obtain ⟨⟨t10020, t10021⟩, A350, H⟩ := H
              replace H : (if t10018 = 0 then (if t10021 = 0 then (if t10017 ≤ t10020 then ((papermilllaw52_awake.f).bind fun t10022 => (some t10022)) else (some false)) else (some false)) else (some false)) = some r := H
              have A35 := Aside0.mk A350
              clear A350
              by_cases c36 : t10018 = 0
              ·rw [if_pos c36] at H
               have c36b0 : (t10018 == 0) = true := beq_iff_eq.mpr c36
               have c36b1 : (t10018 != 0) = false := bne_eq_false_iff_eq.mpr c36
               clear c36
               by_cases c37 : t10021 = 0
               ·rw [if_pos c37] at H
                have c37b0 : (t10021 == 0) = true := beq_iff_eq.mpr c37
                have c37b1 : (t10021 != 0) = false := bne_eq_false_iff_eq.mpr c37
                clear c37
                by_cases c38 : t10017 ≤ t10020
                ·rw [if_pos c38] at H
                 have c38b0 : decide (t10017 ≤ t10020) = true := decide_eq_true c38
                 clear c38
                 replace H := Option.bind_eq_some_iff.mp H
                 obtain ⟨t10022, A390, H⟩ := H
                 replace H : (some t10022) = some r := H
                 have A39 := Aside0.mk A390
                 clear A390
                 obtain rfl := Option.some.inj H
                 have hcz40_0 : wc.cell? ⟨gb10009, 0, none⟩ = some (.int .i64 t10003) := (blk_cell BK10009.out 0).trans rfl
                 have hcz40_1 : wc.cell? ⟨gb10009, 1, none⟩ = some (.slice Ao11 t10004.length co11) := (blk_cell BK10009.out 1).trans rfl
                 have hcz40_2 : wc.cell? ⟨gb10009, 2, none⟩ = some (.int .i64 t10007) := (blk_cell BK10009.out 2).trans rfl
                 have hfz40_0 := blk_frozen BK10009.out 0
                 have hfz40_1 := blk_frozen BK10009.out 1
                 have hfz40_2 := blk_frozen BK10009.out 2
                 go_wp2_with (first | ((with_reducible refine gate_callee (f := 23) rfl ?_); refine goesL_ (some 93) rfl rfl Try.func23 (by kernel_rfl) rfl #[.agg #[.int .i64 t10003, .slice Ao11 t10004.length co11, .int .i64 t10007]] rfl (by (try simp only [List.map_toArray, List.map_cons, List.map_nil]); first | done | rfl | (simp only [List.length_drop, List.length_take]; rfl)) ?_; (with_reducible refine (sheet_Good.calls kj26 t10003 _ _ t10004 t10007 t10017 t10018 _ ?side1 ?side2 A32.out).mono ?_); (case side1 => repeat (first | exact (Kd.R_reads' HO_10010001.out).2.2 | (with_reducible refine Kd.C_alloc ?_ _) | (with_reducible refine Kd.C_drewN ?_ _) | (with_reducible refine Kd.C_drew ?_))); (case side2 => exact (Kd.R_reads' HO_10010001.out).2.1); rintro e w41 ⟨rfl, hb⟩; refine ⟨_, rfl, ?_⟩; have n0_ := Aside0.mk (Kd.R_below (by (with_reducible repeat (first | apply Kd.R_alloc | apply Kd.R_drewN | apply Kd.R_drew)); exact HO_10010001.out) hb); have n1_ := Aside0.mk (blk_below (g := gb10009) (o := .cells #[.int .i64 t10003, .slice Ao11 t10004.length co11, .int .i64 t10007] 25 (0, 0)) (by (with_reducible repeat (first | refine blk_drewN ?_ _ | refine blk_drew ?_ | refine blk_alloc ?_ _)); exact BK10009.out) hb); have n2_ := Aside0.mk (below_step (by repeat (first | (with_reducible first | exact HB.out | apply below_alloc | apply pw_below_drewN | apply below_drew1 | refine below_set ?_ GE10009.out) | exact HB.out)) hb); clear HO_10010001; clear BK10009; clear HB; have HO_10010001 := n0_; have BK10009 := n1_; have HB := n2_; clear n0_ n1_ n2_; (try clear hb); (try clear hb2); (try clear hk); (try clear hi); have p10019 : 0 ≤ (a2 : Int) := of_decide_eq_true (by first | (with_reducible assumption) | assumption); have q10019 : a2 < (l0.length : Int) := of_decide_eq_true (by first | (with_reducible assumption) | assumption); obtain ⟨ad10019, A10019_1, c10019_1, e10019, hx10019_0, hx10019_1, hx10019_2, hl10019_1, hi10019_1⟩ := at_T25 HR0.out a2 p10019 q10019; cases e10019; replace hx10019_0 := (HB.out.cell (World.block_lt_of_cell? w _ hx10019_0)).trans hx10019_0; replace hx10019_1 := (HB.out.cell (World.block_lt_of_cell? w _ hx10019_1)).trans hx10019_1; replace hx10019_2 := (HB.out.cell (World.block_lt_of_cell? w _ hx10019_2)).trans hx10019_2; have HR10019_1 := Aside0.mk hi10019_1; have HC10019_1 := Aside0.mk hl10019_1; clear hi10019_1 hl10019_1; replace p10019 := eq_true p10019; replace q10019 := eq_true q10019) | ((with_reducible refine gate_callee (f := 23) rfl ?_); refine goesL_ (some 101) rfl rfl Try.func23 (by kernel_rfl) rfl #[.agg #[.int .i64 ((rd_T25 l0 a2).f0), .slice A10019_1 ((rd_T25 l0 a2).f1).length c10019_1, .int .i64 ((rd_T25 l0 a2).f2)]] rfl (by (try simp only [List.map_toArray, List.map_cons, List.map_nil]); first | done | rfl | (simp only [List.length_drop, List.length_take]; rfl)) ?_; (with_reducible refine (sheet_Good.calls kj26 ((rd_T25 l0 a2).f0) _ _ ((rd_T25 l0 a2).f1) ((rd_T25 l0 a2).f2) t10020 t10021 _ ?side1 ?side2 A35.out).mono ?_); (case side1 => repeat (first | exact (Kd.C_below HR10019_1.out HB.out) | (with_reducible refine Kd.C_alloc ?_ _) | (with_reducible refine Kd.C_drewN ?_ _) | (with_reducible refine Kd.C_drew ?_))); (case side2 => exact HC10019_1.out); rintro e w42 ⟨rfl, hb⟩; refine ⟨_, rfl, ?_⟩; have n0_ := Aside0.mk (Kd.R_below (by (with_reducible repeat (first | apply Kd.R_alloc | apply Kd.R_drewN | apply Kd.R_drew)); exact HO_10010001.out) hb); have n1_ := Aside0.mk (blk_below (g := gb10009) (o := .cells #[.int .i64 t10003, .slice Ao11 t10004.length co11, .int .i64 t10007] 25 (0, 0)) (by (with_reducible repeat (first | refine blk_drewN ?_ _ | refine blk_drew ?_ | refine blk_alloc ?_ _)); exact BK10009.out) hb); have n2_ := Aside0.mk (below_step (by repeat (first | (with_reducible first | exact HB.out | apply below_alloc | apply pw_below_drewN | apply below_drew1 | refine below_set ?_ GE10009.out) | exact HB.out)) hb); clear HO_10010001; clear BK10009; clear HB; have HO_10010001 := n0_; have BK10009 := n1_; have HB := n2_; clear n0_ n1_ n2_; (try clear hb); (try clear hb2); (try clear hk); (try clear hi)) | (go_at_call 12; (with_reducible refine (papermilllaw52_awake.calls  t10022 _ A39.out).mono ?_); rintro e w43 ⟨rfl, hb⟩; have n0_ := Aside0.mk (Kd.R_below (by (with_reducible repeat (first | apply Kd.R_alloc | apply Kd.R_drewN | apply Kd.R_drew)); exact HO_10010001.out) hb); have n1_ := Aside0.mk (blk_below (g := gb10009) (o := .cells #[.int .i64 t10003, .slice Ao11 t10004.length co11, .int .i64 t10007] 25 (0, 0)) (by (with_reducible repeat (first | refine blk_drewN ?_ _ | refine blk_drew ?_ | refine blk_alloc ?_ _)); exact BK10009.out) hb); have n2_ := Aside0.mk (below_step (by repeat (first | (with_reducible first | exact HB.out | apply below_alloc | apply pw_below_drewN | apply below_drew1 | refine below_set ?_ GE10009.out) | exact HB.out)) hb); clear HO_10010001; clear BK10009; clear HB; have HO_10010001 := n0_; have BK10009 := n1_; have HB := n2_; clear n0_ n1_ n2_; (try clear hb); (try clear hb2); (try clear hk); (try clear hi)))
                 go_ret
                 exact ⟨by first | rfl | (simp [errW_none, errW_some] <;> rfl) | (simp [*, errW_none, errW_some] <;> rfl), by repeat (first | (with_reducible first | exact HB.out | apply below_alloc | apply pw_below_drewN | apply below_drew1 | refine below_set ?_ GE10009.out) | exact HB.out)⟩
                ·rw [if_neg c38] at H
                 have c38b0 : decide (t10017 ≤ t10020) = false := decide_eq_false c38
                 clear c38
                 obtain rfl := Option.some.inj H
                 have hcz44_0 : wc.cell? ⟨gb10009, 0, none⟩ = some (.int .i64 t10003) := (blk_cell BK10009.out 0).trans rfl
                 have hcz44_1 : wc.cell? ⟨gb10009, 1, none⟩ = some (.slice Ao11 t10004.length co11) := (blk_cell BK10009.out 1).trans rfl
                 have hcz44_2 : wc.cell? ⟨gb10009, 2, none⟩ = some (.int .i64 t10007) := (blk_cell BK10009.out 2).trans rfl
                 have hfz44_0 := blk_frozen BK10009.out 0
                 have hfz44_1 := blk_frozen BK10009.out 1
                 have hfz44_2 := blk_frozen BK10009.out 2
                 go_wp2_with (first | ((with_reducible refine gate_callee (f := 23) rfl ?_); refine goesL_ (some 93) rfl rfl Try.func23 (by kernel_rfl) rfl #[.agg #[.int .i64 t10003, .slice Ao11 t10004.length co11, .int .i64 t10007]] rfl (by (try simp only [List.map_toArray, List.map_cons, List.map_nil]); first | done | rfl | (simp only [List.length_drop, List.length_take]; rfl)) ?_; (with_reducible refine (sheet_Good.calls kj26 t10003 _ _ t10004 t10007 t10017 t10018 _ ?side1 ?side2 A32.out).mono ?_); (case side1 => repeat (first | exact (Kd.R_reads' HO_10010001.out).2.2 | (with_reducible refine Kd.C_alloc ?_ _) | (with_reducible refine Kd.C_drewN ?_ _) | (with_reducible refine Kd.C_drew ?_))); (case side2 => exact (Kd.R_reads' HO_10010001.out).2.1); rintro e w45 ⟨rfl, hb⟩; refine ⟨_, rfl, ?_⟩; have n0_ := Aside0.mk (Kd.R_below (by (with_reducible repeat (first | apply Kd.R_alloc | apply Kd.R_drewN | apply Kd.R_drew)); exact HO_10010001.out) hb); have n1_ := Aside0.mk (blk_below (g := gb10009) (o := .cells #[.int .i64 t10003, .slice Ao11 t10004.length co11, .int .i64 t10007] 25 (0, 0)) (by (with_reducible repeat (first | refine blk_drewN ?_ _ | refine blk_drew ?_ | refine blk_alloc ?_ _)); exact BK10009.out) hb); have n2_ := Aside0.mk (below_step (by repeat (first | (with_reducible first | exact HB.out | apply below_alloc | apply pw_below_drewN | apply below_drew1 | refine below_set ?_ GE10009.out) | exact HB.out)) hb); clear HO_10010001; clear BK10009; clear HB; have HO_10010001 := n0_; have BK10009 := n1_; have HB := n2_; clear n0_ n1_ n2_; (try clear hb); (try clear hb2); (try clear hk); (try clear hi); have p10019 : 0 ≤ (a2 : Int) := of_decide_eq_true (by first | (with_reducible assumption) | assumption); have q10019 : a2 < (l0.length : Int) := of_decide_eq_true (by first | (with_reducible assumption) | assumption); obtain ⟨ad10019, A10019_1, c10019_1, e10019, hx10019_0, hx10019_1, hx10019_2, hl10019_1, hi10019_1⟩ := at_T25 HR0.out a2 p10019 q10019; cases e10019; replace hx10019_0 := (HB.out.cell (World.block_lt_of_cell? w _ hx10019_0)).trans hx10019_0; replace hx10019_1 := (HB.out.cell (World.block_lt_of_cell? w _ hx10019_1)).trans hx10019_1; replace hx10019_2 := (HB.out.cell (World.block_lt_of_cell? w _ hx10019_2)).trans hx10019_2; have HR10019_1 := Aside0.mk hi10019_1; have HC10019_1 := Aside0.mk hl10019_1; clear hi10019_1 hl10019_1; replace p10019 := eq_true p10019; replace q10019 := eq_true q10019) | ((with_reducible refine gate_callee (f := 23) rfl ?_); refine goesL_ (some 101) rfl rfl Try.func23 (by kernel_rfl) rfl #[.agg #[.int .i64 ((rd_T25 l0 a2).f0), .slice A10019_1 ((rd_T25 l0 a2).f1).length c10019_1, .int .i64 ((rd_T25 l0 a2).f2)]] rfl (by (try simp only [List.map_toArray, List.map_cons, List.map_nil]); first | done | rfl | (simp only [List.length_drop, List.length_take]; rfl)) ?_; (with_reducible refine (sheet_Good.calls kj26 ((rd_T25 l0 a2).f0) _ _ ((rd_T25 l0 a2).f1) ((rd_T25 l0 a2).f2) t10020 t10021 _ ?side1 ?side2 A35.out).mono ?_); (case side1 => repeat (first | exact (Kd.C_below HR10019_1.out HB.out) | (with_reducible refine Kd.C_alloc ?_ _) | (with_reducible refine Kd.C_drewN ?_ _) | (with_reducible refine Kd.C_drew ?_))); (case side2 => exact HC10019_1.out); rintro e w46 ⟨rfl, hb⟩; refine ⟨_, rfl, ?_⟩; have n0_ := Aside0.mk (Kd.R_below (by (with_reducible repeat (first | apply Kd.R_alloc | apply Kd.R_drewN | apply Kd.R_drew)); exact HO_10010001.out) hb); have n1_ := Aside0.mk (blk_below (g := gb10009) (o := .cells #[.int .i64 t10003, .slice Ao11 t10004.length co11, .int .i64 t10007] 25 (0, 0)) (by (with_reducible repeat (first | refine blk_drewN ?_ _ | refine blk_drew ?_ | refine blk_alloc ?_ _)); exact BK10009.out) hb); have n2_ := Aside0.mk (below_step (by repeat (first | (with_reducible first | exact HB.out | apply below_alloc | apply pw_below_drewN | apply below_drew1 | refine below_set ?_ GE10009.out) | exact HB.out)) hb); clear HO_10010001; clear BK10009; clear HB; have HO_10010001 := n0_; have BK10009 := n1_; have HB := n2_; clear n0_ n1_ n2_; (try clear hb); (try clear hb2); (try clear hk); (try clear hi)))
                 go_ret
                 exact ⟨by first | rfl | (simp [errW_none, errW_some] <;> rfl) | (simp [*, errW_none, errW_some] <;> rfl), by repeat (first | (with_reducible first | exact HB.out | apply below_alloc | apply pw_below_drewN | apply below_drew1 | refine below_set ?_ GE10009.out) | exact HB.out)⟩
               ·rw [if_neg c37] at H
                have c37b0 : (t10021 == 0) = false := beq_eq_false_iff_ne.mpr c37
                have c37b1 : (t10021 != 0) = true := bne_iff_ne.mpr c37
                obtain rfl := Option.some.inj H
                have hcz47_0 : wc.cell? ⟨gb10009, 0, none⟩ = some (.int .i64 t10003) := (blk_cell BK10009.out 0).trans rfl
                have hcz47_1 : wc.cell? ⟨gb10009, 1, none⟩ = some (.slice Ao11 t10004.length co11) := (blk_cell BK10009.out 1).trans rfl
                have hcz47_2 : wc.cell? ⟨gb10009, 2, none⟩ = some (.int .i64 t10007) := (blk_cell BK10009.out 2).trans rfl
                have hfz47_0 := blk_frozen BK10009.out 0
                have hfz47_1 := blk_frozen BK10009.out 1
                have hfz47_2 := blk_frozen BK10009.out 2
                go_wp2_with (first | ((with_reducible refine gate_callee (f := 23) rfl ?_); refine goesL_ (some 93) rfl rfl Try.func23 (by kernel_rfl) rfl #[.agg #[.int .i64 t10003, .slice Ao11 t10004.length co11, .int .i64 t10007]] rfl (by (try simp only [List.map_toArray, List.map_cons, List.map_nil]); first | done | rfl | (simp only [List.length_drop, List.length_take]; rfl)) ?_; (with_reducible refine (sheet_Good.calls kj26 t10003 _ _ t10004 t10007 t10017 t10018 _ ?side1 ?side2 A32.out).mono ?_); (case side1 => repeat (first | exact (Kd.R_reads' HO_10010001.out).2.2 | (with_reducible refine Kd.C_alloc ?_ _) | (with_reducible refine Kd.C_drewN ?_ _) | (with_reducible refine Kd.C_drew ?_))); (case side2 => exact (Kd.R_reads' HO_10010001.out).2.1); rintro e w48 ⟨rfl, hb⟩; refine ⟨_, rfl, ?_⟩; have n0_ := Aside0.mk (Kd.R_below (by (with_reducible repeat (first | apply Kd.R_alloc | apply Kd.R_drewN | apply Kd.R_drew)); exact HO_10010001.out) hb); have n1_ := Aside0.mk (blk_below (g := gb10009) (o := .cells #[.int .i64 t10003, .slice Ao11 t10004.length co11, .int .i64 t10007] 25 (0, 0)) (by (with_reducible repeat (first | refine blk_drewN ?_ _ | refine blk_drew ?_ | refine blk_alloc ?_ _)); exact BK10009.out) hb); have n2_ := Aside0.mk (below_step (by repeat (first | (with_reducible first | exact HB.out | apply below_alloc | apply pw_below_drewN | apply below_drew1 | refine below_set ?_ GE10009.out) | exact HB.out)) hb); clear HO_10010001; clear BK10009; clear HB; have HO_10010001 := n0_; have BK10009 := n1_; have HB := n2_; clear n0_ n1_ n2_; (try clear hb); (try clear hb2); (try clear hk); (try clear hi); have p10019 : 0 ≤ (a2 : Int) := of_decide_eq_true (by first | (with_reducible assumption) | assumption); have q10019 : a2 < (l0.length : Int) := of_decide_eq_true (by first | (with_reducible assumption) | assumption); obtain ⟨ad10019, A10019_1, c10019_1, e10019, hx10019_0, hx10019_1, hx10019_2, hl10019_1, hi10019_1⟩ := at_T25 HR0.out a2 p10019 q10019; cases e10019; replace hx10019_0 := (HB.out.cell (World.block_lt_of_cell? w _ hx10019_0)).trans hx10019_0; replace hx10019_1 := (HB.out.cell (World.block_lt_of_cell? w _ hx10019_1)).trans hx10019_1; replace hx10019_2 := (HB.out.cell (World.block_lt_of_cell? w _ hx10019_2)).trans hx10019_2; have HR10019_1 := Aside0.mk hi10019_1; have HC10019_1 := Aside0.mk hl10019_1; clear hi10019_1 hl10019_1; replace p10019 := eq_true p10019; replace q10019 := eq_true q10019) | ((with_reducible refine gate_callee (f := 23) rfl ?_); refine goesL_ (some 101) rfl rfl Try.func23 (by kernel_rfl) rfl #[.agg #[.int .i64 ((rd_T25 l0 a2).f0), .slice A10019_1 ((rd_T25 l0 a2).f1).length c10019_1, .int .i64 ((rd_T25 l0 a2).f2)]] rfl (by (try simp only [List.map_toArray, List.map_cons, List.map_nil]); first | done | rfl | (simp only [List.length_drop, List.length_take]; rfl)) ?_; (with_reducible refine (sheet_Good.calls kj26 ((rd_T25 l0 a2).f0) _ _ ((rd_T25 l0 a2).f1) ((rd_T25 l0 a2).f2) t10020 t10021 _ ?side1 ?side2 A35.out).mono ?_); (case side1 => repeat (first | exact (Kd.C_below HR10019_1.out HB.out) | (with_reducible refine Kd.C_alloc ?_ _) | (with_reducible refine Kd.C_drewN ?_ _) | (with_reducible refine Kd.C_drew ?_))); (case side2 => exact HC10019_1.out); rintro e w49 ⟨rfl, hb⟩; refine ⟨_, rfl, ?_⟩; have n0_ := Aside0.mk (Kd.R_below (by (with_reducible repeat (first | apply Kd.R_alloc | apply Kd.R_drewN | apply Kd.R_drew)); exact HO_10010001.out) hb); have n1_ := Aside0.mk (blk_below (g := gb10009) (o := .cells #[.int .i64 t10003, .slice Ao11 t10004.length co11, .int .i64 t10007] 25 (0, 0)) (by (with_reducible repeat (first | refine blk_drewN ?_ _ | refine blk_drew ?_ | refine blk_alloc ?_ _)); exact BK10009.out) hb); have n2_ := Aside0.mk (below_step (by repeat (first | (with_reducible first | exact HB.out | apply below_alloc | apply pw_below_drewN | apply below_drew1 | refine below_set ?_ GE10009.out) | exact HB.out)) hb); clear HO_10010001; clear BK10009; clear HB; have HO_10010001 := n0_; have BK10009 := n1_; have HB := n2_; clear n0_ n1_ n2_; (try clear hb); (try clear hb2); (try clear hk); (try clear hi)))
                go_ret
                exact ⟨by first | rfl | (simp [errW_none, errW_some] <;> rfl) | (simp [*, errW_none, errW_some] <;> rfl), by repeat (first | (with_reducible first | exact HB.out | apply below_alloc | apply pw_below_drewN | apply below_drew1 | refine below_set ?_ GE10009.out) | exact HB.out)⟩
              ·rw [if_neg c36] at H
               have c36b0 : (t10018 == 0) = false := beq_eq_false_iff_ne.mpr c36
               have c36b1 : (t10018 != 0) = true := bne_iff_ne.mpr c36
               obtain rfl := Option.some.inj H
               have hcz50_0 : wc.cell? ⟨gb10009, 0, none⟩ = some (.int .i64 t10003) := (blk_cell BK10009.out 0).trans rfl
               have hcz50_1 : wc.cell? ⟨gb10009, 1, none⟩ = some (.slice Ao11 t10004.length co11) := (blk_cell BK10009.out 1).trans rfl
               have hcz50_2 : wc.cell? ⟨gb10009, 2, none⟩ = some (.int .i64 t10007) := (blk_cell BK10009.out 2).trans rfl
               have hfz50_0 := blk_frozen BK10009.out 0
               have hfz50_1 := blk_frozen BK10009.out 1
               have hfz50_2 := blk_frozen BK10009.out 2
               go_wp2_with (first | ((with_reducible refine gate_callee (f := 23) rfl ?_); refine goesL_ (some 93) rfl rfl Try.func23 (by kernel_rfl) rfl #[.agg #[.int .i64 t10003, .slice Ao11 t10004.length co11, .int .i64 t10007]] rfl (by (try simp only [List.map_toArray, List.map_cons, List.map_nil]); first | done | rfl | (simp only [List.length_drop, List.length_take]; rfl)) ?_; (with_reducible refine (sheet_Good.calls kj26 t10003 _ _ t10004 t10007 t10017 t10018 _ ?side1 ?side2 A32.out).mono ?_); (case side1 => repeat (first | exact (Kd.R_reads' HO_10010001.out).2.2 | (with_reducible refine Kd.C_alloc ?_ _) | (with_reducible refine Kd.C_drewN ?_ _) | (with_reducible refine Kd.C_drew ?_))); (case side2 => exact (Kd.R_reads' HO_10010001.out).2.1); rintro e w51 ⟨rfl, hb⟩; refine ⟨_, rfl, ?_⟩; have n0_ := Aside0.mk (Kd.R_below (by (with_reducible repeat (first | apply Kd.R_alloc | apply Kd.R_drewN | apply Kd.R_drew)); exact HO_10010001.out) hb); have n1_ := Aside0.mk (blk_below (g := gb10009) (o := .cells #[.int .i64 t10003, .slice Ao11 t10004.length co11, .int .i64 t10007] 25 (0, 0)) (by (with_reducible repeat (first | refine blk_drewN ?_ _ | refine blk_drew ?_ | refine blk_alloc ?_ _)); exact BK10009.out) hb); have n2_ := Aside0.mk (below_step (by repeat (first | (with_reducible first | exact HB.out | apply below_alloc | apply pw_below_drewN | apply below_drew1 | refine below_set ?_ GE10009.out) | exact HB.out)) hb); clear HO_10010001; clear BK10009; clear HB; have HO_10010001 := n0_; have BK10009 := n1_; have HB := n2_; clear n0_ n1_ n2_; (try clear hb); (try clear hb2); (try clear hk); (try clear hi); have p10019 : 0 ≤ (a2 : Int) := of_decide_eq_true (by first | (with_reducible assumption) | assumption); have q10019 : a2 < (l0.length : Int) := of_decide_eq_true (by first | (with_reducible assumption) | assumption); obtain ⟨ad10019, A10019_1, c10019_1, e10019, hx10019_0, hx10019_1, hx10019_2, hl10019_1, hi10019_1⟩ := at_T25 HR0.out a2 p10019 q10019; cases e10019; replace hx10019_0 := (HB.out.cell (World.block_lt_of_cell? w _ hx10019_0)).trans hx10019_0; replace hx10019_1 := (HB.out.cell (World.block_lt_of_cell? w _ hx10019_1)).trans hx10019_1; replace hx10019_2 := (HB.out.cell (World.block_lt_of_cell? w _ hx10019_2)).trans hx10019_2; have HR10019_1 := Aside0.mk hi10019_1; have HC10019_1 := Aside0.mk hl10019_1; clear hi10019_1 hl10019_1; replace p10019 := eq_true p10019; replace q10019 := eq_true q10019) | ((with_reducible refine gate_callee (f := 23) rfl ?_); refine goesL_ (some 101) rfl rfl Try.func23 (by kernel_rfl) rfl #[.agg #[.int .i64 ((rd_T25 l0 a2).f0), .slice A10019_1 ((rd_T25 l0 a2).f1).length c10019_1, .int .i64 ((rd_T25 l0 a2).f2)]] rfl (by (try simp only [List.map_toArray, List.map_cons, List.map_nil]); first | done | rfl | (simp only [List.length_drop, List.length_take]; rfl)) ?_; (with_reducible refine (sheet_Good.calls kj26 ((rd_T25 l0 a2).f0) _ _ ((rd_T25 l0 a2).f1) ((rd_T25 l0 a2).f2) t10020 t10021 _ ?side1 ?side2 A35.out).mono ?_); (case side1 => repeat (first | exact (Kd.C_below HR10019_1.out HB.out) | (with_reducible refine Kd.C_alloc ?_ _) | (with_reducible refine Kd.C_drewN ?_ _) | (with_reducible refine Kd.C_drew ?_))); (case side2 => exact HC10019_1.out); rintro e w52 ⟨rfl, hb⟩; refine ⟨_, rfl, ?_⟩; have n0_ := Aside0.mk (Kd.R_below (by (with_reducible repeat (first | apply Kd.R_alloc | apply Kd.R_drewN | apply Kd.R_drew)); exact HO_10010001.out) hb); have n1_ := Aside0.mk (blk_below (g := gb10009) (o := .cells #[.int .i64 t10003, .slice Ao11 t10004.length co11, .int .i64 t10007] 25 (0, 0)) (by (with_reducible repeat (first | refine blk_drewN ?_ _ | refine blk_drew ?_ | refine blk_alloc ?_ _)); exact BK10009.out) hb); have n2_ := Aside0.mk (below_step (by repeat (first | (with_reducible first | exact HB.out | apply below_alloc | apply pw_below_drewN | apply below_drew1 | refine below_set ?_ GE10009.out) | exact HB.out)) hb); clear HO_10010001; clear BK10009; clear HB; have HO_10010001 := n0_; have BK10009 := n1_; have HB := n2_; clear n0_ n1_ n2_; (try clear hb); (try clear hb2); (try clear hk); (try clear hi)))
               go_ret
               exact ⟨by first | rfl | (simp [errW_none, errW_some] <;> rfl) | (simp [*, errW_none, errW_some] <;> rfl), by repeat (first | (with_reducible first | exact HB.out | apply below_alloc | apply pw_below_drewN | apply below_drew1 | refine below_set ?_ GE10009.out) | exact HB.out)⟩
             ·rw [if_neg c34] at H
              exact absurd H (by simp)
            ·rw [if_neg c33] at H
             exact absurd H (by simp)
  ·rw [if_neg c7] at H
   have c7b0 : (t10008 == 0) = false := beq_eq_false_iff_ne.mpr c7
   have c7b1 : (t10008 != 0) = true := bne_iff_ne.mpr c7
   by_cases c53 : t10003 = 0
   ·rw [if_pos c53] at H
    have c53b0 : (t10003 == 0) = true := beq_iff_eq.mpr c53
    have c53b1 : (t10003 != 0) = false := bne_eq_false_iff_eq.mpr c53
    clear c53
    by_cases c54 : (t10004.length : Int) = 0
    ·rw [if_pos c54] at H
     have c54b0 : ((t10004.length : Int) == 0) = true := beq_iff_eq.mpr c54
     have c54b1 : ((t10004.length : Int) != 0) = false := bne_eq_false_iff_eq.mpr c54
     clear c54
     replace H := Option.bind_eq_some_iff.mp H
     obtain ⟨t10010, A550, H⟩ := H
     replace H : (some t10010) = some r := H
     have A55 := Aside0.mk A550
     clear A550
     obtain rfl := Option.some.inj H
     go_enter Try.func9, Try.ntmps9
     go_wp2_with (first | ((with_reducible refine gate_callee (f := 20) rfl ?_); refine goesL_ (some 17) rfl rfl Try.func20 (by kernel_rfl) rfl #[.slice A0 l0.length c0] rfl (by (try simp only [List.map_toArray, List.map_cons, List.map_nil]); first | done | rfl | (simp only [List.length_drop, List.length_take]; rfl)) ?_; (with_reducible refine (papermilllaw52_few.calls k _ _ l0 true _ ?side1 ?side2 A4.out).mono ?_); (case side1 => repeat (first | exact HR0.out | (with_reducible refine Kd.C_alloc ?_ _) | (with_reducible refine Kd.C_drewN ?_ _) | (with_reducible refine Kd.C_drew ?_))); (case side2 => exact HC0.out); rintro e w' ⟨rfl, ⟨nd, rfl⟩⟩; refine ⟨_, rfl, ?_⟩) | ((with_reducible refine gate_callee (f := 21) rfl ?_); refine goesL_ (some 22) rfl rfl Try.func21 (by kernel_rfl) rfl #[.slice A0 l0.length c0] rfl (by (try simp only [List.map_toArray, List.map_cons, List.map_nil]); first | done | rfl | (simp only [List.length_drop, List.length_take]; rfl)) ?_; (with_reducible refine (sheet_Together.calls k _ _ l0 t10003 t10004 t10007 t10008 _ ?side1 ?side2 A6.out).mono ?_); (case side1 => repeat (first | exact HR0.out | (with_reducible refine Kd.C_alloc ?_ _) | (with_reducible refine Kd.C_drewN ?_ _) | (with_reducible refine Kd.C_drew ?_))); (case side2 => exact HC0.out); rintro e w56 ⟨v10005, rfl, ho0, hb⟩; refine ⟨_, rfl, ?_⟩; have n0_ := Aside0.mk (Kd.R_lower ho0 (below_size (by repeat (first | (with_reducible first | exact HB.out | apply below_alloc | apply pw_below_drewN | apply below_drew1) | exact HB.out)))); have n1_ := Aside0.mk (below_step (by repeat (first | (with_reducible first | exact HB.out | apply below_alloc | apply pw_below_drewN | apply below_drew1) | exact HB.out)) hb); clear HB; have HO10006 := n0_; have HB := n1_; clear n0_ n1_; (try clear hb); (try clear hb2); (try clear hk); (try clear hi); (try clear ho0)) | ((with_reducible refine gate_dst (N := 7) rfl ?_); (try (refine gate_guard (by rfl) ?_; dsimp only)); refine box_event ?hg (N := 7) ?hd (cs := #[.int .i64 0, .slice none 0 0, .int .i64 0]) (t := 25) ?hr ?_; (case hd => rfl); (case hg => rfl); (case hr => first | (go_simp; done) | (go_simp; rfl)); intro gb10009 hg w57 hbox hb; have n0_ := Aside0.mk (Kd.R_below (by (with_reducible repeat (first | apply Kd.R_alloc | apply Kd.R_drewN | apply Kd.R_drew)); exact HO10006.out) hb); have n1_ := Aside0.mk (below_step (by repeat (first | (with_reducible first | exact HB.out | apply below_alloc | apply pw_below_drewN | apply below_drew1) | exact HB.out)) hb); have n2_ := Aside0.mk (hbox); have n3_ := Aside0.mk ((by rw [hg]; exact (below_size (by repeat (first | (with_reducible first | exact HB.out | apply below_alloc | apply pw_below_drewN | apply below_drew1) | exact HB.out))) : w.heap.size ≤ gb10009)); have n4_ := Aside0.mk ((by rw [hg]; exact (below_size (by repeat (first | (with_reducible first | exact HB.out | apply below_alloc | apply pw_below_drewN | apply below_drew1) | exact HB.out))) : w.heap.size ≤ gb10009)); clear HO10006; clear HB; have HO10006 := n0_; have HB := n1_; have BK10009 := n2_; have GW10009 := n3_; have GE10009 := n4_; clear n0_ n1_ n2_ n3_ n4_; clear hb hbox hg; have hcz58_0 : w57.cell? ⟨gb10009, 0, none⟩ = some (.int .i64 0) := (blk_cell BK10009.out 0).trans rfl; have hcz58_1 : w57.cell? ⟨gb10009, 1, none⟩ = some (.slice none 0 0) := (blk_cell BK10009.out 1).trans rfl; have hcz58_2 : w57.cell? ⟨gb10009, 2, none⟩ = some (.int .i64 0) := (blk_cell BK10009.out 2).trans rfl; have hfz58_0 := blk_frozen BK10009.out 0; have hfz58_1 := blk_frozen BK10009.out 1; have hfz58_2 := blk_frozen BK10009.out 2; obtain ⟨Ao59, co59, eo59⟩ := Kd.R_slice HO10006.out; subst eo59) | (go_at_call 12; (with_reducible refine (papermilllaw52_awake.calls  t10010 _ A55.out).mono ?_); rintro e w60 ⟨rfl, hb⟩; have n0_ := Aside0.mk (Kd.R_below (by (with_reducible repeat (first | apply Kd.R_alloc | apply Kd.R_drewN | apply Kd.R_drew)); exact (Kd.R_mono (Kd.R_far (p := ⟨gb10009, 2, none⟩) (Kd.R_far (p := ⟨gb10009, 1, none⟩) (Kd.R_far (p := ⟨gb10009, 0, none⟩) (Kd.R_types HO10006.out BK10009.out (by decide)) (fun _ hk => hk.2) (.int .i64 t10003)) (fun _ hk => hk.2) (.slice Ao59 t10004.length co59)) (fun _ hk => hk.2) (.int .i64 t10007)) (fun _ h_ => h_.1))) hb); have n1_ := Aside0.mk (blk_below (g := gb10009) (o := .cells #[.int .i64 t10003, .slice Ao59 t10004.length co59, .int .i64 t10007] 25 (0, 0)) (by (with_reducible repeat (first | refine blk_drewN ?_ _ | refine blk_drew ?_ | refine blk_alloc ?_ _)); refine blk_put (cs := #[.int .i64 t10003, .slice Ao59 t10004.length co59, .int .i64 0]) ?_ 2 _ rfl; (with_reducible repeat (first | refine blk_drewN ?_ _ | refine blk_drew ?_ | refine blk_alloc ?_ _)); refine blk_put (cs := #[.int .i64 t10003, .slice none 0 0, .int .i64 0]) ?_ 1 _ rfl; (with_reducible repeat (first | refine blk_drewN ?_ _ | refine blk_drew ?_ | refine blk_alloc ?_ _)); refine blk_put (cs := #[.int .i64 0, .slice none 0 0, .int .i64 0]) ?_ 0 _ rfl; (with_reducible repeat (first | refine blk_drewN ?_ _ | refine blk_drew ?_ | refine blk_alloc ?_ _)); exact BK10009.out) hb); have n2_ := Aside0.mk (below_step (by repeat (first | (with_reducible first | exact HB.out | apply below_alloc | apply pw_below_drewN | apply below_drew1 | refine below_set ?_ GE10009.out) | exact HB.out)) hb); clear HO10006; clear BK10009; clear HB; have HO10006 := n0_; have BK10009 := n1_; have HB := n2_; clear n0_ n1_ n2_; (try clear hb); (try clear hb2); (try clear hk); (try clear hi)))
     go_ret
     exact ⟨by first | rfl | (simp [errW_none, errW_some] <;> rfl) | (simp [*, errW_none, errW_some] <;> rfl), by repeat (first | (with_reducible first | exact HB.out | apply below_alloc | apply pw_below_drewN | apply below_drew1 | refine below_set ?_ GE10009.out) | exact HB.out)⟩
    ·rw [if_neg c54] at H
     have c54b0 : ((t10004.length : Int) == 0) = false := beq_eq_false_iff_ne.mpr c54
     have c54b1 : ((t10004.length : Int) != 0) = true := bne_iff_ne.mpr c54
     have c54b2 : ¬ (t10004 = []) := fun h_ => c54 (by rw [h_]; rfl)
     obtain rfl := Option.some.inj H
     go_enter Try.func9, Try.ntmps9
     go_wp2_with (first | ((with_reducible refine gate_callee (f := 20) rfl ?_); refine goesL_ (some 17) rfl rfl Try.func20 (by kernel_rfl) rfl #[.slice A0 l0.length c0] rfl (by (try simp only [List.map_toArray, List.map_cons, List.map_nil]); first | done | rfl | (simp only [List.length_drop, List.length_take]; rfl)) ?_; (with_reducible refine (papermilllaw52_few.calls k _ _ l0 true _ ?side1 ?side2 A4.out).mono ?_); (case side1 => repeat (first | exact HR0.out | (with_reducible refine Kd.C_alloc ?_ _) | (with_reducible refine Kd.C_drewN ?_ _) | (with_reducible refine Kd.C_drew ?_))); (case side2 => exact HC0.out); rintro e w' ⟨rfl, ⟨nd, rfl⟩⟩; refine ⟨_, rfl, ?_⟩) | ((with_reducible refine gate_callee (f := 21) rfl ?_); refine goesL_ (some 22) rfl rfl Try.func21 (by kernel_rfl) rfl #[.slice A0 l0.length c0] rfl (by (try simp only [List.map_toArray, List.map_cons, List.map_nil]); first | done | rfl | (simp only [List.length_drop, List.length_take]; rfl)) ?_; (with_reducible refine (sheet_Together.calls k _ _ l0 t10003 t10004 t10007 t10008 _ ?side1 ?side2 A6.out).mono ?_); (case side1 => repeat (first | exact HR0.out | (with_reducible refine Kd.C_alloc ?_ _) | (with_reducible refine Kd.C_drewN ?_ _) | (with_reducible refine Kd.C_drew ?_))); (case side2 => exact HC0.out); rintro e w61 ⟨v10005, rfl, ho0, hb⟩; refine ⟨_, rfl, ?_⟩; have n0_ := Aside0.mk (Kd.R_lower ho0 (below_size (by repeat (first | (with_reducible first | exact HB.out | apply below_alloc | apply pw_below_drewN | apply below_drew1) | exact HB.out)))); have n1_ := Aside0.mk (below_step (by repeat (first | (with_reducible first | exact HB.out | apply below_alloc | apply pw_below_drewN | apply below_drew1) | exact HB.out)) hb); clear HB; have HO10006 := n0_; have HB := n1_; clear n0_ n1_; (try clear hb); (try clear hb2); (try clear hk); (try clear hi); (try clear ho0)) | ((with_reducible refine gate_dst (N := 7) rfl ?_); (try (refine gate_guard (by rfl) ?_; dsimp only)); refine box_event ?hg (N := 7) ?hd (cs := #[.int .i64 0, .slice none 0 0, .int .i64 0]) (t := 25) ?hr ?_; (case hd => rfl); (case hg => rfl); (case hr => first | (go_simp; done) | (go_simp; rfl)); intro gb10009 hg w62 hbox hb; have n0_ := Aside0.mk (Kd.R_below (by (with_reducible repeat (first | apply Kd.R_alloc | apply Kd.R_drewN | apply Kd.R_drew)); exact HO10006.out) hb); have n1_ := Aside0.mk (below_step (by repeat (first | (with_reducible first | exact HB.out | apply below_alloc | apply pw_below_drewN | apply below_drew1) | exact HB.out)) hb); have n2_ := Aside0.mk (hbox); have n3_ := Aside0.mk ((by rw [hg]; exact (below_size (by repeat (first | (with_reducible first | exact HB.out | apply below_alloc | apply pw_below_drewN | apply below_drew1) | exact HB.out))) : w.heap.size ≤ gb10009)); have n4_ := Aside0.mk ((by rw [hg]; exact (below_size (by repeat (first | (with_reducible first | exact HB.out | apply below_alloc | apply pw_below_drewN | apply below_drew1) | exact HB.out))) : w.heap.size ≤ gb10009)); clear HO10006; clear HB; have HO10006 := n0_; have HB := n1_; have BK10009 := n2_; have GW10009 := n3_; have GE10009 := n4_; clear n0_ n1_ n2_ n3_ n4_; clear hb hbox hg; have hcz63_0 : w62.cell? ⟨gb10009, 0, none⟩ = some (.int .i64 0) := (blk_cell BK10009.out 0).trans rfl; have hcz63_1 : w62.cell? ⟨gb10009, 1, none⟩ = some (.slice none 0 0) := (blk_cell BK10009.out 1).trans rfl; have hcz63_2 : w62.cell? ⟨gb10009, 2, none⟩ = some (.int .i64 0) := (blk_cell BK10009.out 2).trans rfl; have hfz63_0 := blk_frozen BK10009.out 0; have hfz63_1 := blk_frozen BK10009.out 1; have hfz63_2 := blk_frozen BK10009.out 2; obtain ⟨Ao64, co64, eo64⟩ := Kd.R_slice HO10006.out; subst eo64))
     go_ret
     exact ⟨by first | rfl | (simp [errW_none, errW_some] <;> rfl) | (simp [*, errW_none, errW_some] <;> rfl), by repeat (first | (with_reducible first | exact HB.out | apply below_alloc | apply pw_below_drewN | apply below_drew1 | refine below_set ?_ GE10009.out) | exact HB.out)⟩
   ·rw [if_neg c53] at H
    have c53b0 : (t10003 == 0) = false := beq_eq_false_iff_ne.mpr c53
    have c53b1 : (t10003 != 0) = true := bne_iff_ne.mpr c53
    obtain rfl := Option.some.inj H
    go_enter Try.func9, Try.ntmps9
    go_wp2_with (first | ((with_reducible refine gate_callee (f := 20) rfl ?_); refine goesL_ (some 17) rfl rfl Try.func20 (by kernel_rfl) rfl #[.slice A0 l0.length c0] rfl (by (try simp only [List.map_toArray, List.map_cons, List.map_nil]); first | done | rfl | (simp only [List.length_drop, List.length_take]; rfl)) ?_; (with_reducible refine (papermilllaw52_few.calls k _ _ l0 true _ ?side1 ?side2 A4.out).mono ?_); (case side1 => repeat (first | exact HR0.out | (with_reducible refine Kd.C_alloc ?_ _) | (with_reducible refine Kd.C_drewN ?_ _) | (with_reducible refine Kd.C_drew ?_))); (case side2 => exact HC0.out); rintro e w' ⟨rfl, ⟨nd, rfl⟩⟩; refine ⟨_, rfl, ?_⟩) | ((with_reducible refine gate_callee (f := 21) rfl ?_); refine goesL_ (some 22) rfl rfl Try.func21 (by kernel_rfl) rfl #[.slice A0 l0.length c0] rfl (by (try simp only [List.map_toArray, List.map_cons, List.map_nil]); first | done | rfl | (simp only [List.length_drop, List.length_take]; rfl)) ?_; (with_reducible refine (sheet_Together.calls k _ _ l0 t10003 t10004 t10007 t10008 _ ?side1 ?side2 A6.out).mono ?_); (case side1 => repeat (first | exact HR0.out | (with_reducible refine Kd.C_alloc ?_ _) | (with_reducible refine Kd.C_drewN ?_ _) | (with_reducible refine Kd.C_drew ?_))); (case side2 => exact HC0.out); rintro e w65 ⟨v10005, rfl, ho0, hb⟩; refine ⟨_, rfl, ?_⟩; have n0_ := Aside0.mk (Kd.R_lower ho0 (below_size (by repeat (first | (with_reducible first | exact HB.out | apply below_alloc | apply pw_below_drewN | apply below_drew1) | exact HB.out)))); have n1_ := Aside0.mk (below_step (by repeat (first | (with_reducible first | exact HB.out | apply below_alloc | apply pw_below_drewN | apply below_drew1) | exact HB.out)) hb); clear HB; have HO10006 := n0_; have HB := n1_; clear n0_ n1_; (try clear hb); (try clear hb2); (try clear hk); (try clear hi); (try clear ho0)) | ((with_reducible refine gate_dst (N := 7) rfl ?_); (try (refine gate_guard (by rfl) ?_; dsimp only)); refine box_event ?hg (N := 7) ?hd (cs := #[.int .i64 0, .slice none 0 0, .int .i64 0]) (t := 25) ?hr ?_; (case hd => rfl); (case hg => rfl); (case hr => first | (go_simp; done) | (go_simp; rfl)); intro gb10009 hg w66 hbox hb; have n0_ := Aside0.mk (Kd.R_below (by (with_reducible repeat (first | apply Kd.R_alloc | apply Kd.R_drewN | apply Kd.R_drew)); exact HO10006.out) hb); have n1_ := Aside0.mk (below_step (by repeat (first | (with_reducible first | exact HB.out | apply below_alloc | apply pw_below_drewN | apply below_drew1) | exact HB.out)) hb); have n2_ := Aside0.mk (hbox); have n3_ := Aside0.mk ((by rw [hg]; exact (below_size (by repeat (first | (with_reducible first | exact HB.out | apply below_alloc | apply pw_below_drewN | apply below_drew1) | exact HB.out))) : w.heap.size ≤ gb10009)); have n4_ := Aside0.mk ((by rw [hg]; exact (below_size (by repeat (first | (with_reducible first | exact HB.out | apply below_alloc | apply pw_below_drewN | apply below_drew1) | exact HB.out))) : w.heap.size ≤ gb10009)); clear HO10006; clear HB; have HO10006 := n0_; have HB := n1_; have BK10009 := n2_; have GW10009 := n3_; have GE10009 := n4_; clear n0_ n1_ n2_ n3_ n4_; clear hb hbox hg; have hcz67_0 : w66.cell? ⟨gb10009, 0, none⟩ = some (.int .i64 0) := (blk_cell BK10009.out 0).trans rfl; have hcz67_1 : w66.cell? ⟨gb10009, 1, none⟩ = some (.slice none 0 0) := (blk_cell BK10009.out 1).trans rfl; have hcz67_2 : w66.cell? ⟨gb10009, 2, none⟩ = some (.int .i64 0) := (blk_cell BK10009.out 2).trans rfl; have hfz67_0 := blk_frozen BK10009.out 0; have hfz67_1 := blk_frozen BK10009.out 1; have hfz67_2 := blk_frozen BK10009.out 2; obtain ⟨Ao68, co68, eo68⟩ := Kd.R_slice HO10006.out; subst eo68))
    go_ret
    exact ⟨by first | rfl | (simp [errW_none, errW_some] <;> rfl) | (simp [*, errW_none, errW_some] <;> rfl), by repeat (first | (with_reducible first | exact HB.out | apply below_alloc | apply pw_below_drewN | apply below_drew1 | refine below_set ?_ GE10009.out) | exact HB.out)⟩
 ·replace c5 := Bool.eq_false_iff.mpr c5
  subst c5
  have H1 : ((papermilllaw52_awake.f).bind fun t10002 => (some t10002)) = some r := by rw [if_neg (show ¬ (false = true) by decide)] at H; exact H
  clear H
  have H := H1
  clear H1
  replace H := Option.bind_eq_some_iff.mp H
  obtain ⟨t10002, A690, H⟩ := H
  replace H : (some t10002) = some r := H
  have A69 := Aside0.mk A690
  clear A690
  obtain rfl := Option.some.inj H
  go_enter Try.func9, Try.ntmps9
  go_wp2_with (first | ((with_reducible refine gate_callee (f := 20) rfl ?_); refine goesL_ (some 17) rfl rfl Try.func20 (by kernel_rfl) rfl #[.slice A0 l0.length c0] rfl (by (try simp only [List.map_toArray, List.map_cons, List.map_nil]); first | done | rfl | (simp only [List.length_drop, List.length_take]; rfl)) ?_; (with_reducible refine (papermilllaw52_few.calls k _ _ l0 false _ ?side1 ?side2 A4.out).mono ?_); (case side1 => repeat (first | exact HR0.out | (with_reducible refine Kd.C_alloc ?_ _) | (with_reducible refine Kd.C_drewN ?_ _) | (with_reducible refine Kd.C_drew ?_))); (case side2 => exact HC0.out); rintro e w' ⟨rfl, ⟨nd, rfl⟩⟩; refine ⟨_, rfl, ?_⟩) | ((with_reducible refine gate_callee (f := 12) rfl ?_); refine goesL_ (some 19) rfl rfl Try.func12 (by kernel_rfl) rfl #[] rfl (by (try simp only [List.map_toArray, List.map_cons, List.map_nil]); first | done | rfl | (simp only [List.length_drop, List.length_take]; rfl)) ?_; (with_reducible refine (papermilllaw52_awake.calls  t10002 _ A69.out).mono ?_); rintro e w70 ⟨rfl, hb⟩; refine ⟨_, rfl, ?_⟩; have n0_ := Aside0.mk (below_step (by repeat (first | (with_reducible first | exact HB.out | apply below_alloc | apply pw_below_drewN | apply below_drew1) | exact HB.out)) hb); clear HB; have HB := n0_; clear n0_; (try clear hb); (try clear hb2); (try clear hk); (try clear hi)))
  go_ret
  exact ⟨by first | rfl | (simp [errW_none, errW_some] <;> rfl) | (simp [*, errW_none, errW_some] <;> rfl), by repeat (first | (with_reducible first | exact HB.out | apply below_alloc | apply pw_below_drewN | apply below_drew1) | exact HB.out)⟩

end Go.Proofs.Ytnfcpcgbdoiiiaa.G

namespace Go.Proofs.Ytnfcpcgbdoiiiaa.G
open Go.RowKit Go.Proofs.YtnfcpcgbdoiiiaaW.PrintWords Go.Proofs.YtnfcpcgbdoiiiaaW.PrintLast Go.Proofs.YtnfcpcgbdoiiiaaW.PrintMore
set_option linter.unusedVariables false
set_option linter.unusedSimpArgs false
theorem sheetBoth_j2 (l : List S25) (C : Int) (G : List S50) (R : Int) (x : Int) (hl : l.length ≤ 16) (hf : ∀ s ∈ l, Fair s.f0 s.f1) (hG : Fair C G) (hh : ∀ x, hasOf G x = allOf l x) (c : Bool) (hc : c = decide (x < 0 ∨ x ≥ (l.length : Int))) : Ends (fun k => papermilllaw52_SheetBoth.j2 k l x c C G R) true := by
  refine Ends.succ ?_
  simp only [papermilllaw52_SheetBoth.j2, papermilllaw52_awake.f, Option.bind_some]
  by_cases h : x < 0 ∨ x ≥ (l.length : Int)
  · exact Ends.pos (by rw [hc]; simpa using h) (Ends.ret _)
  · refine Ends.neg (by rw [hc]; simpa using h) (Ends.bind ((good_ends C G R).congr (good_fair hG)) (Ends.pos (by omega) (Ends.pos (by omega) ?_)))
    obtain ⟨i, rfl⟩ : ∃ i : Nat, x = i := ⟨x.toNat, by omega⟩
    have hm : rd_T25 l (i : Int) ∈ l := by rw [rd25 l i (by omega)]; exact List.getElem_mem _
    have hF := hf _ hm
    refine Ends.bind ((good_ends _ _ _).congr (good_fair hF)) (Ends.pos rfl (Ends.pos rfl (Ends.pos ?_ (Ends.ret _))))
    obtain ⟨M, hM⟩ : ∃ M : Nat, (M : Int) = 17179869184 := ⟨17179869184, rfl⟩
    refine tot_mono M _ _ hG.2.2.2.1 hF.2.2.2.1 (fun s hs => ?_) (fun s hs => ?_) (fun y hy => ?_)
    · have h1 := hG.2.2.2.2 s hs
      have h2 := hG.2.1
      omega
    · have h1 := hF.2.2.2.2 s hs
      have h2 := hF.2.1
      omega
    · rw [hh] at hy
      exact List.all_eq_true.1 hy _ hm
theorem sheetBoth_l0 (l : List S25) (a x : Int) (C : Int) (G : List S50) (hl : l.length ≤ 16) (hf : ∀ s ∈ l, Fair s.f0 s.f1) (hG : Fair C G) (hh : ∀ x, hasOf G x = allOf l x) : ∀ (d i : Nat) (g : Bool) (m : Int), l.length - i = d → i ≤ l.length → C = leastOf (l.drop i) m → hasOf G a = (g && allOf (l.drop i) a) → Ends (fun k => papermilllaw52_SheetBoth.l0 k l a x g m (i : Int) C G 0) true := by
  intro d
  induction d with
  | zero =>
    intro i g m hd hi hC hA
    rw [List.drop_of_length_le (by omega)] at hC hA
    refine Ends.succ ?_
    simp only [papermilllaw52_SheetBoth.l0]
    have hA' : hasOf G a = g := by rw [hA]; exact Bool.and_true g
    refine Ends.neg (by omega) (Ends.pos hC (Ends.pos trivial (Ends.bind (rhas_ends G a (by have := hG.2.2.1; omega)) ?_)))
    have e : (hasOf G a != g) = false := by rw [hA']; simp
    rw [e]
    refine Ends.succ ?_
    simp only [papermilllaw52_SheetBoth.j1]
    refine Ends.neg (by decide) ?_
    by_cases h : x < 0
    · exact Ends.pos h (sheetBoth_j2 l C G 0 x hl hf hG hh _ (by simp [h]))
    · exact Ends.neg h (sheetBoth_j2 l C G 0 x hl hf hG hh _ (by simp [h]))
  | succ d ih =>
    intro i g m hd hi hC hA
    rw [drop25 l i (by omega)] at hC hA
    have hm : rd_T25 l (i : Int) ∈ l := by rw [rd25 l i (by omega)]; exact List.getElem_mem _
    have hF := hf _ hm
    refine Ends.succ ?_
    simp only [papermilllaw52_SheetBoth.l0, wrap_nat i (by omega)]
    refine Ends.pos (by omega) ?_
    cases g with
    | true =>
      refine Ends.pos rfl (Ends.pos (by omega) (Ends.bind (rhas_ends _ a (by have := hF.2.2.1; omega)) (ih (i + 1) _ _ (by omega) (by omega) hC ?_)))
      rw [hA, Bool.true_and]; rfl
    | false =>
      refine Ends.neg (by decide) (Ends.pos (by omega) (ih (i + 1) _ _ (by omega) (by omega) hC ?_))
      rw [hA]; rfl

/-- the law, over lists and numbers -/
theorem SheetBoth : ∀ (l0 : List (S25)) (a1 : Int) (a2 : Int), (l0.length ≤ maxLen ∧ ∀ x ∈ l0, wf_25 x) → (Lit.int .i64 a1).wf = true → (Lit.int .i64 a2).wf = true → ∃ k, papermilllaw52_SheetBoth.f k l0 a1 a2 = some true := by
  intro l a x _ _ _
  suffices h : Ends (fun j => papermilllaw52_SheetBoth.f j l a x) true from h.get
  unfold papermilllaw52_SheetBoth.f
  simp only [papermilllaw52_awake.f, Option.bind_some]
  refine Ends.bind (few_ends l) ?_
  cases fewB l with
  | false => exact Ends.neg (by decide) (Ends.ret _)
  | true =>
    refine Ends.pos rfl (Ends.bind (tog_ends l) ?_)
    obtain ⟨h1, h2⟩ := tog_ok l
    by_cases he : (togOf l).2.2.2 = 0
    · obtain ⟨g1, g2, g3, g4, g5, g6, g7⟩ := h1 he
      refine Ends.pos he ?_
      rw [g5]
      exact sheetBoth_l0 l a x _ _ g2 g3 g6 g7 _ 0 _ _ rfl (by omega) g4 (by rw [g7, decide_eq_true (by omega), Bool.true_and]; rfl)
    · obtain ⟨g1, g2⟩ := h2 he
      refine Ends.neg he (Ends.pos g1 (Ends.pos ?_ (Ends.ret _)))
      rw [g2]; rfl

end Go.Proofs.Ytnfcpcgbdoiiiaa.G

namespace Go.Proofs.Ytnfcpcgbdoiiiaa.sheetBoth
open Go.ChangeShapes Go.WideShapes Go.ChangeAt Go.RowKit Go.Proofs.YtnfcpcgbdoiiiaaW.PrintWords Go.Proofs.YtnfcpcgbdoiiiaaW.PrintLast Go.Proofs.Ytnfcpcgbdoiiiaa.G
open Go.ChangeMaps (open_string shut_string)
set_option linter.unusedVariables false
set_option linter.unusedSimpArgs false
theorem own : ownKnob Try.prog.godebug = none := by kernel_rfl
theorem laidOut : laidOutB Try.prog = true := by kernel_rfl
set_option maxRecDepth 100000 in
theorem lifted (os : Os) (started : os.Started) (H : Type) (enc : TypeId × Value → H) :
    ReturnsInHanded {} Try.checked os 9 .any (Rows.sheetBothSpec.pre6 enc Try.prog Try.f9 Rows.sheetBothRow.domain false) (Rows.sheetBothSpec.post enc Try.prog Try.f9 false true false false) := by
  refine returnsInHanded_of_change_sized (C := Try.checked) own started (by kernel_rfl) Try.func9
    (ChangeSpec.witness6 (enc := enc) (C := Try.checked) false ⟨#[], #[.slice none 0 0, .int .i64 0, .int .i64 0], []⟩ 8 (by kernel_rfl) (by kernel_rfl) (by kernel_rfl) (by kernel_rfl)) ?_
  intro W base args ds gs before hval0 hW hcnd hsz0 _
  have hval : ∀ (j : Nat) t v, Try.f9.params[j]? = some t → args[j]? = some v → Value.okWide Try.prog W .any base t v := hval0
  have hW' := hW
  obtain ⟨p, q, hA0, hV, rfl, hfz, hnd⟩ := hW
  have hA : DataW.TrodAll enc Try.prog W 0 (fun _ => true) true Try.f9.params.toList args.toList ds p := hA0
  rw [Try.params9] at hA hval
  obtain ⟨v0, vs0, d0, ds0, p0, q0, hargs, rfl, rfl, h0, r0⟩ := trodAll_cons hA
  obtain ⟨v1, vs1, d1, ds1, p1, q1, rfl, rfl, rfl, h1, r1⟩ := trodAll_cons r0
  obtain ⟨v2, vs2, d2, ds2, p2, q2, rfl, rfl, rfl, h2, r2⟩ := trodAll_cons r1
  obtain ⟨rfl, rfl, rfl⟩ := trodAll_nil r2
  obtain rfl : args = #[v0, v1, v2] := by cases args; simp_all
  obtain ⟨rfl, rfl⟩ := trodVars_none hV
  have k0 := h0
  have lt0 : ∀ x ∈ p0, x.block < W.heap.size := by obtain ⟨m, hm⟩ := k0; exact DataW.trod_lt m _ _ _ hm
  obtain ⟨a0, len0, cap0, rfl⟩ := okWide_slice Try.underlying35 (hval 0 35 v0 rfl rfl)
  obtain ⟨l0, ⟨A0, c0, hcs0, hlc0, hC0⟩, hw0⟩ : ∃ l, ((Kd.slice 25 k25)).K W l [.slice a0 len0 cap0] ∧ (l.length ≤ maxLen ∧ ∀ x ∈ l, wf_25 x) := by
    obtain ⟨fuel, hf⟩ := k0
    exact (Opens.slice Try.underlying35 (by kernel_rfl) opens_25) enc W fuel _ _ hf
  simp only [List.cons.injEq, and_true, Value.slice.injEq] at hcs0
  obtain ⟨rfl, rfl, rfl⟩ := hcs0
  have k1 := h1
  have lt1 : ∀ x ∈ p1, x.block < W.heap.size := by obtain ⟨m, hm⟩ := k1; exact DataW.trod_lt m _ _ _ hm
  obtain ⟨a1, rfl, rfl, rfl, hw1⟩ := open_int Try.underlying3 (hval 1 3 v1 rfl rfl) h1
  have k2 := h2
  have lt2 : ∀ x ∈ p2, x.block < W.heap.size := by obtain ⟨m, hm⟩ := k2; exact DataW.trod_lt m _ _ _ hm
  obtain ⟨a2, rfl, rfl, rfl, hw2⟩ := open_int Try.underlying3 (hval 2 3 v2 rfl rfl) h2
  clear hA0 hval0 hsz0
  obtain ⟨k, hk⟩ := SheetBoth l0 a1 a2 hw0 hw1 hw2
  refine (papermilllaw52_SheetBoth.calls k _ _ l0 a1 a2 true W hC0 hlc0 hk).mono fun e W' he => ?_
  obtain ⟨he, bel⟩ := he
  subst he
  exact ⟨_, rfl, _, _, _, [], _, [], hW', trodAll_mk1 (shut_bool Try.underlying4 _), (trodAll_cons_mk (Below.trod laidOut (by kernel_rfl) (of_decide_eq_true (by kernel_rfl)) k0 bel lt0) (trodAll_cons_mk (Below.trod laidOut (by kernel_rfl) (of_decide_eq_true (by kernel_rfl)) k1 bel lt1) (trodAll_cons_mk (Below.trod laidOut (by kernel_rfl) (of_decide_eq_true (by kernel_rfl)) k2 bel lt2) trodAll_mk0))), rfl, bel.frame _, fun h => by cases h⟩
theorem over : Rows.sheetBothRow.holds Try.pinned (OpenSpec.ofChange Rows.sheetBothSpec) :=
  OpenClaim.holds_of_wide 9 Try.f9 rfl rfl rfl rfl rfl rfl rfl ⟨rfl, rfl, rfl, rfl, rfl⟩ rfl rfl rfl rfl rfl (by kernel_rfl) Try.func9 (by kernel_rfl)
    (of_decide_eq_true (by kernel_rfl)) (by unfold Func.isWrapper; first | (rw [if_pos (by decide +kernel)]; kernel_rfl) | (rw [if_neg (by decide +kernel)]; exact ⟨rfl, rfl⟩))
    (fun os started H enc _ => lifted os started H enc)
theorem proved : Rows.SheetBothSaid := over
#print axioms proved
end Go.Proofs.Ytnfcpcgbdoiiiaa.sheetBoth
namespace Go.Proofs.Ytnfcpcgbdoiiiaa
/-- The row, under a short name, for the claim. -/
theorem sheetBoth_holds : Rows.SheetBothSaid := sheetBoth.proved
end Go.Proofs.Ytnfcpcgbdoiiiaa
