import Derived.Test.YtnfcpcgbdoiiiaaQ1
import Derived.Test.YtnfcpcgbdoiiiaaQ4
import Derived.Test.YtnfcpcgbdoiiiaaQ3
namespace Go.Proofs.Ytnfcpcgbdoiiiaa.G
open Go.RowKit Go.Proofs.YtnfcpcgbdoiiiaaW.PrintWords Go.Proofs.YtnfcpcgbdoiiiaaW.PrintLast Go.Proofs.YtnfcpcgbdoiiiaaW.PrintMore
attribute [local go_sem] max2_int min2_int max_two min_two max_three min_three max_four min_four   -- for this text's walks alone
set_option linter.unusedVariables false
set_option linter.unusedSimpArgs false

mutual
def papermillref04_combine.l0 : Nat → List (S50) → List (S50) → Int → List Int → List (S50) → Int → Option ((List (S50)))
 | 0, _, _, _, _, _, _ => none
 | k + 1, x0, x1, x2, x7, x8, x9 => if (wrap64 (x9 + 1)) < (x7.length : Int) then (if 0 ≤ x9 then (if x9 < (x7.length : Int) then ((papermillref04_Has.f k x0 (rd x7 x9)).bind fun t64005 => ((papermillref04_Has.f k x1 (rd x7 x9)).bind fun t64007 => (if x2 = 0 then (if t64005 = true then (if x2 = 1 then (if t64007 = true then (if x2 = 2 then (papermillref04_combine.j1 k x0 x1 x2 x7 x8 x9 t64007) else (papermillref04_combine.j1 k x0 x1 x2 x7 x8 x9 false)) else (papermillref04_combine.j1 k x0 x1 x2 x7 x8 x9 true)) else (if x2 = 2 then (papermillref04_combine.j1 k x0 x1 x2 x7 x8 x9 t64007) else (papermillref04_combine.j1 k x0 x1 x2 x7 x8 x9 false))) else (if t64007 = true then (if x2 = 1 then (papermillref04_combine.j1 k x0 x1 x2 x7 x8 x9 true) else (if x2 = 2 then (papermillref04_combine.j1 k x0 x1 x2 x7 x8 x9 true) else (papermillref04_combine.j1 k x0 x1 x2 x7 x8 x9 false))) else (papermillref04_combine.j1 k x0 x1 x2 x7 x8 x9 true))) else (if x2 = 1 then (if t64005 = true then (if t64007 = true then (if x2 = 2 then (papermillref04_combine.j1 k x0 x1 x2 x7 x8 x9 t64007) else (papermillref04_combine.j1 k x0 x1 x2 x7 x8 x9 false)) else (papermillref04_combine.j1 k x0 x1 x2 x7 x8 x9 true)) else (papermillref04_combine.j1 k x0 x1 x2 x7 x8 x9 true)) else (if x2 = 2 then (if t64005 = true then (papermillref04_combine.j1 k x0 x1 x2 x7 x8 x9 t64007) else (papermillref04_combine.j1 k x0 x1 x2 x7 x8 x9 true)) else (papermillref04_combine.j1 k x0 x1 x2 x7 x8 x9 false)))))) else (none)) else (none)) else (some x8)
def papermillref04_combine.j1 : Nat → List (S50) → List (S50) → Int → List Int → List (S50) → Int → Bool → Option ((List (S50)))
 | 0, _, _, _, _, _, _, _ => none
 | k + 1, x0, x1, x2, x7, x8, x9, x66 => if x66 = true then (papermillref04_combine.l0 k x0 x1 x2 x7 x8 (wrap64 (x9 + 1))) else (if (wrap64 ((x8.length : Int) - 1)) ≥ 0 then (if 0 ≤ (wrap64 ((x8.length : Int) - 1)) then (if (wrap64 ((x8.length : Int) - 1)) < (x8.length : Int) then (if 0 ≤ x9 then (if x9 < (x7.length : Int) then (if ((rd_T50 x8 (wrap64 ((x8.length : Int) - 1))).f1) = (rd x7 x9) then (if 0 ≤ (wrap64 (x9 + 1)) then (if (wrap64 (x9 + 1)) < (x7.length : Int) then (papermillref04_combine.l0 k x0 x1 x2 x7 (x8.set ((wrap64 ((x8.length : Int) - 1)) : Int).toNat (⟨(rd_T50 x8 (wrap64 ((x8.length : Int) - 1))).f0, rd x7 (wrap64 (x9 + 1))⟩ : S50)) (wrap64 (x9 + 1))) else (none)) else (none)) else (if 0 ≤ (wrap64 (x9 + 1)) then (if (wrap64 (x9 + 1)) < (x7.length : Int) then (if x8.length < 8796093022208 then (papermillref04_combine.l0 k x0 x1 x2 x7 (x8 ++ [(⟨rd x7 x9, rd x7 (wrap64 (x9 + 1))⟩ : S50)]) (wrap64 (x9 + 1))) else (none)) else (none)) else (none))) else (none)) else (none)) else (none)) else (none)) else (if 0 ≤ x9 then (if x9 < (x7.length : Int) then (if 0 ≤ (wrap64 (x9 + 1)) then (if (wrap64 (x9 + 1)) < (x7.length : Int) then (if x8.length < 8796093022208 then (papermillref04_combine.l0 k x0 x1 x2 x7 (x8 ++ [(⟨rd x7 x9, rd x7 (wrap64 (x9 + 1))⟩ : S50)]) (wrap64 (x9 + 1))) else (none)) else (none)) else (none)) else (none)) else (none)))
end
def papermillref04_combine.f (k : Nat) (l0 : List (S50)) (l1 : List (S50)) (a2 : Int) : Option ((List (S50))) := (papermillref04_ends.f k l0 l1).bind fun t64001 => (papermillref04_combine.l0 k l0 l1 a2 t64001 ([] : List (S50)) 0)
theorem papermillref04_combine.mono_l : ∀ k, (∀ y0 y1 y2 y3 y4 y5, LeO (papermillref04_combine.l0 k y0 y1 y2 y3 y4 y5) (papermillref04_combine.l0 (k + 1) y0 y1 y2 y3 y4 y5)) ∧ (∀ y0 y1 y2 y3 y4 y5 y6, LeO (papermillref04_combine.j1 k y0 y1 y2 y3 y4 y5 y6) (papermillref04_combine.j1 (k + 1) y0 y1 y2 y3 y4 y5 y6))
 | 0 => ⟨fun _ _ _ _ _ _ r h => by simp [papermillref04_combine.l0] at h, fun _ _ _ _ _ _ _ r h => by simp [papermillref04_combine.j1] at h⟩
 | k + 1 => by
  obtain ⟨ih0, ih1⟩ := papermillref04_combine.mono_l k
  refine ⟨?_, ?_⟩
  ·intro y0 y1 y2 y3 y4 y5
   unfold papermillref04_combine.l0
   repeat' first
   | (with_reducible exact ih0 _ _ _ _ _ _)
   | (with_reducible exact ih1 _ _ _ _ _ _ _)
   | (with_reducible exact papermillref04_Has.mono _ _ _)
   | (with_reducible exact papermillref04_ends.mono _ _ _)
   | (with_reducible exact LeO.refl _)
   | (with_reducible exact LeO.none _)
   | (with_reducible refine LeO.ite ?_ ?_)
   | (with_reducible refine LeO.bind ?_ (fun _ => ?_))
   | exact ih0 _ _ _ _ _ _
   | exact ih1 _ _ _ _ _ _ _
   | exact papermillref04_Has.mono _ _ _
   | exact papermillref04_ends.mono _ _ _
   | exact LeO.none _
   | refine LeO.ite ?_ ?_
   | refine LeO.bind ?_ (fun _ => ?_)
  ·intro y0 y1 y2 y3 y4 y5 y6
   unfold papermillref04_combine.j1
   repeat' first
   | (with_reducible exact ih0 _ _ _ _ _ _)
   | (with_reducible exact ih1 _ _ _ _ _ _ _)
   | (with_reducible exact papermillref04_Has.mono _ _ _)
   | (with_reducible exact papermillref04_ends.mono _ _ _)
   | (with_reducible exact LeO.refl _)
   | (with_reducible exact LeO.none _)
   | (with_reducible refine LeO.ite ?_ ?_)
   | (with_reducible refine LeO.bind ?_ (fun _ => ?_))
   | exact ih0 _ _ _ _ _ _
   | exact ih1 _ _ _ _ _ _ _
   | exact papermillref04_Has.mono _ _ _
   | exact papermillref04_ends.mono _ _ _
   | exact LeO.none _
   | refine LeO.ite ?_ ?_
   | refine LeO.bind ?_ (fun _ => ?_)
theorem papermillref04_combine.mono : ∀ a0 a1 a2 k, LeO (papermillref04_combine.f k a0 a1 a2) (papermillref04_combine.f (k + 1) a0 a1 a2) := by
 intro a0 a1 a2 k
 obtain ⟨ih0, ih1⟩ := papermillref04_combine.mono_l k
 unfold papermillref04_combine.f
 repeat' first
   | (with_reducible exact ih0 _ _ _ _ _ _)
   | (with_reducible exact ih1 _ _ _ _ _ _ _)
   | (with_reducible exact papermillref04_Has.mono _ _ _)
   | (with_reducible exact papermillref04_ends.mono _ _ _)
   | (with_reducible exact LeO.refl _)
   | (with_reducible exact LeO.none _)
   | (with_reducible refine LeO.ite ?_ ?_)
   | (with_reducible refine LeO.bind ?_ (fun _ => ?_))
   | exact ih0 _ _ _ _ _ _
   | exact ih1 _ _ _ _ _ _ _
   | exact papermillref04_Has.mono _ _ _
   | exact papermillref04_ends.mono _ _ _
   | exact LeO.none _
   | refine LeO.ite ?_ ?_
   | refine LeO.bind ?_ (fun _ => ?_)
def papermillref04_combine.T6 : Bool × List (List Nat × List Nat) := (true, [([], []), ([], []), ([], []), ([1, 2], [1, 2]), ([3], [3]), ([0, 4], [0, 4]), ([], []), ([], []), ([], []), ([7, 8], [7, 8]), ([9], [9]), ([6, 10, 5], [6, 10]), ([5, 11, 0, 1, 2, 3, 4, 5], [5]), ([11, 12, 0, 1, 2, 3, 4, 5, 6, 7, 8, 9, 10, 11, 12], [11])])
def papermillref04_combine.B6 : List Nat := [0, 0, 0, 6, 14, 31, 0, 0, 0, 384, 896, 2047, 4095, 8191]
theorem papermillref04_combine.tab6 : rtab .any (opsOf Try.f63 6) = papermillref04_combine.T6 := by kernel_rfl
theorem papermillref04_combine.bits6 : waitsOk papermillref04_combine.T6.2 papermillref04_combine.B6 = true := by kernel_rfl
def papermillref04_combine.T9 : Bool × List (List Nat × List Nat) := (true, [([], []), ([0], [0]), ([1], [1]), ([2], [2]), ([2], [2]), ([3, 4, 2], [2, 3, 4]), ([5, 2], [2, 5]), ([6, 2], [2, 6]), ([2], [2]), ([2], [2]), ([8, 9, 2], [2, 8, 9]), ([10, 2], [2, 10]), ([7, 11, 2], [2, 7, 11]), ([2, 12], [2, 12])])
def papermillref04_combine.B9 : List Nat := [0, 1, 3, 7, 7, 31, 63, 127, 7, 7, 775, 1799, 4095, 8191]
theorem papermillref04_combine.tab9 : rtab .any (opsOf Try.f63 9) = papermillref04_combine.T9 := by kernel_rfl
theorem papermillref04_combine.bits9 : waitsOk papermillref04_combine.T9.2 papermillref04_combine.B9 = true := by kernel_rfl
def papermillref04_combine.T11 : Bool × List (List Nat × List Nat) := (true, [([], []), ([], []), ([], []), ([1, 2], [1, 2]), ([3], [3]), ([], []), ([], []), ([6], [6]), ([5, 7], [5, 7]), ([8], [8]), ([4, 9], [4, 9]), ([10], [10]), ([0, 11], [0, 11]), ([12, 12, 0, 1, 2, 3, 4, 5, 6, 7, 8, 9, 10, 11, 12], [0, 12])])
def papermillref04_combine.B11 : List Nat := [0, 0, 0, 6, 14, 0, 0, 64, 224, 480, 1022, 2046, 4095, 8191]
theorem papermillref04_combine.tab11 : rtab .any (opsOf Try.f63 11) = papermillref04_combine.T11 := by kernel_rfl
theorem papermillref04_combine.bits11 : waitsOk papermillref04_combine.T11.2 papermillref04_combine.B11 = true := by kernel_rfl
set_option maxHeartbeats 8000000 in
set_option maxRecDepth 100000 in
theorem papermillref04_combine.calls (k : Nat) (A0 : Option Addr) (c0 : Nat) (l0 : List (S50)) (A1 : Option Addr) (c1 : Nat) (l1 : List (S50)) (a2 : Int) (r : List (S50)) (w : World) (hr0 : Kd.C k50 w A0 l0.length l0) (hc0 : l0.length ≤ c0) (hr1 : Kd.C k50 w A1 l1.length l1) (hc1 : l1.length ≤ c1) (h : papermillref04_combine.f k l0 l1 a2 = some r) :
  Calls Try.prog 63 #[.slice A0 l0.length c0, .slice A1 l1.length c1, .int .i64 a2] w fun e w' => ∃ v0_ : Value, e = .returned (v0_) ∧ Kd.R k50 50 w' w.heap.size (fun _ => True) v0_ r ∧ Below w.heap.size w w' := by
 have hu50 := Try.underlying50
 have HR0 := Aside0.mk hr0
 have HC0 := Aside0.mk hc0
 clear hr0 hc0
 have HR1 := Aside0.mk hr1
 have HC1 := Aside0.mk hc1
 clear hr1 hc1
 have HB := Aside0.mk (Below.refl w.heap.size w)
 have H : ((papermillref04_ends.f k l0 l1).bind fun t64001 => (papermillref04_combine.l0 k l0 l1 a2 t64001 ([] : List (S50)) 0)) = some r := h
 clear h
 replace H := Option.bind_eq_some_iff.mp H
 obtain ⟨t64001, A40, H⟩ := H
 replace H : (papermillref04_combine.l0 k l0 l1 a2 t64001 ([] : List (S50)) 0) = some r := H
 have A4 := Aside0.mk A40
 clear A40
 have H' := Aside0.mk H
 clear H
 go_enter Try.func63, Try.ntmps63
 go_wp2_with (first | ((with_reducible refine gate_callee (f := 70) rfl ?_); refine goesL_ (some 15) rfl rfl Try.func70 (by kernel_rfl) rfl #[.slice A0 l0.length c0, .slice A1 l1.length c1] rfl (by (try simp only [List.map_toArray, List.map_cons, List.map_nil]); first | done | rfl | (simp only [List.length_drop, List.length_take]; rfl)) ?_; (with_reducible refine (papermillref04_ends.calls k _ _ l0 _ _ l1 t64001 _ ?side1 ?side2 ?side3 ?side4 A4.out).mono ?_); (case side1 => exact HR0.out); (case side2 => exact HC0.out); (case side3 => exact HR1.out); (case side4 => exact HC1.out); rintro e w5 ⟨v64002, rfl, ho0, hb⟩; refine ⟨_, rfl, ?_⟩; have n0_ := Aside0.mk (Kd.R_lower ho0 (below_size (by repeat (first | exact HB.out | apply below_alloc | apply pw_below_drewN | apply below_drew1)))); have n1_ := Aside0.mk (below_step (by repeat (first | exact HB.out | apply below_alloc | apply pw_below_drewN | apply below_drew1)) hb); clear HB; have HO64003 := n0_; have HB := n1_; clear n0_ n1_; (try clear hb); (try clear hb2); (try clear hk); (try clear hi); (try clear ho0)))
 go_loopg [8, 9] k (fun kq v8 v9 w' => ∃ (x8_1 : List (S50)) (x9_1 : Int), v9 = .int .i64 x9_1 ∧ Aside0 (papermillref04_combine.l0 kq l0 l1 a2 t64001 x8_1 x9_1 = some r) ∧ Aside0 (kq ≤ k) ∧ Aside0 (Kd.R (Kd.int .i64) 3 w' w.heap.size (fun _ => True) v64002 t64001) ∧ Aside0 (Kd.R k50 50 w' w.heap.size (fun _ => True) v8 x8_1) ∧ Aside0 (Below w.heap.size w w'))
 case atStart => exact ⟨(([] : List (S50))), (0), (by first | rfl | (simp; done) | (simp [*]; done)), H', ⟨Nat.le_refl _⟩, ⟨HO64003.out⟩, ⟨by first | exact Kd.R_nil _ _ _ _ _ | exact Kd.N_nil _ _ _ _ _ | exact Kd.V_nil _ _ _ _ _ | exact Kd.Q_nil _ _ _ _ _ | exact Kd.S_nil _ _ _ _ _⟩, ⟨by repeat (first | exact HB.out | apply below_alloc | apply pw_below_drewN | apply below_drew1)⟩⟩
 case round =>
  clear H'
  try clear c1
  try clear p2
  obtain ⟨x8_1, x9_1, rfl, HA, HK1, HO_7, HO_8, HB⟩ := hrel
  cases gk with
  | zero => exact absurd HA.out (by simp [papermillref04_combine.l0])
  | succ k1 =>
   have H := HA.out
   clear HA
   simp only [papermillref04_combine.l0] at H
   by_cases c6 : (wrap64 (x9_1 + 1)) < (t64001.length : Int)
   ·rw [if_pos c6] at H
    have c6b0 : decide ((wrap64 (x9_1 + 1)) < (t64001.length : Int)) = true := decide_eq_true c6
    clear c6
    by_cases c7 : 0 ≤ x9_1
    ·rw [if_pos c7] at H
     have c7b0 : decide (0 ≤ x9_1) = true := decide_eq_true c7
     clear c7
     by_cases c8 : x9_1 < (t64001.length : Int)
     ·rw [if_pos c8] at H
      have c8b0 : decide (x9_1 < (t64001.length : Int)) = true := decide_eq_true c8
      clear c8
      replace H := Option.bind_eq_some_iff.mp H
      obtain ⟨t64005, A90, H⟩ := H
      replace H : ((papermillref04_Has.f k1 l1 (rd t64001 x9_1)).bind fun t64007 => (if a2 = 0 then (if t64005 = true then (if a2 = 1 then (if t64007 = true then (if a2 = 2 then (papermillref04_combine.j1 k1 l0 l1 a2 t64001 x8_1 x9_1 t64007) else (papermillref04_combine.j1 k1 l0 l1 a2 t64001 x8_1 x9_1 false)) else (papermillref04_combine.j1 k1 l0 l1 a2 t64001 x8_1 x9_1 true)) else (if a2 = 2 then (papermillref04_combine.j1 k1 l0 l1 a2 t64001 x8_1 x9_1 t64007) else (papermillref04_combine.j1 k1 l0 l1 a2 t64001 x8_1 x9_1 false))) else (if t64007 = true then (if a2 = 1 then (papermillref04_combine.j1 k1 l0 l1 a2 t64001 x8_1 x9_1 true) else (if a2 = 2 then (papermillref04_combine.j1 k1 l0 l1 a2 t64001 x8_1 x9_1 true) else (papermillref04_combine.j1 k1 l0 l1 a2 t64001 x8_1 x9_1 false))) else (papermillref04_combine.j1 k1 l0 l1 a2 t64001 x8_1 x9_1 true))) else (if a2 = 1 then (if t64005 = true then (if t64007 = true then (if a2 = 2 then (papermillref04_combine.j1 k1 l0 l1 a2 t64001 x8_1 x9_1 t64007) else (papermillref04_combine.j1 k1 l0 l1 a2 t64001 x8_1 x9_1 false)) else (papermillref04_combine.j1 k1 l0 l1 a2 t64001 x8_1 x9_1 true)) else (papermillref04_combine.j1 k1 l0 l1 a2 t64001 x8_1 x9_1 true)) else (if a2 = 2 then (if t64005 = true then (papermillref04_combine.j1 k1 l0 l1 a2 t64001 x8_1 x9_1 t64007) else (papermillref04_combine.j1 k1 l0 l1 a2 t64001 x8_1 x9_1 true)) else (papermillref04_combine.j1 k1 l0 l1 a2 t64001 x8_1 x9_1 false))))) = some r := H
      have A9 := Aside0.mk A90
      clear A90
      replace H := Option.bind_eq_some_iff.mp H
      obtain ⟨t64007, A100, H⟩ := H
      replace H : (if a2 = 0 then (if t64005 = true then (if a2 = 1 then (if t64007 = true then (if a2 = 2 then (papermillref04_combine.j1 k1 l0 l1 a2 t64001 x8_1 x9_1 t64007) else (papermillref04_combine.j1 k1 l0 l1 a2 t64001 x8_1 x9_1 false)) else (papermillref04_combine.j1 k1 l0 l1 a2 t64001 x8_1 x9_1 true)) else (if a2 = 2 then (papermillref04_combine.j1 k1 l0 l1 a2 t64001 x8_1 x9_1 t64007) else (papermillref04_combine.j1 k1 l0 l1 a2 t64001 x8_1 x9_1 false))) else (if t64007 = true then (if a2 = 1 then (papermillref04_combine.j1 k1 l0 l1 a2 t64001 x8_1 x9_1 true) else (if a2 = 2 then (papermillref04_combine.j1 k1 l0 l1 a2 t64001 x8_1 x9_1 true) else (papermillref04_combine.j1 k1 l0 l1 a2 t64001 x8_1 x9_1 false))) else (papermillref04_combine.j1 k1 l0 l1 a2 t64001 x8_1 x9_1 true))) else (if a2 = 1 then (if t64005 = true then (if t64007 = true then (if a2 = 2 then (papermillref04_combine.j1 k1 l0 l1 a2 t64001 x8_1 x9_1 t64007) else (papermillref04_combine.j1 k1 l0 l1 a2 t64001 x8_1 x9_1 false)) else (papermillref04_combine.j1 k1 l0 l1 a2 t64001 x8_1 x9_1 true)) else (papermillref04_combine.j1 k1 l0 l1 a2 t64001 x8_1 x9_1 true)) else (if a2 = 2 then (if t64005 = true then (papermillref04_combine.j1 k1 l0 l1 a2 t64001 x8_1 x9_1 t64007) else (papermillref04_combine.j1 k1 l0 l1 a2 t64001 x8_1 x9_1 true)) else (papermillref04_combine.j1 k1 l0 l1 a2 t64001 x8_1 x9_1 false)))) = some r := H
      have A10 := Aside0.mk A100
      clear A100
      have HC11 := Aside0.mk H
      clear H
      obtain ⟨Ao12, co12, eo12⟩ := Kd.R_slice HO_7.out
      subst eo12
      try go_wp2
      have n0_ := Aside0.mk (Kd.R_drew HO_7.out)
      have n1_ := Aside0.mk (Kd.R_drew HO_8.out)
      have n2_ := Aside0.mk (below_drew1 HB.out)
      clear HO_7
      clear HO_8
      clear HB
      have HO_7 := n0_
      have HO_8 := n1_
      have HB := n2_
      clear n0_ n1_ n2_
      have p64004 : 0 ≤ (x9_1 : Int) := of_decide_eq_true (by assumption)
      have q64004 : x9_1 < (t64001.length : Int) := of_decide_eq_true (by assumption)
      obtain ⟨ad64004, e64004, hx64004_0⟩ := Kd.at_int (Kd.R_reads' HO_7.out).2.2 x9_1 p64004 q64004
      cases e64004
      replace p64004 := eq_true p64004
      replace q64004 := eq_true q64004
      have p64006 : 0 ≤ (x9_1 : Int) := of_decide_eq_true (by assumption)
      have q64006 : x9_1 < (t64001.length : Int) := of_decide_eq_true (by assumption)
      obtain ⟨ad64006, e64006, hx64006_0⟩ := Kd.at_int (Kd.R_reads' HO_7.out).2.2 x9_1 p64006 q64006
      obtain rfl : ad64004 = ad64006 := (by injection e64006)
      replace p64006 := eq_true p64006
      replace q64006 := eq_true q64006
      refine start_ (n := 14) (S := fun w' => w'.cell? (ad64004.add (x9_1).toNat) = some (.int .i64 (rd t64001 x9_1)) ∧ w'.cell? (ad64004.add (x9_1).toNat) = some (.int .i64 (rd t64001 x9_1))) (ds := []) #[false, false, false, false, false, false, false, false, false, false, false, false, false, false] (by kernel_rfl) rfl rfl ⟨hx64004_0, hx64006_0⟩ (fun hHeld => ?_); refine with_tabW papermillref04_combine.tab6 papermillref04_combine.bits6 (fun HT_ HW_ => ?_)
      generalize wr.drew = w13 at HO_7 HO_8 HB hx64004_0 hx64006_0 hHeld ⊢
      refine pure_ (i := 0) (N := some 23) (v := ?_) (a' := ?_) #[true, false, false, false, false, false, false, false, false, false, false, false, false, false] rfl rfl (any_of HT_.out (by kernel_rfl)) (fun _ _ _ h => h) (Or.inl ⟨by rfl, ?_⟩) ?_ ?_
      rotate_left
      ·intro w'
       go_simp
       with_reducible rfl
      rotate_left
      ·simp only [Act.put, List.setIfInBounds_toArray, List.set_cons_zero, List.set_cons_succ, i64_w, i32_w]
       rfl
      refine pure_ (i := 1) (N := some 24) (v := ?_) (a' := ?_) #[true, true, false, false, false, false, false, false, false, false, false, false, false, false] rfl rfl (any_of HT_.out (by kernel_rfl)) (fun _ _ _ h => h) (Or.inl ⟨by rfl, ?_⟩) ?_ ?_
      rotate_left
      ·intro w'
       go_simp
       with_reducible rfl
      rotate_left
      ·simp only [Act.put, List.setIfInBounds_toArray, List.set_cons_zero, List.set_cons_succ, i64_w, i32_w]
       rfl
      refine pure_ (i := 2) (N := some 25) (v := ?_) (a' := ?_) #[true, true, true, false, false, false, false, false, false, false, false, false, false, false] rfl rfl (any_of HT_.out (by kernel_rfl)) (fun _ _ _ h => h) (Or.inl ⟨by rfl, ?_⟩) ?_ ?_
      rotate_left
      ·intro w'
       go_simp
       with_reducible rfl
      rotate_left
      ·simp only [Act.put, List.setIfInBounds_toArray, List.set_cons_zero, List.set_cons_succ, i64_w, i32_w]
       rfl
      refine pure_ (i := 3) (N := some 26) (v := ?_) (a' := ?_) #[true, true, true, true, false, false, false, false, false, false, false, false, false, false] rfl rfl (any_of HT_.out (by kernel_rfl)) (fun _ _ _ h => h) (Or.inl ⟨by rfl, ?_⟩) ?_ ?_
      rotate_left
      ·intro w'
       go_simp
       with_reducible rfl
      rotate_left
      ·simp only [Act.put, List.setIfInBounds_toArray, List.set_cons_zero, List.set_cons_succ, i64_w, i32_w]
       rfl
      refine pure_ (i := 6) (N := some 29) (v := ?_) (a' := ?_) #[true, true, true, true, false, false, true, false, false, false, false, false, false, false] rfl rfl (any_of HT_.out (by kernel_rfl)) (fun _ _ _ h => h) (Or.inl ⟨by rfl, ?_⟩) ?_ ?_
      rotate_left
      ·intro w'
       go_simp
       with_reducible rfl
      rotate_left
      ·simp only [Act.put, List.setIfInBounds_toArray, List.set_cons_zero, List.set_cons_succ, i64_w, i32_w]
       rfl
      refine pure_ (i := 7) (N := some 30) (v := ?_) (a' := ?_) #[true, true, true, true, false, false, true, true, false, false, false, false, false, false] rfl rfl (any_of HT_.out (by kernel_rfl)) (fun _ _ _ h => h) (Or.inl ⟨by rfl, ?_⟩) ?_ ?_
      rotate_left
      ·intro w'
       go_simp
       with_reducible rfl
      rotate_left
      ·simp only [Act.put, List.setIfInBounds_toArray, List.set_cons_zero, List.set_cons_succ, i64_w, i32_w]
       rfl
      refine pure_ (i := 8) (N := some 31) (v := ?_) (a' := ?_) #[true, true, true, true, false, false, true, true, true, false, false, false, false, false] rfl rfl (any_of HT_.out (by kernel_rfl)) (fun _ _ _ h => h) (Or.inl ⟨by rfl, ?_⟩) ?_ ?_
      rotate_left
      ·intro w'
       go_simp
       with_reducible rfl
      rotate_left
      ·simp only [Act.put, List.setIfInBounds_toArray, List.set_cons_zero, List.set_cons_succ, i64_w, i32_w]
       rfl
      refine pure_ (i := 9) (N := some 32) (v := ?_) (a' := ?_) #[true, true, true, true, false, false, true, true, true, true, false, false, false, false] rfl rfl (any_of HT_.out (by kernel_rfl)) (fun _ _ _ h => h) (Or.inl ⟨by rfl, ?_⟩) ?_ ?_
      rotate_left
      ·intro w'
       go_simp
       with_reducible rfl
      rotate_left
      ·simp only [Act.put, List.setIfInBounds_toArray, List.set_cons_zero, List.set_cons_succ, i64_w, i32_w]
       rfl
      refine take_ (i := 4) (N := some 27) (v := ?_) (a' := ?_) #[true, true, true, true, true, false, true, true, true, true, false, false, false, false] rfl rfl (take_ofW HT_.out HW_.out (by kernel_rfl)) (fun _ _ _ h => h) (Or.inl ⟨by rfl, ?_⟩) hHeld ?_ ?_
      rotate_left
      ·rintro w' ⟨s0, s1⟩
       go_simp
       with_reducible rfl
      rotate_left
      ·simp only [Act.put, List.setIfInBounds_toArray, List.set_cons_zero, List.set_cons_succ, i64_w, i32_w]
       rfl
      refine take_ (i := 10) (N := some 33) (v := ?_) (a' := ?_) #[true, true, true, true, true, false, true, true, true, true, true, false, false, false] rfl rfl (take_ofW HT_.out HW_.out (by kernel_rfl)) (fun _ _ _ h => h) (Or.inl ⟨by rfl, ?_⟩) hHeld ?_ ?_
      rotate_left
      ·rintro w' ⟨s0, s1⟩
       go_simp
       with_reducible rfl
      rotate_left
      ·simp only [Act.put, List.setIfInBounds_toArray, List.set_cons_zero, List.set_cons_succ, i64_w, i32_w]
       rfl
      refine one_ (i := 5) (N := some 28) #[true, true, true, true, true, true, true, true, true, true, true, false, false, false] rfl rfl (one_of HT_.out (by kernel_rfl)) (by decide) (fun K hK => ?_)
      refine goes_ Try.func25 (by kernel_rfl) rfl #[.slice A0 l0.length c0, .int .i64 (rd t64001 x9_1)] (by rfl) rfl rfl (by (try simp only [List.map_toArray, List.map_cons, List.map_nil]); first | done | rfl | (simp only [List.length_drop, List.length_take]; rfl)) ?_
      with_reducible refine (papermillref04_Has.calls k1 _ _ l0 (rd t64001 x9_1) t64005 _ ?side1 ?side2 A9.out).mono ?_
      (case side1 => exact (Kd.C_below HR0.out HB.out))
      (case side2 => exact HC0.out)
      rintro e w' ⟨rfl, ⟨nd, rfl⟩⟩
      refine ⟨_, rfl, ?_⟩
      refine hK.out _ _ ⟨hHeld.1, hHeld.2⟩ (fun hHeld => ?_)
      clear hK K
      refine norm_ (a' := ?_) ?_ ?_
      rotate_left
      ·show Act.put _ (some 28) _ = _
       simp only [Act.put, List.setIfInBounds_toArray, List.set_cons_zero, List.set_cons_succ, i64_w, i32_w]
       rfl
      refine one_ (i := 11) (N := some 34) #[true, true, true, true, true, true, true, true, true, true, true, true, false, false] rfl rfl (one_of HT_.out (by kernel_rfl)) (by decide) (fun K hK => ?_)
      refine goes_ Try.func25 (by kernel_rfl) rfl #[.slice A1 l1.length c1, .int .i64 (rd t64001 x9_1)] (by rfl) rfl rfl (by (try simp only [List.map_toArray, List.map_cons, List.map_nil]); first | done | rfl | (simp only [List.length_drop, List.length_take]; rfl)) ?_
      with_reducible refine (papermillref04_Has.calls k1 _ _ l1 (rd t64001 x9_1) t64007 _ ?side1 ?side2 A10.out).mono ?_
      (case side1 => repeat (first | exact (Kd.C_below HR1.out (by repeat (first | exact HB.out | apply below_alloc | apply pw_below_drewN | apply below_drew1))) | (with_reducible refine Kd.C_alloc ?_ _) | (with_reducible refine Kd.C_drewN ?_ _) | (with_reducible refine Kd.C_drew ?_)))
      (case side2 => exact HC1.out)
      rintro e w' ⟨rfl, ⟨nd, rfl⟩⟩
      refine ⟨_, rfl, ?_⟩
      refine hK.out _ _ ⟨hHeld.1, hHeld.2⟩ (fun hHeld => ?_)
      clear hK K
      refine norm_ (a' := ?_) ?_ ?_
      rotate_left
      ·show Act.put _ (some 34) _ = _
       simp only [Act.put, List.setIfInBounds_toArray, List.set_cons_zero, List.set_cons_succ, i64_w, i32_w]
       rfl
      refine pure_ (i := 12) (N := some 10) (v := ?_) (a' := ?_) #[true, true, true, true, true, true, true, true, true, true, true, true, true, false] rfl rfl (any_of HT_.out (by kernel_rfl)) (fun _ _ _ h => h) (Or.inl ⟨by rfl, ?_⟩) ?_ ?_
      rotate_left
      ·intro w'
       go_simp
       with_reducible rfl
      rotate_left
      ·simp only [Act.put, List.setIfInBounds_toArray, List.set_cons_zero, List.set_cons_succ, i64_w, i32_w]
       rfl
      refine pure_ (i := 13) (N := some 11) (v := ?_) (a' := ?_) #[true, true, true, true, true, true, true, true, true, true, true, true, true, true] rfl rfl (any_of HT_.out (by kernel_rfl)) (fun _ _ _ h => h) (Or.inl ⟨by rfl, ?_⟩) ?_ ?_
      rotate_left
      ·intro w'
       go_simp
       with_reducible rfl
      rotate_left
      ·simp only [Act.put, List.setIfInBounds_toArray, List.set_cons_zero, List.set_cons_succ, i64_w, i32_w]
       rfl
      refine done_ (done_of HT_.out (by kernel_rfl)) ?_
      go_upto_region 7 with (fail)
      go_cut [66] (fun v66 wc => ∃ (kq : Nat) (x66_10 : Bool), v66 = .bool x66_10 ∧ Aside0 (papermillref04_combine.j1 kq l0 l1 a2 t64001 x8_1 x9_1 x66_10 = some r) ∧ Aside0 (kq ≤ k1) ∧ Aside0 (Kd.R (Kd.int .i64) 3 wc w.heap.size (fun _ => True) (.slice (some ad64004) t64001.length co12) t64001) ∧ Aside0 (Kd.R k50 50 wc w.heap.size (fun _ => True) u8 x8_1) ∧ Aside0 (Below w.heap.size w wc))
      case first =>
       have H := HC11.out
       clear HC11
       by_cases c14 : a2 = 0
       ·rw [if_pos c14] at H
        have c14b0 : (a2 == 0) = true := beq_iff_eq.mpr c14
        have c14b1 : (a2 != 0) = false := bne_eq_false_iff_eq.mpr c14
        clear c14
        (first | rw [c14b0] | (simp only [i64_w, i32_w]; rw [c14b0]) | skip)
        by_cases c15 : t64005 = true
        ·subst c15
         have H1 : (if a2 = 1 then (if t64007 = true then (if a2 = 2 then (papermillref04_combine.j1 k1 l0 l1 a2 t64001 x8_1 x9_1 t64007) else (papermillref04_combine.j1 k1 l0 l1 a2 t64001 x8_1 x9_1 false)) else (papermillref04_combine.j1 k1 l0 l1 a2 t64001 x8_1 x9_1 true)) else (if a2 = 2 then (papermillref04_combine.j1 k1 l0 l1 a2 t64001 x8_1 x9_1 t64007) else (papermillref04_combine.j1 k1 l0 l1 a2 t64001 x8_1 x9_1 false))) = some r := by rw [if_pos rfl] at H; exact H
         clear H
         have H := H1
         clear H1
         by_cases c16 : a2 = 1
         ·rw [if_pos c16] at H
          have c16b0 : (a2 == 1) = true := beq_iff_eq.mpr c16
          have c16b1 : (a2 != 1) = false := bne_eq_false_iff_eq.mpr c16
          clear c16
          by_cases c17 : t64007 = true
          ·subst c17
           have H1 : (if a2 = 2 then (papermillref04_combine.j1 k1 l0 l1 a2 t64001 x8_1 x9_1 true) else (papermillref04_combine.j1 k1 l0 l1 a2 t64001 x8_1 x9_1 false)) = some r := by rw [if_pos rfl] at H; exact H
           clear H
           have H := H1
           clear H1
           by_cases c18 : a2 = 2
           ·rw [if_pos c18] at H
            have c18b0 : (a2 == 2) = true := beq_iff_eq.mpr c18
            have c18b1 : (a2 != 2) = false := bne_eq_false_iff_eq.mpr c18
            clear c18
            have H' := Aside0.mk H
            clear H
            go_wp2
            go_meet
            case rel => exact ⟨_, (true), (by first | rfl | (simp; done) | (simp [*]; done)), H', ⟨by have := HK1.out; first | omega | exact Nat.le_refl _⟩, ⟨HO_7.out⟩, ⟨HO_8.out⟩, ⟨by repeat (first | exact HB.out | apply below_alloc | apply pw_below_drewN | apply below_drew1)⟩⟩
           ·rw [if_neg c18] at H
            have c18b0 : (a2 == 2) = false := beq_eq_false_iff_ne.mpr c18
            have c18b1 : (a2 != 2) = true := bne_iff_ne.mpr c18
            have H' := Aside0.mk H
            clear H
            go_wp2
            go_meet
            case rel => exact ⟨_, (false), (by first | rfl | (simp; done) | (simp [*]; done)), H', ⟨by have := HK1.out; first | omega | exact Nat.le_refl _⟩, ⟨HO_7.out⟩, ⟨HO_8.out⟩, ⟨by repeat (first | exact HB.out | apply below_alloc | apply pw_below_drewN | apply below_drew1)⟩⟩
          ·replace c17 := Bool.eq_false_iff.mpr c17
           subst c17
           have H1 : (papermillref04_combine.j1 k1 l0 l1 a2 t64001 x8_1 x9_1 true) = some r := by rw [if_neg (show ¬ (false = true) by decide)] at H; exact H
           clear H
           have H := H1
           clear H1
           have H' := Aside0.mk H
           clear H
           go_wp2
           go_meet
           case rel => exact ⟨_, (true), (by first | rfl | (simp; done) | (simp [*]; done)), H', ⟨by have := HK1.out; first | omega | exact Nat.le_refl _⟩, ⟨HO_7.out⟩, ⟨HO_8.out⟩, ⟨by repeat (first | exact HB.out | apply below_alloc | apply pw_below_drewN | apply below_drew1)⟩⟩
         ·rw [if_neg c16] at H
          have c16b0 : (a2 == 1) = false := beq_eq_false_iff_ne.mpr c16
          have c16b1 : (a2 != 1) = true := bne_iff_ne.mpr c16
          by_cases c19 : a2 = 2
          ·rw [if_pos c19] at H
           have c19b0 : (a2 == 2) = true := beq_iff_eq.mpr c19
           have c19b1 : (a2 != 2) = false := bne_eq_false_iff_eq.mpr c19
           clear c19
           have H' := Aside0.mk H
           clear H
           go_wp2
           go_meet
           case rel => exact ⟨_, (t64007), (by first | rfl | (simp; done) | (simp [*]; done)), H', ⟨by have := HK1.out; first | omega | exact Nat.le_refl _⟩, ⟨HO_7.out⟩, ⟨HO_8.out⟩, ⟨by repeat (first | exact HB.out | apply below_alloc | apply pw_below_drewN | apply below_drew1)⟩⟩
          ·rw [if_neg c19] at H
           have c19b0 : (a2 == 2) = false := beq_eq_false_iff_ne.mpr c19
           have c19b1 : (a2 != 2) = true := bne_iff_ne.mpr c19
           have H' := Aside0.mk H
           clear H
           go_wp2
           go_meet
           case rel => exact ⟨_, (false), (by first | rfl | (simp; done) | (simp [*]; done)), H', ⟨by have := HK1.out; first | omega | exact Nat.le_refl _⟩, ⟨HO_7.out⟩, ⟨HO_8.out⟩, ⟨by repeat (first | exact HB.out | apply below_alloc | apply pw_below_drewN | apply below_drew1)⟩⟩
        ·replace c15 := Bool.eq_false_iff.mpr c15
         subst c15
         have H1 : (if t64007 = true then (if a2 = 1 then (papermillref04_combine.j1 k1 l0 l1 a2 t64001 x8_1 x9_1 true) else (if a2 = 2 then (papermillref04_combine.j1 k1 l0 l1 a2 t64001 x8_1 x9_1 true) else (papermillref04_combine.j1 k1 l0 l1 a2 t64001 x8_1 x9_1 false))) else (papermillref04_combine.j1 k1 l0 l1 a2 t64001 x8_1 x9_1 true)) = some r := by rw [if_neg (show ¬ (false = true) by decide)] at H; exact H
         clear H
         have H := H1
         clear H1
         by_cases c20 : t64007 = true
         ·subst c20
          have H1 : (if a2 = 1 then (papermillref04_combine.j1 k1 l0 l1 a2 t64001 x8_1 x9_1 true) else (if a2 = 2 then (papermillref04_combine.j1 k1 l0 l1 a2 t64001 x8_1 x9_1 true) else (papermillref04_combine.j1 k1 l0 l1 a2 t64001 x8_1 x9_1 false))) = some r := by rw [if_pos rfl] at H; exact H
          clear H
          have H := H1
          clear H1
          by_cases c21 : a2 = 1
          ·rw [if_pos c21] at H
           have c21b0 : (a2 == 1) = true := beq_iff_eq.mpr c21
           have c21b1 : (a2 != 1) = false := bne_eq_false_iff_eq.mpr c21
           clear c21
           have H' := Aside0.mk H
           clear H
           go_wp2
           go_meet
           case rel => exact ⟨_, (true), (by first | rfl | (simp; done) | (simp [*]; done)), H', ⟨by have := HK1.out; first | omega | exact Nat.le_refl _⟩, ⟨HO_7.out⟩, ⟨HO_8.out⟩, ⟨by repeat (first | exact HB.out | apply below_alloc | apply pw_below_drewN | apply below_drew1)⟩⟩
          ·rw [if_neg c21] at H
           have c21b0 : (a2 == 1) = false := beq_eq_false_iff_ne.mpr c21
           have c21b1 : (a2 != 1) = true := bne_iff_ne.mpr c21
           by_cases c22 : a2 = 2
           ·rw [if_pos c22] at H
            have c22b0 : (a2 == 2) = true := beq_iff_eq.mpr c22
            have c22b1 : (a2 != 2) = false := bne_eq_false_iff_eq.mpr c22
            clear c22
            have H' := Aside0.mk H
            clear H
            go_wp2
            go_meet
            case rel => exact ⟨_, (true), (by first | rfl | (simp; done) | (simp [*]; done)), H', ⟨by have := HK1.out; first | omega | exact Nat.le_refl _⟩, ⟨HO_7.out⟩, ⟨HO_8.out⟩, ⟨by repeat (first | exact HB.out | apply below_alloc | apply pw_below_drewN | apply below_drew1)⟩⟩
           ·rw [if_neg c22] at H
            have c22b0 : (a2 == 2) = false := beq_eq_false_iff_ne.mpr c22
            have c22b1 : (a2 != 2) = true := bne_iff_ne.mpr c22
            have H' := Aside0.mk H
            clear H
            go_wp2
            go_meet
            case rel => exact ⟨_, (false), (by first | rfl | (simp; done) | (simp [*]; done)), H', ⟨by have := HK1.out; first | omega | exact Nat.le_refl _⟩, ⟨HO_7.out⟩, ⟨HO_8.out⟩, ⟨by repeat (first | exact HB.out | apply below_alloc | apply pw_below_drewN | apply below_drew1)⟩⟩
         ·replace c20 := Bool.eq_false_iff.mpr c20
          subst c20
          have H1 : (papermillref04_combine.j1 k1 l0 l1 a2 t64001 x8_1 x9_1 true) = some r := by rw [if_neg (show ¬ (false = true) by decide)] at H; exact H
          clear H
          have H := H1
          clear H1
          have H' := Aside0.mk H
          clear H
          go_wp2
          go_meet
          case rel => exact ⟨_, (true), (by first | rfl | (simp; done) | (simp [*]; done)), H', ⟨by have := HK1.out; first | omega | exact Nat.le_refl _⟩, ⟨HO_7.out⟩, ⟨HO_8.out⟩, ⟨by repeat (first | exact HB.out | apply below_alloc | apply pw_below_drewN | apply below_drew1)⟩⟩
       ·rw [if_neg c14] at H
        have c14b0 : (a2 == 0) = false := beq_eq_false_iff_ne.mpr c14
        have c14b1 : (a2 != 0) = true := bne_iff_ne.mpr c14
        (first | rw [c14b0] | (simp only [i64_w, i32_w]; rw [c14b0]) | skip)
        by_cases c23 : a2 = 1
        ·rw [if_pos c23] at H
         have c23b0 : (a2 == 1) = true := beq_iff_eq.mpr c23
         have c23b1 : (a2 != 1) = false := bne_eq_false_iff_eq.mpr c23
         clear c23
         by_cases c24 : t64005 = true
         ·subst c24
          have H1 : (if t64007 = true then (if a2 = 2 then (papermillref04_combine.j1 k1 l0 l1 a2 t64001 x8_1 x9_1 t64007) else (papermillref04_combine.j1 k1 l0 l1 a2 t64001 x8_1 x9_1 false)) else (papermillref04_combine.j1 k1 l0 l1 a2 t64001 x8_1 x9_1 true)) = some r := by rw [if_pos rfl] at H; exact H
          clear H
          have H := H1
          clear H1
          by_cases c25 : t64007 = true
          ·subst c25
           have H1 : (if a2 = 2 then (papermillref04_combine.j1 k1 l0 l1 a2 t64001 x8_1 x9_1 true) else (papermillref04_combine.j1 k1 l0 l1 a2 t64001 x8_1 x9_1 false)) = some r := by rw [if_pos rfl] at H; exact H
           clear H
           have H := H1
           clear H1
           by_cases c26 : a2 = 2
           ·rw [if_pos c26] at H
            have c26b0 : (a2 == 2) = true := beq_iff_eq.mpr c26
            have c26b1 : (a2 != 2) = false := bne_eq_false_iff_eq.mpr c26
            clear c26
            have H' := Aside0.mk H
            clear H
            go_wp2
            go_meet
            case rel => exact ⟨_, (true), (by first | rfl | (simp; done) | (simp [*]; done)), H', ⟨by have := HK1.out; first | omega | exact Nat.le_refl _⟩, ⟨HO_7.out⟩, ⟨HO_8.out⟩, ⟨by repeat (first | exact HB.out | apply below_alloc | apply pw_below_drewN | apply below_drew1)⟩⟩
           ·rw [if_neg c26] at H
            have c26b0 : (a2 == 2) = false := beq_eq_false_iff_ne.mpr c26
            have c26b1 : (a2 != 2) = true := bne_iff_ne.mpr c26
            have H' := Aside0.mk H
            clear H
            go_wp2
            go_meet
            case rel => exact ⟨_, (false), (by first | rfl | (simp; done) | (simp [*]; done)), H', ⟨by have := HK1.out; first | omega | exact Nat.le_refl _⟩, ⟨HO_7.out⟩, ⟨HO_8.out⟩, ⟨by repeat (first | exact HB.out | apply below_alloc | apply pw_below_drewN | apply below_drew1)⟩⟩
          ·replace c25 := Bool.eq_false_iff.mpr c25
           subst c25
           have H1 : (papermillref04_combine.j1 k1 l0 l1 a2 t64001 x8_1 x9_1 true) = some r := by rw [if_neg (show ¬ (false = true) by decide)] at H; exact H
           clear H
           have H := H1
           clear H1
           have H' := Aside0.mk H
           clear H
           go_wp2
           go_meet
           case rel => exact ⟨_, (true), (by first | rfl | (simp; done) | (simp [*]; done)), H', ⟨by have := HK1.out; first | omega | exact Nat.le_refl _⟩, ⟨HO_7.out⟩, ⟨HO_8.out⟩, ⟨by repeat (first | exact HB.out | apply below_alloc | apply pw_below_drewN | apply below_drew1)⟩⟩
         ·replace c24 := Bool.eq_false_iff.mpr c24
          subst c24
          have H1 : (papermillref04_combine.j1 k1 l0 l1 a2 t64001 x8_1 x9_1 true) = some r := by rw [if_neg (show ¬ (false = true) by decide)] at H; exact H
          clear H
          have H := H1
          clear H1
          have H' := Aside0.mk H
          clear H
          go_wp2
          go_meet
          case rel => exact ⟨_, (true), (by first | rfl | (simp; done) | (simp [*]; done)), H', ⟨by have := HK1.out; first | omega | exact Nat.le_refl _⟩, ⟨HO_7.out⟩, ⟨HO_8.out⟩, ⟨by repeat (first | exact HB.out | apply below_alloc | apply pw_below_drewN | apply below_drew1)⟩⟩
        ·rw [if_neg c23] at H
         have c23b0 : (a2 == 1) = false := beq_eq_false_iff_ne.mpr c23
         have c23b1 : (a2 != 1) = true := bne_iff_ne.mpr c23
         by_cases c27 : a2 = 2
         ·rw [if_pos c27] at H
          have c27b0 : (a2 == 2) = true := beq_iff_eq.mpr c27
          have c27b1 : (a2 != 2) = false := bne_eq_false_iff_eq.mpr c27
          clear c27
          by_cases c28 : t64005 = true
          ·subst c28
           have H1 : (papermillref04_combine.j1 k1 l0 l1 a2 t64001 x8_1 x9_1 t64007) = some r := by rw [if_pos rfl] at H; exact H
           clear H
           have H := H1
           clear H1
           have H' := Aside0.mk H
           clear H
           go_wp2
           go_meet
           case rel => exact ⟨_, (t64007), (by first | rfl | (simp; done) | (simp [*]; done)), H', ⟨by have := HK1.out; first | omega | exact Nat.le_refl _⟩, ⟨HO_7.out⟩, ⟨HO_8.out⟩, ⟨by repeat (first | exact HB.out | apply below_alloc | apply pw_below_drewN | apply below_drew1)⟩⟩
          ·replace c28 := Bool.eq_false_iff.mpr c28
           subst c28
           have H1 : (papermillref04_combine.j1 k1 l0 l1 a2 t64001 x8_1 x9_1 true) = some r := by rw [if_neg (show ¬ (false = true) by decide)] at H; exact H
           clear H
           have H := H1
           clear H1
           have H' := Aside0.mk H
           clear H
           go_wp2
           go_meet
           case rel => exact ⟨_, (true), (by first | rfl | (simp; done) | (simp [*]; done)), H', ⟨by have := HK1.out; first | omega | exact Nat.le_refl _⟩, ⟨HO_7.out⟩, ⟨HO_8.out⟩, ⟨by repeat (first | exact HB.out | apply below_alloc | apply pw_below_drewN | apply below_drew1)⟩⟩
         ·rw [if_neg c27] at H
          have c27b0 : (a2 == 2) = false := beq_eq_false_iff_ne.mpr c27
          have c27b1 : (a2 != 2) = true := bne_iff_ne.mpr c27
          have H' := Aside0.mk H
          clear H
          go_wp2
          go_meet
          case rel => exact ⟨_, (false), (by first | rfl | (simp; done) | (simp [*]; done)), H', ⟨by have := HK1.out; first | omega | exact Nat.le_refl _⟩, ⟨HO_7.out⟩, ⟨HO_8.out⟩, ⟨by repeat (first | exact HB.out | apply below_alloc | apply pw_below_drewN | apply below_drew1)⟩⟩
      case rest =>
       clear HC11
       try clear c1
       try clear c2
       try clear p2
       try clear c6
       try clear c6b0
       try clear p6
       try clear q6
       try clear hx6
       try clear c7
       try clear c7b0
       try clear c8
       try clear c8b0
       try clear c14
       try clear c14b0
       try clear c14b1
       try clear c15
       try clear c16
       try clear c16b0
       try clear c16b1
       try clear c17
       try clear c18
       try clear c18b0
       try clear c18b1
       try clear c19
       try clear c19b0
       try clear c19b1
       try clear c20
       try clear c21
       try clear c21b0
       try clear c21b1
       try clear c22
       try clear c22b0
       try clear c22b1
       try clear c23
       try clear c23b0
       try clear c23b1
       try clear c24
       try clear c25
       try clear c26
       try clear c26b0
       try clear c26b1
       try clear c27
       try clear c27b0
       try clear c27b1
       try clear c28
       try clear hx64004_0
       try clear hx64006_0
       try clear p2
       try clear p64004
       try clear p64006
       try clear q64004
       try clear q64006
       obtain ⟨kq, x66_10, rfl, HA, HJ10, HO_7, HO_8, HB⟩ := hcut
       cases kq with
       | zero => exact absurd HA.out (by simp [papermillref04_combine.j1])
       | succ kj10 =>
        have H := HA.out
        clear HA
        simp only [papermillref04_combine.j1] at H
        by_cases c29 : x66_10 = true
        ·subst c29
         have H1 : (papermillref04_combine.l0 kj10 l0 l1 a2 t64001 x8_1 (wrap64 (x9_1 + 1))) = some r := by rw [if_pos rfl] at H; exact H
         clear H
         have H := H1
         clear H1
         have H' := Aside0.mk H
         clear H
         go_wp2
         go_roundg kj10
         case measure => have := HK1.out; have := HJ10.out; omega
         case rel => exact ⟨(x8_1), (wrap64 (x9_1 + 1)), (by first | rfl | (simp; done) | (simp [*]; done)), H', ⟨by have := HK1.out; have := HJ10.out; omega⟩, ⟨HO_7.out⟩, ⟨HO_8.out⟩, ⟨by repeat (first | exact HB.out | apply below_alloc | apply pw_below_drewN | apply below_drew1)⟩⟩
        ·replace c29 := Bool.eq_false_iff.mpr c29
         subst c29
         have H1 : (if (wrap64 ((x8_1.length : Int) - 1)) ≥ 0 then (if 0 ≤ (wrap64 ((x8_1.length : Int) - 1)) then (if (wrap64 ((x8_1.length : Int) - 1)) < (x8_1.length : Int) then (if 0 ≤ x9_1 then (if x9_1 < (t64001.length : Int) then (if ((rd_T50 x8_1 (wrap64 ((x8_1.length : Int) - 1))).f1) = (rd t64001 x9_1) then (if 0 ≤ (wrap64 (x9_1 + 1)) then (if (wrap64 (x9_1 + 1)) < (t64001.length : Int) then (papermillref04_combine.l0 kj10 l0 l1 a2 t64001 (x8_1.set ((wrap64 ((x8_1.length : Int) - 1)) : Int).toNat (⟨(rd_T50 x8_1 (wrap64 ((x8_1.length : Int) - 1))).f0, rd t64001 (wrap64 (x9_1 + 1))⟩ : S50)) (wrap64 (x9_1 + 1))) else (none)) else (none)) else (if 0 ≤ (wrap64 (x9_1 + 1)) then (if (wrap64 (x9_1 + 1)) < (t64001.length : Int) then (if x8_1.length < 8796093022208 then (papermillref04_combine.l0 kj10 l0 l1 a2 t64001 (x8_1 ++ [(⟨rd t64001 x9_1, rd t64001 (wrap64 (x9_1 + 1))⟩ : S50)]) (wrap64 (x9_1 + 1))) else (none)) else (none)) else (none))) else (none)) else (none)) else (none)) else (none)) else (if 0 ≤ x9_1 then (if x9_1 < (t64001.length : Int) then (if 0 ≤ (wrap64 (x9_1 + 1)) then (if (wrap64 (x9_1 + 1)) < (t64001.length : Int) then (if x8_1.length < 8796093022208 then (papermillref04_combine.l0 kj10 l0 l1 a2 t64001 (x8_1 ++ [(⟨rd t64001 x9_1, rd t64001 (wrap64 (x9_1 + 1))⟩ : S50)]) (wrap64 (x9_1 + 1))) else (none)) else (none)) else (none)) else (none)) else (none))) = some r := by rw [if_neg (show ¬ (false = true) by decide)] at H; exact H
         clear H
         have H := H1
         clear H1
         by_cases c30 : (wrap64 ((x8_1.length : Int) - 1)) ≥ 0
         ·rw [if_pos c30] at H
          have c30b0 : decide (0 ≤ (wrap64 ((x8_1.length : Int) - 1))) = true := decide_eq_true c30
          clear c30
          obtain ⟨ji31, hji31⟩ : ∃ j_ : Int, (wrap64 ((x8_1.length : Int) - 1)) = j_ := ⟨_, rfl⟩
          replace H : (if 0 ≤ (ji31) then (if (ji31) < (x8_1.length : Int) then (if 0 ≤ x9_1 then (if x9_1 < (t64001.length : Int) then (if ((rd_T50 x8_1 (ji31)).f1) = (rd t64001 x9_1) then (if 0 ≤ (wrap64 (x9_1 + 1)) then (if (wrap64 (x9_1 + 1)) < (t64001.length : Int) then (papermillref04_combine.l0 kj10 l0 l1 a2 t64001 (x8_1.set ((ji31) : Int).toNat (⟨(rd_T50 x8_1 (ji31)).f0, rd t64001 (wrap64 (x9_1 + 1))⟩ : S50)) (wrap64 (x9_1 + 1))) else (none)) else (none)) else (if 0 ≤ (wrap64 (x9_1 + 1)) then (if (wrap64 (x9_1 + 1)) < (t64001.length : Int) then (if x8_1.length < 8796093022208 then (papermillref04_combine.l0 kj10 l0 l1 a2 t64001 (x8_1 ++ [(⟨rd t64001 x9_1, rd t64001 (wrap64 (x9_1 + 1))⟩ : S50)]) (wrap64 (x9_1 + 1))) else (none)) else (none)) else (none))) else (none)) else (none)) else (none)) else (none)) = some r := by first | (rw [hji31] at H; exact H) | (simp only [hji31] at H ⊢; exact H)
          (try rw [hji31] at c30b0)
          have hji31w : (IntKind.i64.wrap ((x8_1.length : Int) - 1)) = ji31 := (i64_w _).trans hji31
          by_cases c32 : 0 ≤ (ji31)
          ·rw [if_pos c32] at H
           have c32b0 : decide (0 ≤ (ji31)) = true := decide_eq_true c32
           clear c32
           by_cases c33 : (ji31) < (x8_1.length : Int)
           ·rw [if_pos c33] at H
            have c33b0 : decide ((ji31) < (x8_1.length : Int)) = true := decide_eq_true c33
            clear c33
            by_cases c34 : 0 ≤ x9_1
            ·rw [if_pos c34] at H
             have c34b0 : decide (0 ≤ x9_1) = true := decide_eq_true c34
             clear c34
             by_cases c35 : x9_1 < (t64001.length : Int)
             ·rw [if_pos c35] at H
              have c35b0 : decide (x9_1 < (t64001.length : Int)) = true := decide_eq_true c35
              clear c35
              by_cases c36 : ((rd_T50 x8_1 (ji31)).f1) = (rd t64001 x9_1)
              ·rw [if_pos c36] at H
               have c36b0 : (((rd_T50 x8_1 (ji31)).f1) == (rd t64001 x9_1)) = true := beq_iff_eq.mpr c36
               have c36b1 : (((rd_T50 x8_1 (ji31)).f1) != (rd t64001 x9_1)) = false := bne_eq_false_iff_eq.mpr c36
               clear c36
               obtain ⟨ji37, hji37⟩ : ∃ j_ : Int, (wrap64 (x9_1 + 1)) = j_ := ⟨_, rfl⟩
               replace H : (if 0 ≤ (ji37) then (if (ji37) < (t64001.length : Int) then (papermillref04_combine.l0 kj10 l0 l1 a2 t64001 (x8_1.set ((ji31) : Int).toNat (⟨(rd_T50 x8_1 (ji31)).f0, rd t64001 (ji37)⟩ : S50)) ji37) else (none)) else (none)) = some r := by first | (rw [hji37] at H; exact H) | (simp only [hji37] at H ⊢; exact H)
               (try rw [hji37] at c6b0)
               have hji37w : (IntKind.i64.wrap (x9_1 + 1)) = ji37 := (i64_w _).trans hji37
               by_cases c38 : 0 ≤ (ji37)
               ·rw [if_pos c38] at H
                have c38b0 : decide (0 ≤ (ji37)) = true := decide_eq_true c38
                clear c38
                by_cases c39 : (ji37) < (t64001.length : Int)
                ·rw [if_pos c39] at H
                 have c39b0 : decide ((ji37) < (t64001.length : Int)) = true := decide_eq_true c39
                 clear c39
                 obtain ⟨y64011, hy64011⟩ : ∃ y_ : List (S50), y_ = (x8_1.set ((ji31) : Int).toNat (⟨(rd_T50 x8_1 (ji31)).f0, rd t64001 (ji37)⟩ : S50)) := ⟨_, rfl⟩
                 replace H : (papermillref04_combine.l0 kj10 l0 l1 a2 t64001 y64011 ji37) = some r := by first | (rw [hy64011]; with_reducible exact H) | (have H2_ := (Option.bind_some _ _).symm.trans H; rw [hy64011]; with_reducible exact H2_) | (have H2_ := (Option.bind_some _ _).symm.trans H; with_reducible exact H2_) | with_reducible exact H | (rw [hy64011]; exact H) | exact H
                 have Ny64011 := Aside0.mk hy64011
                 clear hy64011
                 have H' := Aside0.mk H
                 clear H
                 obtain ⟨Ao41, co41, eo41⟩ := Kd.R_slice HO_8.out
                 subst eo41
                 try go_wp2
                 have n0_ := Aside0.mk (Kd.R_drew HO_7.out)
                 have n1_ := Aside0.mk (Kd.R_drew HO_8.out)
                 have n2_ := Aside0.mk (below_drew1 HB.out)
                 clear HO_7
                 clear HO_8
                 clear HB
                 have HO_7 := n0_
                 have HO_8 := n1_
                 have HB := n2_
                 clear n0_ n1_ n2_
                 have p64008 : 0 ≤ ((ji31) : Int) := of_decide_eq_true (by assumption)
                 have q64008 : (ji31) < (x8_1.length : Int) := of_decide_eq_true (by assumption)
                 obtain ⟨ad64008, e64008, hx64008_0, hx64008_1⟩ := at_T50 (Kd.R_reads' HO_8.out).2.2 (ji31) p64008 q64008
                 cases e64008
                 replace p64008 := eq_true p64008
                 replace q64008 := eq_true q64008
                 have p64009 : 0 ≤ (x9_1 : Int) := of_decide_eq_true (by assumption)
                 have q64009 : x9_1 < (t64001.length : Int) := of_decide_eq_true (by assumption)
                 obtain ⟨ad64009, e64009, hx64009_0⟩ := Kd.at_int (Kd.R_reads' HO_7.out).2.2 x9_1 p64009 q64009
                 obtain rfl : ad64004 = ad64009 := (by injection e64009)
                 replace p64009 := eq_true p64009
                 replace q64009 := eq_true q64009
                 refine start_ (n := 14) (S := fun w' => w'.cell? (ad64008.add (((ji31)).toNat * 2)) = some (.int .i64 ((rd_T50 x8_1 (ji31)).f0)) ∧ w'.cell? ⟨(ad64008.add (((ji31)).toNat * 2)).block, (ad64008.add (((ji31)).toNat * 2)).off + 1, none⟩ = some (.int .i64 ((rd_T50 x8_1 (ji31)).f1)) ∧ w'.cell? (ad64004.add (x9_1).toNat) = some (.int .i64 (rd t64001 x9_1))) (ds := []) #[false, false, false, false, false, false, false, false, false, false, false, false, false, false] (by kernel_rfl) rfl rfl ⟨hx64008_0, hx64008_1, hx64009_0⟩ (fun hHeld => ?_); refine with_tabW papermillref04_combine.tab9 papermillref04_combine.bits9 (fun HT_ HW_ => ?_)
                 generalize wc.drew = w42 at HO_7 HO_8 HB hx64008_0 hx64008_1 hx64009_0 hHeld ⊢
                 refine pure_ (i := 0) (N := some 70) (v := ?_) (a' := ?_) #[true, false, false, false, false, false, false, false, false, false, false, false, false, false] rfl rfl (any_of HT_.out (by kernel_rfl)) (fun _ _ _ h => h) (Or.inl ⟨by rfl, ?_⟩) ?_ ?_
                 rotate_left
                 ·intro w'
                  go_simp
                  with_reducible rfl
                 rotate_left
                 ·simp only [Act.put, List.setIfInBounds_toArray, List.set_cons_zero, List.set_cons_succ, i64_w, i32_w]
                  rfl
                 refine pure_ (i := 1) (N := some 71) (v := ?_) (a' := ?_) #[true, true, false, false, false, false, false, false, false, false, false, false, false, false] rfl rfl (any_of HT_.out (by kernel_rfl)) (fun _ _ _ h => h) (Or.inl ⟨by rfl, ?_⟩) ?_ ?_
                 rotate_left
                 ·intro w'
                  go_simp
                  with_reducible rfl
                 rotate_left
                 ·simp only [Act.put, List.setIfInBounds_toArray, List.set_cons_zero, List.set_cons_succ, i64_w, i32_w]
                  rfl
                 refine pure_ (i := 2) (N := some 72) (v := ?_) (a' := ?_) #[true, true, true, false, false, false, false, false, false, false, false, false, false, false] rfl rfl (any_of HT_.out (by kernel_rfl)) (fun _ _ _ h => h) (Or.inl ⟨by rfl, ?_⟩) ?_ ?_
                 rotate_left
                 ·intro w'
                  go_simp
                  with_reducible rfl
                 rotate_left
                 ·simp only [Act.put, List.setIfInBounds_toArray, List.set_cons_zero, List.set_cons_succ, i64_w, i32_w]
                  rfl
                 refine pure_ (i := 3) (N := some 73) (v := ?_) (a' := ?_) #[true, true, true, true, false, false, false, false, false, false, false, false, false, false] rfl rfl (any_of HT_.out (by kernel_rfl)) (fun _ _ _ h => h) (Or.inl ⟨by rfl, ?_⟩) ?_ ?_
                 rotate_left
                 ·intro w'
                  go_simp
                  with_reducible rfl
                 rotate_left
                 ·simp only [Act.put, List.setIfInBounds_toArray, List.set_cons_zero, List.set_cons_succ, i64_w, i32_w]
                  rfl
                 refine pure_ (i := 4) (N := some 74) (v := ?_) (a' := ?_) #[true, true, true, true, true, false, false, false, false, false, false, false, false, false] rfl rfl (any_of HT_.out (by kernel_rfl)) (fun _ _ _ h => h) (Or.inl ⟨by rfl, ?_⟩) ?_ ?_
                 rotate_left
                 ·intro w'
                  go_simp
                  with_reducible rfl
                 rotate_left
                 ·simp only [Act.put, List.setIfInBounds_toArray, List.set_cons_zero, List.set_cons_succ, i64_w, i32_w]
                  rfl
                 refine pure_ (i := 5) (N := some 75) (v := ?_) (a' := ?_) #[true, true, true, true, true, true, false, false, false, false, false, false, false, false] rfl rfl (any_of HT_.out (by kernel_rfl)) (fun _ _ _ h => h) (Or.inl ⟨by rfl, ?_⟩) ?_ ?_
                 rotate_left
                 ·intro w'
                  go_simp
                  with_reducible rfl
                 rotate_left
                 ·simp only [Act.put, List.setIfInBounds_toArray, List.set_cons_zero, List.set_cons_succ, i64_w, i32_w]
                  rfl
                 refine pure_ (i := 6) (N := some 76) (v := ?_) (a' := ?_) #[true, true, true, true, true, true, true, false, false, false, false, false, false, false] rfl rfl (any_of HT_.out (by kernel_rfl)) (fun _ _ _ h => h) (Or.inl ⟨by rfl, ?_⟩) ?_ ?_
                 rotate_left
                 ·intro w'
                  go_simp
                  with_reducible rfl
                 rotate_left
                 ·simp only [Act.put, List.setIfInBounds_toArray, List.set_cons_zero, List.set_cons_succ, i64_w, i32_w]
                  rfl
                 refine pure_ (i := 8) (N := some 78) (v := ?_) (a' := ?_) #[true, true, true, true, true, true, true, false, true, false, false, false, false, false] rfl rfl (any_of HT_.out (by kernel_rfl)) (fun _ _ _ h => h) (Or.inl ⟨by rfl, ?_⟩) ?_ ?_
                 rotate_left
                 ·intro w'
                  go_simp
                  with_reducible rfl
                 rotate_left
                 ·simp only [Act.put, List.setIfInBounds_toArray, List.set_cons_zero, List.set_cons_succ, i64_w, i32_w]
                  rfl
                 refine pure_ (i := 9) (N := some 79) (v := ?_) (a' := ?_) #[true, true, true, true, true, true, true, false, true, true, false, false, false, false] rfl rfl (any_of HT_.out (by kernel_rfl)) (fun _ _ _ h => h) (Or.inl ⟨by rfl, ?_⟩) ?_ ?_
                 rotate_left
                 ·intro w'
                  go_simp
                  with_reducible rfl
                 rotate_left
                 ·simp only [Act.put, List.setIfInBounds_toArray, List.set_cons_zero, List.set_cons_succ, i64_w, i32_w]
                  rfl
                 refine pure_ (i := 10) (N := some 80) (v := ?_) (a' := ?_) #[true, true, true, true, true, true, true, false, true, true, true, false, false, false] rfl rfl (any_of HT_.out (by kernel_rfl)) (fun _ _ _ h => h) (Or.inl ⟨by rfl, ?_⟩) ?_ ?_
                 rotate_left
                 ·intro w'
                  go_simp
                  with_reducible rfl
                 rotate_left
                 ·simp only [Act.put, List.setIfInBounds_toArray, List.set_cons_zero, List.set_cons_succ, i64_w, i32_w]
                  rfl
                 refine take_ (i := 7) (N := some 77) (v := ?_) (a' := ?_) #[true, true, true, true, true, true, true, true, true, true, true, false, false, false] rfl rfl (take_ofW HT_.out HW_.out (by kernel_rfl)) (fun _ _ _ h => h) (Or.inl ⟨by rfl, ?_⟩) hHeld ?_ ?_
                 rotate_left
                 ·rintro w' ⟨s0, s1, s2⟩
                  go_simp
                  with_reducible rfl
                 rotate_left
                 ·simp only [Act.put, List.setIfInBounds_toArray, List.set_cons_zero, List.set_cons_succ, i64_w, i32_w]
                  rfl
                 refine take_ (i := 11) (N := some 81) (v := ?_) (a' := ?_) #[true, true, true, true, true, true, true, true, true, true, true, true, false, false] rfl rfl (take_ofW HT_.out HW_.out (by kernel_rfl)) (fun _ _ _ h => h) (Or.inl ⟨by rfl, ?_⟩) hHeld ?_ ?_
                 rotate_left
                 ·rintro w' ⟨s0, s1, s2⟩
                  go_simp
                  with_reducible rfl
                 rotate_left
                 ·simp only [Act.put, List.setIfInBounds_toArray, List.set_cons_zero, List.set_cons_succ, i64_w, i32_w]
                  rfl
                 refine pure_ (i := 12) (N := some 82) (v := ?_) (a' := ?_) #[true, true, true, true, true, true, true, true, true, true, true, true, true, false] rfl rfl (any_of HT_.out (by kernel_rfl)) (fun _ _ _ h => h) (Or.inl ⟨by rfl, ?_⟩) ?_ ?_
                 rotate_left
                 ·intro w'
                  go_simp
                  with_reducible rfl
                 rotate_left
                 ·simp only [Act.put, List.setIfInBounds_toArray, List.set_cons_zero, List.set_cons_succ, i64_w, i32_w]
                  rfl
                 refine pure_ (i := 13) (N := some 83) (v := ?_) (a' := ?_) #[true, true, true, true, true, true, true, true, true, true, true, true, true, true] rfl rfl (any_of HT_.out (by kernel_rfl)) (fun _ _ _ h => h) (Or.inl ⟨by rfl, ?_⟩) ?_ ?_
                 rotate_left
                 ·intro w'
                  go_simp
                  with_reducible rfl
                 rotate_left
                 ·simp only [Act.put, List.setIfInBounds_toArray, List.set_cons_zero, List.set_cons_succ, i64_w, i32_w]
                  rfl
                 refine done_ (done_of HT_.out (by kernel_rfl)) ?_
                 have p64010 : 0 ≤ ((ji37) : Int) := of_decide_eq_true (by assumption)
                 have q64010 : (ji37) < (t64001.length : Int) := of_decide_eq_true (by assumption)
                 obtain ⟨ad64010, e64010, hx64010_0⟩ := Kd.at_int (Kd.R_reads' HO_7.out).2.2 (ji37) p64010 q64010
                 obtain rfl : ad64004 = ad64010 := (by injection e64010)
                 replace p64010 := eq_true p64010
                 replace q64010 := eq_true q64010
                 have p40 : 0 ≤ ((ji31) : Int) := of_decide_eq_true (by assumption)
                 have q40 : ((ji31) : Int) < ((x8_1.length : Int) : Int) := of_decide_eq_true (by assumption)
                 obtain ⟨go40, co40, eo40, gb40, gl40, cl40, HG40⟩ := Kd.R_form HO_8.out (by omega)
                 (first | cases eo40 | (injection eo40 with ea_ en_ ec_; (first | subst ea_ | (injection ea_ with ea_; subst ea_)); subst ec_; clear en_))
                 have GB40 := Aside0.mk gb40
                 have GG40 := Aside0.mk HG40
                 clear gb40 gl40 HG40
                 (first | simp only [add_plain] at hx64008_0 | skip)
                 (first | simp only [add_plain] at hx64008_1 | skip)
                 obtain ⟨ce40, hcl40, hM40, hcc40, hfr40⟩ := Kd.R_elem HO_8.out z50 ((ji31) : Int) p40 q40
                 obtain rfl := k50_openM hM40
                 have hx40_0 : w42.cell? ⟨go40, ((ji31) : Int).toNat * 2, none⟩ = some (.int .i64 ((rd_T50 x8_1 (ji31)).f0)) := hcc40 0 _ rfl
                 have hx40_1 : w42.cell? ⟨go40, ((ji31) : Int).toNat * 2 + 1, none⟩ = some (.int .i64 ((rd_T50 x8_1 (ji31)).f1)) := hcc40 1 _ rfl
                 have hf40_0 : w42.frozen? ⟨go40, ((ji31) : Int).toNat * 2, none⟩ = false := hfr40 0
                 have hf40_1 : w42.frozen? ⟨go40, ((ji31) : Int).toNat * 2 + 1, none⟩ = false := hfr40 1
                 clear hcl40 hcc40 hfr40 hM40
                 replace p40 := eq_true p40
                 replace q40 := eq_true q40
                 have HX43 := Aside0.mk (show Kd.R k50 50 w42 w.heap.size (fun _ => True) (.slice (some ⟨go40, 0, none⟩) x8_1.length co41) x8_1 from (HO_8.out))
                 obtain ⟨ce43, hcl43, hM43, hcc43, hfr43⟩ := Kd.R_elem HX43.out z50 ((ji31) : Int) (of_decide_eq_true (by assumption)) (by have h_ : ((ji31) : Int) < ((x8_1.length : Int) : Int) := of_decide_eq_true (by assumption); first | exact h_ | (have e_ := (Kd.R_reads' HO_8.out).1; omega) | simpa using h_)
                 obtain rfl := k50_openM hM43
                 have HP43 := Kd.R_seg HX43.out ((ji31) : Int) (of_decide_eq_true (by assumption)) (by have h_ : ((ji31) : Int) < ((x8_1.length : Int) : Int) := of_decide_eq_true (by assumption); first | exact h_ | (have e_ := (Kd.R_reads' HO_8.out).1; omega) | simpa using h_) (seg := [.int .i64 (rd t64001 (ji37))]) (j := 1) hcl43 hcc43 (show 2 ≤ 2 from by decide) (x' := (⟨(rd_T50 x8_1 (ji31)).f0, rd t64001 (ji37)⟩ : S50)) (k50_mkM _ _ _ (⟨(rd_T50 x8_1 (ji31)).f0, rd t64001 (ji37)⟩ : S50) ) (fun _ hk => hk)
                 have hx43_1 := hcc43 1 _ rfl
                 (try simp only [show (k50).sz = 2 from rfl, Nat.mul_one, Nat.add_zero] at hx43_1)
                 have hf43_1 := hfr43 1
                 (try simp only [show (k50).sz = 2 from rfl, Nat.mul_one, Nat.add_zero] at hf43_1)
                 clear hcl43 hcc43 hfr43 hM43
                 try go_wp2_with (first | ((with_reducible refine gate_store (t := 3) (p := 92) rfl ?_); refine store_event (t := 3) (p := 92) (v := ?vo_w44) (w1 := (w42.setCell ⟨go40, ((ji31) : Int).toNat * 2 + 1, none⟩ (.int .i64 (rd t64001 (ji37))))) ?hg ?ho ?hn ?hr ?_; (case ho => rfl); (case hg => rfl); (case hn => rfl); (case hr => first | (go_simp; done) | (go_simp; rfl)); intro w44 hw; have hg : w42.grownBy w44 (some go40) := (by rw [hw]; exact HP43.2); have hp_ : Kd.R k50 50 w44 w.heap.size (fun _ => True) (.slice (some ⟨go40, 0, none⟩) x8_1.length co41) y64011 := (by rw [hw, Ny64011.out]; exact HP43.1); clear HP43; have n0_ := Aside0.mk (Kd.R_over' (v := (.slice (some ⟨go40, 0, none⟩) x8_1.length co41)) (HO_7.out) (Kd.R_typed HO_8.out) (by decide) hg); have n1_ := Aside0.mk (hp_); have n2_ := Aside0.mk ((by rw [hw]; exact below_set (HB.out) GB40.out : Below w.heap.size w w44)); clear HO_7; clear HO_8; clear HB; have HO_7 := n0_; have HO_8 := n1_; have HB := n2_; clear n0_ n1_ n2_; clear hg hw hp_))
                 go_roundg kj10
                 case measure => have := HK1.out; have := HJ10.out; omega
                 case rel => exact ⟨(y64011), (ji37), (by first | rfl | (simp; done) | (simp only [← hji37] <;> (first | rfl | simp)) | (simp [*]; done)), H', ⟨by have := HK1.out; have := HJ10.out; omega⟩, ⟨HO_7.out⟩, ⟨HO_8.out⟩, ⟨by repeat (first | exact HB.out | apply below_alloc | apply pw_below_drewN | apply below_drew1)⟩⟩
                ·rw [if_neg c39] at H
                 exact absurd H (by simp)
               ·rw [if_neg c38] at H
                exact absurd H (by simp)
              ·rw [if_neg c36] at H
               have c36b0 : (((rd_T50 x8_1 (ji31)).f1) == (rd t64001 x9_1)) = false := beq_eq_false_iff_ne.mpr c36
               have c36b1 : (((rd_T50 x8_1 (ji31)).f1) != (rd t64001 x9_1)) = true := bne_iff_ne.mpr c36
               obtain ⟨ji45, hji45⟩ : ∃ j_ : Int, (wrap64 (x9_1 + 1)) = j_ := ⟨_, rfl⟩
               replace H : (if 0 ≤ (ji45) then (if (ji45) < (t64001.length : Int) then (if x8_1.length < 8796093022208 then (papermillref04_combine.l0 kj10 l0 l1 a2 t64001 (x8_1 ++ [(⟨rd t64001 x9_1, rd t64001 (ji45)⟩ : S50)]) ji45) else (none)) else (none)) else (none)) = some r := by first | (rw [hji45] at H; exact H) | (simp only [hji45] at H ⊢; exact H)
               (try rw [hji45] at c6b0)
               have hji45w : (IntKind.i64.wrap (x9_1 + 1)) = ji45 := (i64_w _).trans hji45
               by_cases c46 : 0 ≤ (ji45)
               ·rw [if_pos c46] at H
                have c46b0 : decide (0 ≤ (ji45)) = true := decide_eq_true c46
                clear c46
                by_cases c47 : (ji45) < (t64001.length : Int)
                ·rw [if_pos c47] at H
                 have c47b0 : decide ((ji45) < (t64001.length : Int)) = true := decide_eq_true c47
                 clear c47
                 by_cases c48 : x8_1.length < 8796093022208
                 ·rw [if_pos c48] at H
                  have LMc48 := Aside0.mk c48
                  clear c48
                  obtain ⟨y64014, hy64014⟩ : ∃ y_ : List (S50), y_ = (x8_1 ++ [(⟨rd t64001 x9_1, rd t64001 (ji45)⟩ : S50)]) := ⟨_, rfl⟩
                  replace H : (papermillref04_combine.l0 kj10 l0 l1 a2 t64001 y64014 ji45) = some r := by first | (rw [hy64014]; with_reducible exact H) | (have H2_ := (Option.bind_some _ _).symm.trans H; rw [hy64014]; with_reducible exact H2_) | (have H2_ := (Option.bind_some _ _).symm.trans H; with_reducible exact H2_) | with_reducible exact H | (rw [hy64014]; exact H) | exact H
                  have Ny64014 := Aside0.mk hy64014
                  clear hy64014
                  have H' := Aside0.mk H
                  clear H
                  obtain ⟨Ao49, co49, eo49⟩ := Kd.R_slice HO_8.out
                  subst eo49
                  try go_wp2
                  have n0_ := Aside0.mk (Kd.R_drew HO_7.out)
                  have n1_ := Aside0.mk (Kd.R_drew HO_8.out)
                  have n2_ := Aside0.mk (below_drew1 HB.out)
                  clear HO_7
                  clear HO_8
                  clear HB
                  have HO_7 := n0_
                  have HO_8 := n1_
                  have HB := n2_
                  clear n0_ n1_ n2_
                  have p64008 : 0 ≤ ((ji31) : Int) := of_decide_eq_true (by assumption)
                  have q64008 : (ji31) < (x8_1.length : Int) := of_decide_eq_true (by assumption)
                  obtain ⟨ad64008, e64008, hx64008_0, hx64008_1⟩ := at_T50 (Kd.R_reads' HO_8.out).2.2 (ji31) p64008 q64008
                  cases e64008
                  replace p64008 := eq_true p64008
                  replace q64008 := eq_true q64008
                  have p64009 : 0 ≤ (x9_1 : Int) := of_decide_eq_true (by assumption)
                  have q64009 : x9_1 < (t64001.length : Int) := of_decide_eq_true (by assumption)
                  obtain ⟨ad64009, e64009, hx64009_0⟩ := Kd.at_int (Kd.R_reads' HO_7.out).2.2 x9_1 p64009 q64009
                  obtain rfl : ad64004 = ad64009 := (by injection e64009)
                  replace p64009 := eq_true p64009
                  replace q64009 := eq_true q64009
                  refine start_ (n := 14) (S := fun w' => w'.cell? (ad64008.add (((ji31)).toNat * 2)) = some (.int .i64 ((rd_T50 x8_1 (ji31)).f0)) ∧ w'.cell? ⟨(ad64008.add (((ji31)).toNat * 2)).block, (ad64008.add (((ji31)).toNat * 2)).off + 1, none⟩ = some (.int .i64 ((rd_T50 x8_1 (ji31)).f1)) ∧ w'.cell? (ad64004.add (x9_1).toNat) = some (.int .i64 (rd t64001 x9_1))) (ds := []) #[false, false, false, false, false, false, false, false, false, false, false, false, false, false] (by kernel_rfl) rfl rfl ⟨hx64008_0, hx64008_1, hx64009_0⟩ (fun hHeld => ?_); refine with_tabW papermillref04_combine.tab9 papermillref04_combine.bits9 (fun HT_ HW_ => ?_)
                  generalize wc.drew = w50 at HO_7 HO_8 HB hx64008_0 hx64008_1 hx64009_0 hHeld ⊢
                  refine pure_ (i := 0) (N := some 70) (v := ?_) (a' := ?_) #[true, false, false, false, false, false, false, false, false, false, false, false, false, false] rfl rfl (any_of HT_.out (by kernel_rfl)) (fun _ _ _ h => h) (Or.inl ⟨by rfl, ?_⟩) ?_ ?_
                  rotate_left
                  ·intro w'
                   go_simp
                   with_reducible rfl
                  rotate_left
                  ·simp only [Act.put, List.setIfInBounds_toArray, List.set_cons_zero, List.set_cons_succ, i64_w, i32_w]
                   rfl
                  refine pure_ (i := 1) (N := some 71) (v := ?_) (a' := ?_) #[true, true, false, false, false, false, false, false, false, false, false, false, false, false] rfl rfl (any_of HT_.out (by kernel_rfl)) (fun _ _ _ h => h) (Or.inl ⟨by rfl, ?_⟩) ?_ ?_
                  rotate_left
                  ·intro w'
                   go_simp
                   with_reducible rfl
                  rotate_left
                  ·simp only [Act.put, List.setIfInBounds_toArray, List.set_cons_zero, List.set_cons_succ, i64_w, i32_w]
                   rfl
                  refine pure_ (i := 2) (N := some 72) (v := ?_) (a' := ?_) #[true, true, true, false, false, false, false, false, false, false, false, false, false, false] rfl rfl (any_of HT_.out (by kernel_rfl)) (fun _ _ _ h => h) (Or.inl ⟨by rfl, ?_⟩) ?_ ?_
                  rotate_left
                  ·intro w'
                   go_simp
                   with_reducible rfl
                  rotate_left
                  ·simp only [Act.put, List.setIfInBounds_toArray, List.set_cons_zero, List.set_cons_succ, i64_w, i32_w]
                   rfl
                  refine pure_ (i := 3) (N := some 73) (v := ?_) (a' := ?_) #[true, true, true, true, false, false, false, false, false, false, false, false, false, false] rfl rfl (any_of HT_.out (by kernel_rfl)) (fun _ _ _ h => h) (Or.inl ⟨by rfl, ?_⟩) ?_ ?_
                  rotate_left
                  ·intro w'
                   go_simp
                   with_reducible rfl
                  rotate_left
                  ·simp only [Act.put, List.setIfInBounds_toArray, List.set_cons_zero, List.set_cons_succ, i64_w, i32_w]
                   rfl
                  refine pure_ (i := 4) (N := some 74) (v := ?_) (a' := ?_) #[true, true, true, true, true, false, false, false, false, false, false, false, false, false] rfl rfl (any_of HT_.out (by kernel_rfl)) (fun _ _ _ h => h) (Or.inl ⟨by rfl, ?_⟩) ?_ ?_
                  rotate_left
                  ·intro w'
                   go_simp
                   with_reducible rfl
                  rotate_left
                  ·simp only [Act.put, List.setIfInBounds_toArray, List.set_cons_zero, List.set_cons_succ, i64_w, i32_w]
                   rfl
                  refine pure_ (i := 5) (N := some 75) (v := ?_) (a' := ?_) #[true, true, true, true, true, true, false, false, false, false, false, false, false, false] rfl rfl (any_of HT_.out (by kernel_rfl)) (fun _ _ _ h => h) (Or.inl ⟨by rfl, ?_⟩) ?_ ?_
                  rotate_left
                  ·intro w'
                   go_simp
                   with_reducible rfl
                  rotate_left
                  ·simp only [Act.put, List.setIfInBounds_toArray, List.set_cons_zero, List.set_cons_succ, i64_w, i32_w]
                   rfl
                  refine pure_ (i := 6) (N := some 76) (v := ?_) (a' := ?_) #[true, true, true, true, true, true, true, false, false, false, false, false, false, false] rfl rfl (any_of HT_.out (by kernel_rfl)) (fun _ _ _ h => h) (Or.inl ⟨by rfl, ?_⟩) ?_ ?_
                  rotate_left
                  ·intro w'
                   go_simp
                   with_reducible rfl
                  rotate_left
                  ·simp only [Act.put, List.setIfInBounds_toArray, List.set_cons_zero, List.set_cons_succ, i64_w, i32_w]
                   rfl
                  refine pure_ (i := 8) (N := some 78) (v := ?_) (a' := ?_) #[true, true, true, true, true, true, true, false, true, false, false, false, false, false] rfl rfl (any_of HT_.out (by kernel_rfl)) (fun _ _ _ h => h) (Or.inl ⟨by rfl, ?_⟩) ?_ ?_
                  rotate_left
                  ·intro w'
                   go_simp
                   with_reducible rfl
                  rotate_left
                  ·simp only [Act.put, List.setIfInBounds_toArray, List.set_cons_zero, List.set_cons_succ, i64_w, i32_w]
                   rfl
                  refine pure_ (i := 9) (N := some 79) (v := ?_) (a' := ?_) #[true, true, true, true, true, true, true, false, true, true, false, false, false, false] rfl rfl (any_of HT_.out (by kernel_rfl)) (fun _ _ _ h => h) (Or.inl ⟨by rfl, ?_⟩) ?_ ?_
                  rotate_left
                  ·intro w'
                   go_simp
                   with_reducible rfl
                  rotate_left
                  ·simp only [Act.put, List.setIfInBounds_toArray, List.set_cons_zero, List.set_cons_succ, i64_w, i32_w]
                   rfl
                  refine pure_ (i := 10) (N := some 80) (v := ?_) (a' := ?_) #[true, true, true, true, true, true, true, false, true, true, true, false, false, false] rfl rfl (any_of HT_.out (by kernel_rfl)) (fun _ _ _ h => h) (Or.inl ⟨by rfl, ?_⟩) ?_ ?_
                  rotate_left
                  ·intro w'
                   go_simp
                   with_reducible rfl
                  rotate_left
                  ·simp only [Act.put, List.setIfInBounds_toArray, List.set_cons_zero, List.set_cons_succ, i64_w, i32_w]
                   rfl
                  refine take_ (i := 7) (N := some 77) (v := ?_) (a' := ?_) #[true, true, true, true, true, true, true, true, true, true, true, false, false, false] rfl rfl (take_ofW HT_.out HW_.out (by kernel_rfl)) (fun _ _ _ h => h) (Or.inl ⟨by rfl, ?_⟩) hHeld ?_ ?_
                  rotate_left
                  ·rintro w' ⟨s0, s1, s2⟩
                   go_simp
                   with_reducible rfl
                  rotate_left
                  ·simp only [Act.put, List.setIfInBounds_toArray, List.set_cons_zero, List.set_cons_succ, i64_w, i32_w]
                   rfl
                  refine take_ (i := 11) (N := some 81) (v := ?_) (a' := ?_) #[true, true, true, true, true, true, true, true, true, true, true, true, false, false] rfl rfl (take_ofW HT_.out HW_.out (by kernel_rfl)) (fun _ _ _ h => h) (Or.inl ⟨by rfl, ?_⟩) hHeld ?_ ?_
                  rotate_left
                  ·rintro w' ⟨s0, s1, s2⟩
                   go_simp
                   with_reducible rfl
                  rotate_left
                  ·simp only [Act.put, List.setIfInBounds_toArray, List.set_cons_zero, List.set_cons_succ, i64_w, i32_w]
                   rfl
                  refine pure_ (i := 12) (N := some 82) (v := ?_) (a' := ?_) #[true, true, true, true, true, true, true, true, true, true, true, true, true, false] rfl rfl (any_of HT_.out (by kernel_rfl)) (fun _ _ _ h => h) (Or.inl ⟨by rfl, ?_⟩) ?_ ?_
                  rotate_left
                  ·intro w'
                   go_simp
                   with_reducible rfl
                  rotate_left
                  ·simp only [Act.put, List.setIfInBounds_toArray, List.set_cons_zero, List.set_cons_succ, i64_w, i32_w]
                   rfl
                  refine pure_ (i := 13) (N := some 83) (v := ?_) (a' := ?_) #[true, true, true, true, true, true, true, true, true, true, true, true, true, true] rfl rfl (any_of HT_.out (by kernel_rfl)) (fun _ _ _ h => h) (Or.inl ⟨by rfl, ?_⟩) ?_ ?_
                  rotate_left
                  ·intro w'
                   go_simp
                   with_reducible rfl
                  rotate_left
                  ·simp only [Act.put, List.setIfInBounds_toArray, List.set_cons_zero, List.set_cons_succ, i64_w, i32_w]
                   rfl
                  refine done_ (done_of HT_.out (by kernel_rfl)) ?_
                  try go_wp2
                  have n0_ := Aside0.mk (Kd.R_drew HO_7.out)
                  have n1_ := Aside0.mk (Kd.R_drew HO_8.out)
                  have n2_ := Aside0.mk (below_drew1 HB.out)
                  clear HO_7
                  clear HO_8
                  clear HB
                  have HO_7 := n0_
                  have HO_8 := n1_
                  have HB := n2_
                  clear n0_ n1_ n2_
                  have p64012 : 0 ≤ (x9_1 : Int) := of_decide_eq_true (by assumption)
                  have q64012 : x9_1 < (t64001.length : Int) := of_decide_eq_true (by assumption)
                  obtain ⟨ad64012, e64012, hx64012_0⟩ := Kd.at_int (Kd.R_reads' HO_7.out).2.2 x9_1 p64012 q64012
                  obtain rfl : ad64004 = ad64012 := (by injection e64012)
                  replace p64012 := eq_true p64012
                  replace q64012 := eq_true q64012
                  have p64013 : 0 ≤ ((ji45) : Int) := of_decide_eq_true (by assumption)
                  have q64013 : (ji45) < (t64001.length : Int) := of_decide_eq_true (by assumption)
                  obtain ⟨ad64013, e64013, hx64013_0⟩ := Kd.at_int (Kd.R_reads' HO_7.out).2.2 (ji45) p64013 q64013
                  obtain rfl : ad64004 = ad64013 := (by injection e64013)
                  replace p64013 := eq_true p64013
                  replace q64013 := eq_true q64013
                  refine start_ (n := 14) (S := fun w' => w'.cell? (ad64004.add (x9_1).toNat) = some (.int .i64 (rd t64001 x9_1)) ∧ w'.cell? (ad64004.add ((ji45)).toNat) = some (.int .i64 (rd t64001 (ji45)))) (ds := [11, 12]) #[false, false, false, false, false, false, false, false, false, false, false, false, false, false] (by kernel_rfl) rfl rfl ⟨hx64012_0, hx64013_0⟩ (fun hHeld => ?_); refine with_tabW papermillref04_combine.tab11 papermillref04_combine.bits11 (fun HT_ HW_ => ?_)
                  generalize w50.drew = w51 at HO_7 HO_8 HB hx64012_0 hx64013_0 hHeld ⊢
                  refine pure_ (i := 0) (N := some 93) (v := ?_) (a' := ?_) #[true, false, false, false, false, false, false, false, false, false, false, false, false, false] rfl rfl (any_of HT_.out (by kernel_rfl)) (fun _ _ _ h => h) (Or.inl ⟨by rfl, ?_⟩) ?_ ?_
                  rotate_left
                  ·intro w'
                   go_simp
                   with_reducible rfl
                  rotate_left
                  ·simp only [Act.put, List.setIfInBounds_toArray, List.set_cons_zero, List.set_cons_succ, i64_w, i32_w]
                   rfl
                  refine pure_ (i := 1) (N := some 94) (v := ?_) (a' := ?_) #[true, true, false, false, false, false, false, false, false, false, false, false, false, false] rfl rfl (any_of HT_.out (by kernel_rfl)) (fun _ _ _ h => h) (Or.inl ⟨by rfl, ?_⟩) ?_ ?_
                  rotate_left
                  ·intro w'
                   go_simp
                   with_reducible rfl
                  rotate_left
                  ·simp only [Act.put, List.setIfInBounds_toArray, List.set_cons_zero, List.set_cons_succ, i64_w, i32_w]
                   rfl
                  refine pure_ (i := 2) (N := some 95) (v := ?_) (a' := ?_) #[true, true, true, false, false, false, false, false, false, false, false, false, false, false] rfl rfl (any_of HT_.out (by kernel_rfl)) (fun _ _ _ h => h) (Or.inl ⟨by rfl, ?_⟩) ?_ ?_
                  rotate_left
                  ·intro w'
                   go_simp
                   with_reducible rfl
                  rotate_left
                  ·simp only [Act.put, List.setIfInBounds_toArray, List.set_cons_zero, List.set_cons_succ, i64_w, i32_w]
                   rfl
                  refine pure_ (i := 3) (N := some 96) (v := ?_) (a' := ?_) #[true, true, true, true, false, false, false, false, false, false, false, false, false, false] rfl rfl (any_of HT_.out (by kernel_rfl)) (fun _ _ _ h => h) (Or.inl ⟨by rfl, ?_⟩) ?_ ?_
                  rotate_left
                  ·intro w'
                   go_simp
                   with_reducible rfl
                  rotate_left
                  ·simp only [Act.put, List.setIfInBounds_toArray, List.set_cons_zero, List.set_cons_succ, i64_w, i32_w]
                   rfl
                  refine pure_ (i := 5) (N := some 98) (v := ?_) (a' := ?_) #[true, true, true, true, false, true, false, false, false, false, false, false, false, false] rfl rfl (any_of HT_.out (by kernel_rfl)) (fun _ _ _ h => h) (Or.inl ⟨by rfl, ?_⟩) ?_ ?_
                  rotate_left
                  ·intro w'
                   go_simp
                   with_reducible rfl
                  rotate_left
                  ·simp only [Act.put, List.setIfInBounds_toArray, List.set_cons_zero, List.set_cons_succ, i64_w, i32_w]
                   rfl
                  refine pure_ (i := 6) (N := some 99) (v := ?_) (a' := ?_) #[true, true, true, true, false, true, true, false, false, false, false, false, false, false] rfl rfl (any_of HT_.out (by kernel_rfl)) (fun _ _ _ h => h) (Or.inl ⟨by rfl, ?_⟩) ?_ ?_
                  rotate_left
                  ·intro w'
                   go_simp
                   with_reducible rfl
                  rotate_left
                  ·simp only [Act.put, List.setIfInBounds_toArray, List.set_cons_zero, List.set_cons_succ, i64_w, i32_w]
                   rfl
                  refine pure_ (i := 7) (N := some 100) (v := ?_) (a' := ?_) #[true, true, true, true, false, true, true, true, false, false, false, false, false, false] rfl rfl (any_of HT_.out (by kernel_rfl)) (fun _ _ _ h => h) (Or.inl ⟨by rfl, ?_⟩) ?_ ?_
                  rotate_left
                  ·intro w'
                   go_simp
                   with_reducible rfl
                  rotate_left
                  ·simp only [Act.put, List.setIfInBounds_toArray, List.set_cons_zero, List.set_cons_succ, i64_w, i32_w]
                   rfl
                  refine pure_ (i := 8) (N := some 101) (v := ?_) (a' := ?_) #[true, true, true, true, false, true, true, true, true, false, false, false, false, false] rfl rfl (any_of HT_.out (by kernel_rfl)) (fun _ _ _ h => h) (Or.inl ⟨by rfl, ?_⟩) ?_ ?_
                  rotate_left
                  ·intro w'
                   go_simp
                   with_reducible rfl
                  rotate_left
                  ·simp only [Act.put, List.setIfInBounds_toArray, List.set_cons_zero, List.set_cons_succ, i64_w, i32_w]
                   rfl
                  refine take_ (i := 4) (N := some 97) (v := ?_) (a' := ?_) #[true, true, true, true, true, true, true, true, true, false, false, false, false, false] rfl rfl (take_ofW HT_.out HW_.out (by kernel_rfl)) (fun _ _ _ h => h) (Or.inl ⟨by rfl, ?_⟩) hHeld ?_ ?_
                  rotate_left
                  ·rintro w' ⟨s0, s1⟩
                   go_simp
                   with_reducible rfl
                  rotate_left
                  ·simp only [Act.put, List.setIfInBounds_toArray, List.set_cons_zero, List.set_cons_succ, i64_w, i32_w]
                   rfl
                  refine take_ (i := 9) (N := some 102) (v := ?_) (a' := ?_) #[true, true, true, true, true, true, true, true, true, true, false, false, false, false] rfl rfl (take_ofW HT_.out HW_.out (by kernel_rfl)) (fun _ _ _ h => h) (Or.inl ⟨by rfl, ?_⟩) hHeld ?_ ?_
                  rotate_left
                  ·rintro w' ⟨s0, s1⟩
                   go_simp
                   with_reducible rfl
                  rotate_left
                  ·simp only [Act.put, List.setIfInBounds_toArray, List.set_cons_zero, List.set_cons_succ, i64_w, i32_w]
                   rfl
                  refine pure_ (i := 10) (N := some 103) (v := ?_) (a' := ?_) #[true, true, true, true, true, true, true, true, true, true, true, false, false, false] rfl rfl (any_of HT_.out (by kernel_rfl)) (fun _ _ _ h => h) (Or.inl ⟨by rfl, ?_⟩) ?_ ?_
                  rotate_left
                  ·intro w'
                   go_simp
                   with_reducible rfl
                  rotate_left
                  ·simp only [Act.put, List.setIfInBounds_toArray, List.set_cons_zero, List.set_cons_succ, i64_w, i32_w]
                   rfl
                  refine last_ (i := 11) (N := some 104) #[true, true, true, true, true, true, true, true, true, true, true, true, false, false] rfl rfl (one_of HT_.out (by kernel_rfl)) (by decide) (fun K hK => ?_)
                  refine value_ (w1 := ?_) (v := ?_) (by rfl) rfl ?_ ?_
                  rotate_left 2
                  ·go_simp
                   constructor
                   ·rfl
                   ·rfl
                  refine hK.out _ _ ?_
                  clear hK K
                  refine norm_ (a' := ?_) ?_ ?_
                  rotate_left
                  ·show Act.put _ (some 104) _ = _
                   simp only [Act.put, List.setIfInBounds_toArray, List.set_cons_zero, List.set_cons_succ, i64_w, i32_w]
                   rfl
                  refine last_ (i := 12) (N := some 105) #[true, true, true, true, true, true, true, true, true, true, true, true, true, false] rfl rfl (one_of HT_.out (by kernel_rfl)) (by decide) (fun K hK => ?_)
                  refine Kd.R_append_step k50 (w0 := w) w.heap.size (by rfl) (.tmp 93) (.tmp 104) 22 50 (.agg #[(.int .i64 0), (.int .i64 0)]) 16 rfl Try.underlying22 info50 rfl (by decide) (by omega) (.slice (some ad64008) x8_1.length co49) x8_1 (⟨rd t64001 x9_1, rd t64001 (ji45)⟩ : S50) [.int .i64 (rd t64001 x9_1), .int .i64 (rd t64001 (ji45))] (fun _ => True) (fun _ => False) rfl rfl ?aP (fun _ hk => hk.elim) ?aF ?aO ?aB ?aS ?aL ?_
                  (case aP => exact k50_mkM _ _ _ (⟨rd t64001 x9_1, rd t64001 (ji45)⟩ : S50))
                  (case aB => exact (by repeat (first | exact HB.out | apply below_alloc | apply pw_below_drewN | apply below_drew1)))
                  (case aF => exact (fun _ _ => trivial))
                  (case aO => exact (HO_8.out))
                  (case aS => exact (below_size (by repeat (first | exact HB.out | apply below_alloc | apply pw_below_drewN | apply below_drew1))))
                  (case aL => have := LMc48.out; omega)
                  intro v64015 w52 ho hb hg hat
                  rw [← Ny64014.out] at ho
                  have n0_ := Aside0.mk (Kd.R_over' (HO_7.out) (Kd.R_typed (HO_8.out)) (by decide) hg)
                  have n1_ := Aside0.mk (hb)
                  have n2_ := Aside0.mk (ho)
                  clear HO_7
                  clear HB
                  clear HO_8
                  have HO_7 := n0_
                  have HB := n1_
                  have HO64016 := n2_
                  clear n0_ n1_ n2_
                  clear ho hb hg hat
                  refine hK.out _ _ ?_
                  clear hK K
                  refine norm_ (a' := ?_) ?_ ?_
                  rotate_left
                  ·show Act.put _ (some 105) _ = _
                   simp only [Act.put, List.setIfInBounds_toArray, List.set_cons_zero, List.set_cons_succ, i64_w, i32_w]
                   rfl
                  refine pure_ (i := 13) (N := some 8) (v := ?_) (a' := ?_) #[true, true, true, true, true, true, true, true, true, true, true, true, true, true] rfl rfl (any_of HT_.out (by kernel_rfl)) (fun _ _ _ h => h) (Or.inl ⟨by rfl, ?_⟩) ?_ ?_
                  rotate_left
                  ·intro w'
                   go_simp
                   with_reducible rfl
                  rotate_left
                  ·simp only [Act.put, List.setIfInBounds_toArray, List.set_cons_zero, List.set_cons_succ, i64_w, i32_w]
                   rfl
                  refine done_ (done_of HT_.out (by kernel_rfl)) ?_
                  try go_wp2
                  go_roundg kj10
                  case measure => have := HK1.out; have := HJ10.out; omega
                  case rel => exact ⟨(y64014), (ji45), (by first | rfl | (simp; done) | (simp only [← hji45] <;> (first | rfl | simp)) | (simp [*]; done)), H', ⟨by have := HK1.out; have := HJ10.out; omega⟩, ⟨HO_7.out⟩, ⟨HO64016.out⟩, ⟨by repeat (first | exact HB.out | apply below_alloc | apply pw_below_drewN | apply below_drew1)⟩⟩
                 ·rw [if_neg c48] at H
                  exact absurd H (by simp)
                ·rw [if_neg c47] at H
                 exact absurd H (by simp)
               ·rw [if_neg c46] at H
                exact absurd H (by simp)
             ·rw [if_neg c35] at H
              exact absurd H (by simp)
            ·rw [if_neg c34] at H
             exact absurd H (by simp)
           ·rw [if_neg c33] at H
            exact absurd H (by simp)
          ·rw [if_neg c32] at H
           exact absurd H (by simp)
         ·rw [if_neg c30] at H
          have c30b0 : decide (0 ≤ (wrap64 ((x8_1.length : Int) - 1))) = false := decide_eq_false c30
          clear c30
          by_cases c53 : 0 ≤ x9_1
          ·rw [if_pos c53] at H
           have c53b0 : decide (0 ≤ x9_1) = true := decide_eq_true c53
           clear c53
           by_cases c54 : x9_1 < (t64001.length : Int)
           ·rw [if_pos c54] at H
            have c54b0 : decide (x9_1 < (t64001.length : Int)) = true := decide_eq_true c54
            clear c54
            obtain ⟨ji55, hji55⟩ : ∃ j_ : Int, (wrap64 (x9_1 + 1)) = j_ := ⟨_, rfl⟩
            replace H : (if 0 ≤ (ji55) then (if (ji55) < (t64001.length : Int) then (if x8_1.length < 8796093022208 then (papermillref04_combine.l0 kj10 l0 l1 a2 t64001 (x8_1 ++ [(⟨rd t64001 x9_1, rd t64001 (ji55)⟩ : S50)]) ji55) else (none)) else (none)) else (none)) = some r := by first | (rw [hji55] at H; exact H) | (simp only [hji55] at H ⊢; exact H)
            (try rw [hji55] at c6b0)
            have hji55w : (IntKind.i64.wrap (x9_1 + 1)) = ji55 := (i64_w _).trans hji55
            by_cases c56 : 0 ≤ (ji55)
            ·rw [if_pos c56] at H
             have c56b0 : decide (0 ≤ (ji55)) = true := decide_eq_true c56
             clear c56
             by_cases c57 : (ji55) < (t64001.length : Int)
             ·rw [if_pos c57] at H
              have c57b0 : decide ((ji55) < (t64001.length : Int)) = true := decide_eq_true c57
              clear c57
              by_cases c58 : x8_1.length < 8796093022208
              ·rw [if_pos c58] at H
               have LMc58 := Aside0.mk c58
               clear c58
               obtain ⟨y64019, hy64019⟩ : ∃ y_ : List (S50), y_ = (x8_1 ++ [(⟨rd t64001 x9_1, rd t64001 (ji55)⟩ : S50)]) := ⟨_, rfl⟩
               replace H : (papermillref04_combine.l0 kj10 l0 l1 a2 t64001 y64019 ji55) = some r := by first | (rw [hy64019]; with_reducible exact H) | (have H2_ := (Option.bind_some _ _).symm.trans H; rw [hy64019]; with_reducible exact H2_) | (have H2_ := (Option.bind_some _ _).symm.trans H; with_reducible exact H2_) | with_reducible exact H | (rw [hy64019]; exact H) | exact H
               have Ny64019 := Aside0.mk hy64019
               clear hy64019
               have H' := Aside0.mk H
               clear H
               obtain ⟨Ao59, co59, eo59⟩ := Kd.R_slice HO_8.out
               subst eo59
               try go_wp2
               have n0_ := Aside0.mk (Kd.R_drew HO_7.out)
               have n1_ := Aside0.mk (Kd.R_drew HO_8.out)
               have n2_ := Aside0.mk (below_drew1 HB.out)
               clear HO_7
               clear HO_8
               clear HB
               have HO_7 := n0_
               have HO_8 := n1_
               have HB := n2_
               clear n0_ n1_ n2_
               refine start_ (n := 14) (S := fun w' => True) (ds := []) #[false, false, false, false, false, false, false, false, false, false, false, false, false, false] (by kernel_rfl) rfl rfl trivial (fun hHeld => ?_); refine with_tabW papermillref04_combine.tab9 papermillref04_combine.bits9 (fun HT_ HW_ => ?_)
               generalize wc.drew = w60 at HO_7 HO_8 HB hHeld ⊢
               refine pure_ (i := 0) (N := some 70) (v := ?_) (a' := ?_) #[true, false, false, false, false, false, false, false, false, false, false, false, false, false] rfl rfl (any_of HT_.out (by kernel_rfl)) (fun _ _ _ h => h) (Or.inl ⟨by rfl, ?_⟩) ?_ ?_
               rotate_left
               ·intro w'
                go_simp
                with_reducible rfl
               rotate_left
               ·simp only [Act.put, List.setIfInBounds_toArray, List.set_cons_zero, List.set_cons_succ, i64_w, i32_w]
                rfl
               refine pure_ (i := 1) (N := some 71) (v := ?_) (a' := ?_) #[true, true, false, false, false, false, false, false, false, false, false, false, false, false] rfl rfl (any_of HT_.out (by kernel_rfl)) (fun _ _ _ h => h) (Or.inl ⟨by rfl, ?_⟩) ?_ ?_
               rotate_left
               ·intro w'
                go_simp
                with_reducible rfl
               rotate_left
               ·simp only [Act.put, List.setIfInBounds_toArray, List.set_cons_zero, List.set_cons_succ, i64_w, i32_w]
                rfl
               refine pure_ (i := 2) (N := some 72) (v := ?_) (a' := ?_) #[true, true, true, false, false, false, false, false, false, false, false, false, false, false] rfl rfl (any_of HT_.out (by kernel_rfl)) (fun _ _ _ h => h) (Or.inl ⟨by rfl, ?_⟩) ?_ ?_
               rotate_left
               ·intro w'
                go_simp
                with_reducible rfl
               rotate_left
               ·simp only [Act.put, List.setIfInBounds_toArray, List.set_cons_zero, List.set_cons_succ, i64_w, i32_w]
                rfl
               refine pure_ (i := 3) (N := some 73) (v := undef) (a' := ?_) #[true, true, true, true, false, false, false, false, false, false, false, false, false, false] rfl rfl (any_of HT_.out (by kernel_rfl)) (fun _ _ _ h => h) (Or.inr ⟨by rfl, rfl⟩) ?_ ?_
               rotate_left
               ·simp only [Act.put, List.setIfInBounds_toArray, List.set_cons_zero, List.set_cons_succ, i64_w, i32_w]
                rfl
               refine pure_ (i := 4) (N := some 74) (v := undef) (a' := ?_) #[true, true, true, true, true, false, false, false, false, false, false, false, false, false] rfl rfl (any_of HT_.out (by kernel_rfl)) (fun _ _ _ h => h) (Or.inr ⟨by rfl, rfl⟩) ?_ ?_
               rotate_left
               ·simp only [Act.put, List.setIfInBounds_toArray, List.set_cons_zero, List.set_cons_succ, i64_w, i32_w]
                rfl
               refine pure_ (i := 5) (N := some 75) (v := undef) (a' := ?_) #[true, true, true, true, true, true, false, false, false, false, false, false, false, false] rfl rfl (any_of HT_.out (by kernel_rfl)) (fun _ _ _ h => h) (Or.inr ⟨by rfl, rfl⟩) ?_ ?_
               rotate_left
               ·simp only [Act.put, List.setIfInBounds_toArray, List.set_cons_zero, List.set_cons_succ, i64_w, i32_w]
                rfl
               refine pure_ (i := 6) (N := some 76) (v := undef) (a' := ?_) #[true, true, true, true, true, true, true, false, false, false, false, false, false, false] rfl rfl (any_of HT_.out (by kernel_rfl)) (fun _ _ _ h => h) (Or.inr ⟨by rfl, rfl⟩) ?_ ?_
               rotate_left
               ·simp only [Act.put, List.setIfInBounds_toArray, List.set_cons_zero, List.set_cons_succ, i64_w, i32_w]
                rfl
               refine pure_ (i := 7) (N := some 77) (v := undef) (a' := ?_) #[true, true, true, true, true, true, true, true, false, false, false, false, false, false] rfl rfl (any_of HT_.out (by kernel_rfl)) (fun _ _ _ h => h) (Or.inr ⟨by rfl, rfl⟩) ?_ ?_
               rotate_left
               ·simp only [Act.put, List.setIfInBounds_toArray, List.set_cons_zero, List.set_cons_succ, i64_w, i32_w]
                rfl
               refine pure_ (i := 8) (N := some 78) (v := undef) (a' := ?_) #[true, true, true, true, true, true, true, true, true, false, false, false, false, false] rfl rfl (any_of HT_.out (by kernel_rfl)) (fun _ _ _ h => h) (Or.inr ⟨by rfl, rfl⟩) ?_ ?_
               rotate_left
               ·simp only [Act.put, List.setIfInBounds_toArray, List.set_cons_zero, List.set_cons_succ, i64_w, i32_w]
                rfl
               refine pure_ (i := 9) (N := some 79) (v := undef) (a' := ?_) #[true, true, true, true, true, true, true, true, true, true, false, false, false, false] rfl rfl (any_of HT_.out (by kernel_rfl)) (fun _ _ _ h => h) (Or.inr ⟨by rfl, rfl⟩) ?_ ?_
               rotate_left
               ·simp only [Act.put, List.setIfInBounds_toArray, List.set_cons_zero, List.set_cons_succ, i64_w, i32_w]
                rfl
               refine pure_ (i := 10) (N := some 80) (v := undef) (a' := ?_) #[true, true, true, true, true, true, true, true, true, true, true, false, false, false] rfl rfl (any_of HT_.out (by kernel_rfl)) (fun _ _ _ h => h) (Or.inr ⟨by rfl, rfl⟩) ?_ ?_
               rotate_left
               ·simp only [Act.put, List.setIfInBounds_toArray, List.set_cons_zero, List.set_cons_succ, i64_w, i32_w]
                rfl
               refine pure_ (i := 11) (N := some 81) (v := undef) (a' := ?_) #[true, true, true, true, true, true, true, true, true, true, true, true, false, false] rfl rfl (any_of HT_.out (by kernel_rfl)) (fun _ _ _ h => h) (Or.inr ⟨by rfl, rfl⟩) ?_ ?_
               rotate_left
               ·simp only [Act.put, List.setIfInBounds_toArray, List.set_cons_zero, List.set_cons_succ, i64_w, i32_w]
                rfl
               refine pure_ (i := 12) (N := some 82) (v := undef) (a' := ?_) #[true, true, true, true, true, true, true, true, true, true, true, true, true, false] rfl rfl (any_of HT_.out (by kernel_rfl)) (fun _ _ _ h => h) (Or.inr ⟨by rfl, rfl⟩) ?_ ?_
               rotate_left
               ·simp only [Act.put, List.setIfInBounds_toArray, List.set_cons_zero, List.set_cons_succ, i64_w, i32_w]
                rfl
               refine pure_ (i := 13) (N := some 83) (v := ?_) (a' := ?_) #[true, true, true, true, true, true, true, true, true, true, true, true, true, true] rfl rfl (any_of HT_.out (by kernel_rfl)) (fun _ _ _ h => h) (Or.inl ⟨by rfl, ?_⟩) ?_ ?_
               rotate_left
               ·intro w'
                go_simp
                with_reducible rfl
               rotate_left
               ·simp only [Act.put, List.setIfInBounds_toArray, List.set_cons_zero, List.set_cons_succ, i64_w, i32_w]
                rfl
               refine done_ (done_of HT_.out (by kernel_rfl)) ?_
               try go_wp2
               have n0_ := Aside0.mk (Kd.R_drew HO_7.out)
               have n1_ := Aside0.mk (Kd.R_drew HO_8.out)
               have n2_ := Aside0.mk (below_drew1 HB.out)
               clear HO_7
               clear HO_8
               clear HB
               have HO_7 := n0_
               have HO_8 := n1_
               have HB := n2_
               clear n0_ n1_ n2_
               have p64017 : 0 ≤ (x9_1 : Int) := of_decide_eq_true (by assumption)
               have q64017 : x9_1 < (t64001.length : Int) := of_decide_eq_true (by assumption)
               obtain ⟨ad64017, e64017, hx64017_0⟩ := Kd.at_int (Kd.R_reads' HO_7.out).2.2 x9_1 p64017 q64017
               obtain rfl : ad64004 = ad64017 := (by injection e64017)
               replace p64017 := eq_true p64017
               replace q64017 := eq_true q64017
               have p64018 : 0 ≤ ((ji55) : Int) := of_decide_eq_true (by assumption)
               have q64018 : (ji55) < (t64001.length : Int) := of_decide_eq_true (by assumption)
               obtain ⟨ad64018, e64018, hx64018_0⟩ := Kd.at_int (Kd.R_reads' HO_7.out).2.2 (ji55) p64018 q64018
               obtain rfl : ad64004 = ad64018 := (by injection e64018)
               replace p64018 := eq_true p64018
               replace q64018 := eq_true q64018
               refine start_ (n := 14) (S := fun w' => w'.cell? (ad64004.add (x9_1).toNat) = some (.int .i64 (rd t64001 x9_1)) ∧ w'.cell? (ad64004.add ((ji55)).toNat) = some (.int .i64 (rd t64001 (ji55)))) (ds := [11, 12]) #[false, false, false, false, false, false, false, false, false, false, false, false, false, false] (by kernel_rfl) rfl rfl ⟨hx64017_0, hx64018_0⟩ (fun hHeld => ?_); refine with_tabW papermillref04_combine.tab11 papermillref04_combine.bits11 (fun HT_ HW_ => ?_)
               generalize w60.drew = w61 at HO_7 HO_8 HB hx64017_0 hx64018_0 hHeld ⊢
               refine pure_ (i := 0) (N := some 93) (v := ?_) (a' := ?_) #[true, false, false, false, false, false, false, false, false, false, false, false, false, false] rfl rfl (any_of HT_.out (by kernel_rfl)) (fun _ _ _ h => h) (Or.inl ⟨by rfl, ?_⟩) ?_ ?_
               rotate_left
               ·intro w'
                go_simp
                with_reducible rfl
               rotate_left
               ·simp only [Act.put, List.setIfInBounds_toArray, List.set_cons_zero, List.set_cons_succ, i64_w, i32_w]
                rfl
               refine pure_ (i := 1) (N := some 94) (v := ?_) (a' := ?_) #[true, true, false, false, false, false, false, false, false, false, false, false, false, false] rfl rfl (any_of HT_.out (by kernel_rfl)) (fun _ _ _ h => h) (Or.inl ⟨by rfl, ?_⟩) ?_ ?_
               rotate_left
               ·intro w'
                go_simp
                with_reducible rfl
               rotate_left
               ·simp only [Act.put, List.setIfInBounds_toArray, List.set_cons_zero, List.set_cons_succ, i64_w, i32_w]
                rfl
               refine pure_ (i := 2) (N := some 95) (v := ?_) (a' := ?_) #[true, true, true, false, false, false, false, false, false, false, false, false, false, false] rfl rfl (any_of HT_.out (by kernel_rfl)) (fun _ _ _ h => h) (Or.inl ⟨by rfl, ?_⟩) ?_ ?_
               rotate_left
               ·intro w'
                go_simp
                with_reducible rfl
               rotate_left
               ·simp only [Act.put, List.setIfInBounds_toArray, List.set_cons_zero, List.set_cons_succ, i64_w, i32_w]
                rfl
               refine pure_ (i := 3) (N := some 96) (v := ?_) (a' := ?_) #[true, true, true, true, false, false, false, false, false, false, false, false, false, false] rfl rfl (any_of HT_.out (by kernel_rfl)) (fun _ _ _ h => h) (Or.inl ⟨by rfl, ?_⟩) ?_ ?_
               rotate_left
               ·intro w'
                go_simp
                with_reducible rfl
               rotate_left
               ·simp only [Act.put, List.setIfInBounds_toArray, List.set_cons_zero, List.set_cons_succ, i64_w, i32_w]
                rfl
               refine pure_ (i := 5) (N := some 98) (v := ?_) (a' := ?_) #[true, true, true, true, false, true, false, false, false, false, false, false, false, false] rfl rfl (any_of HT_.out (by kernel_rfl)) (fun _ _ _ h => h) (Or.inl ⟨by rfl, ?_⟩) ?_ ?_
               rotate_left
               ·intro w'
                go_simp
                with_reducible rfl
               rotate_left
               ·simp only [Act.put, List.setIfInBounds_toArray, List.set_cons_zero, List.set_cons_succ, i64_w, i32_w]
                rfl
               refine pure_ (i := 6) (N := some 99) (v := ?_) (a' := ?_) #[true, true, true, true, false, true, true, false, false, false, false, false, false, false] rfl rfl (any_of HT_.out (by kernel_rfl)) (fun _ _ _ h => h) (Or.inl ⟨by rfl, ?_⟩) ?_ ?_
               rotate_left
               ·intro w'
                go_simp
                with_reducible rfl
               rotate_left
               ·simp only [Act.put, List.setIfInBounds_toArray, List.set_cons_zero, List.set_cons_succ, i64_w, i32_w]
                rfl
               refine pure_ (i := 7) (N := some 100) (v := ?_) (a' := ?_) #[true, true, true, true, false, true, true, true, false, false, false, false, false, false] rfl rfl (any_of HT_.out (by kernel_rfl)) (fun _ _ _ h => h) (Or.inl ⟨by rfl, ?_⟩) ?_ ?_
               rotate_left
               ·intro w'
                go_simp
                with_reducible rfl
               rotate_left
               ·simp only [Act.put, List.setIfInBounds_toArray, List.set_cons_zero, List.set_cons_succ, i64_w, i32_w]
                rfl
               refine pure_ (i := 8) (N := some 101) (v := ?_) (a' := ?_) #[true, true, true, true, false, true, true, true, true, false, false, false, false, false] rfl rfl (any_of HT_.out (by kernel_rfl)) (fun _ _ _ h => h) (Or.inl ⟨by rfl, ?_⟩) ?_ ?_
               rotate_left
               ·intro w'
                go_simp
                with_reducible rfl
               rotate_left
               ·simp only [Act.put, List.setIfInBounds_toArray, List.set_cons_zero, List.set_cons_succ, i64_w, i32_w]
                rfl
               refine take_ (i := 4) (N := some 97) (v := ?_) (a' := ?_) #[true, true, true, true, true, true, true, true, true, false, false, false, false, false] rfl rfl (take_ofW HT_.out HW_.out (by kernel_rfl)) (fun _ _ _ h => h) (Or.inl ⟨by rfl, ?_⟩) hHeld ?_ ?_
               rotate_left
               ·rintro w' ⟨s0, s1⟩
                go_simp
                with_reducible rfl
               rotate_left
               ·simp only [Act.put, List.setIfInBounds_toArray, List.set_cons_zero, List.set_cons_succ, i64_w, i32_w]
                rfl
               refine take_ (i := 9) (N := some 102) (v := ?_) (a' := ?_) #[true, true, true, true, true, true, true, true, true, true, false, false, false, false] rfl rfl (take_ofW HT_.out HW_.out (by kernel_rfl)) (fun _ _ _ h => h) (Or.inl ⟨by rfl, ?_⟩) hHeld ?_ ?_
               rotate_left
               ·rintro w' ⟨s0, s1⟩
                go_simp
                with_reducible rfl
               rotate_left
               ·simp only [Act.put, List.setIfInBounds_toArray, List.set_cons_zero, List.set_cons_succ, i64_w, i32_w]
                rfl
               refine pure_ (i := 10) (N := some 103) (v := ?_) (a' := ?_) #[true, true, true, true, true, true, true, true, true, true, true, false, false, false] rfl rfl (any_of HT_.out (by kernel_rfl)) (fun _ _ _ h => h) (Or.inl ⟨by rfl, ?_⟩) ?_ ?_
               rotate_left
               ·intro w'
                go_simp
                with_reducible rfl
               rotate_left
               ·simp only [Act.put, List.setIfInBounds_toArray, List.set_cons_zero, List.set_cons_succ, i64_w, i32_w]
                rfl
               refine last_ (i := 11) (N := some 104) #[true, true, true, true, true, true, true, true, true, true, true, true, false, false] rfl rfl (one_of HT_.out (by kernel_rfl)) (by decide) (fun K hK => ?_)
               refine value_ (w1 := ?_) (v := ?_) (by rfl) rfl ?_ ?_
               rotate_left 2
               ·go_simp
                constructor
                ·rfl
                ·rfl
               refine hK.out _ _ ?_
               clear hK K
               refine norm_ (a' := ?_) ?_ ?_
               rotate_left
               ·show Act.put _ (some 104) _ = _
                simp only [Act.put, List.setIfInBounds_toArray, List.set_cons_zero, List.set_cons_succ, i64_w, i32_w]
                rfl
               refine last_ (i := 12) (N := some 105) #[true, true, true, true, true, true, true, true, true, true, true, true, true, false] rfl rfl (one_of HT_.out (by kernel_rfl)) (by decide) (fun K hK => ?_)
               refine Kd.R_append_step k50 (w0 := w) w.heap.size (by rfl) (.tmp 93) (.tmp 104) 22 50 (.agg #[(.int .i64 0), (.int .i64 0)]) 16 rfl Try.underlying22 info50 rfl (by decide) (by omega) (.slice Ao59 x8_1.length co59) x8_1 (⟨rd t64001 x9_1, rd t64001 (ji55)⟩ : S50) [.int .i64 (rd t64001 x9_1), .int .i64 (rd t64001 (ji55))] (fun _ => True) (fun _ => False) rfl rfl ?aP (fun _ hk => hk.elim) ?aF ?aO ?aB ?aS ?aL ?_
               (case aP => exact k50_mkM _ _ _ (⟨rd t64001 x9_1, rd t64001 (ji55)⟩ : S50))
               (case aB => exact (by repeat (first | exact HB.out | apply below_alloc | apply pw_below_drewN | apply below_drew1)))
               (case aF => exact (fun _ _ => trivial))
               (case aO => exact (HO_8.out))
               (case aS => exact (below_size (by repeat (first | exact HB.out | apply below_alloc | apply pw_below_drewN | apply below_drew1))))
               (case aL => have := LMc58.out; omega)
               intro v64020 w62 ho hb hg hat
               rw [← Ny64019.out] at ho
               have n0_ := Aside0.mk (Kd.R_over' (HO_7.out) (Kd.R_typed (HO_8.out)) (by decide) hg)
               have n1_ := Aside0.mk (hb)
               have n2_ := Aside0.mk (ho)
               clear HO_7
               clear HB
               clear HO_8
               have HO_7 := n0_
               have HB := n1_
               have HO64021 := n2_
               clear n0_ n1_ n2_
               clear ho hb hg hat
               refine hK.out _ _ ?_
               clear hK K
               refine norm_ (a' := ?_) ?_ ?_
               rotate_left
               ·show Act.put _ (some 105) _ = _
                simp only [Act.put, List.setIfInBounds_toArray, List.set_cons_zero, List.set_cons_succ, i64_w, i32_w]
                rfl
               refine pure_ (i := 13) (N := some 8) (v := ?_) (a' := ?_) #[true, true, true, true, true, true, true, true, true, true, true, true, true, true] rfl rfl (any_of HT_.out (by kernel_rfl)) (fun _ _ _ h => h) (Or.inl ⟨by rfl, ?_⟩) ?_ ?_
               rotate_left
               ·intro w'
                go_simp
                with_reducible rfl
               rotate_left
               ·simp only [Act.put, List.setIfInBounds_toArray, List.set_cons_zero, List.set_cons_succ, i64_w, i32_w]
                rfl
               refine done_ (done_of HT_.out (by kernel_rfl)) ?_
               try go_wp2
               go_roundg kj10
               case measure => have := HK1.out; have := HJ10.out; omega
               case rel => exact ⟨(y64019), (ji55), (by first | rfl | (simp; done) | (simp only [← hji55] <;> (first | rfl | simp)) | (simp [*]; done)), H', ⟨by have := HK1.out; have := HJ10.out; omega⟩, ⟨HO_7.out⟩, ⟨HO64021.out⟩, ⟨by repeat (first | exact HB.out | apply below_alloc | apply pw_below_drewN | apply below_drew1)⟩⟩
              ·rw [if_neg c58] at H
               exact absurd H (by simp)
             ·rw [if_neg c57] at H
              exact absurd H (by simp)
            ·rw [if_neg c56] at H
             exact absurd H (by simp)
           ·rw [if_neg c54] at H
            exact absurd H (by simp)
          ·rw [if_neg c53] at H
           exact absurd H (by simp)
     ·rw [if_neg c8] at H
      exact absurd H (by simp)
    ·rw [if_neg c7] at H
     exact absurd H (by simp)
   ·rw [if_neg c6] at H
    have c6b0 : decide ((wrap64 (x9_1 + 1)) < (t64001.length : Int)) = false := decide_eq_false c6
    clear c6
    obtain rfl := Option.some.inj H
    obtain ⟨Ao63, co63, eo63⟩ := Kd.R_slice HO_7.out
    subst eo63
    go_wp2
    go_ret
    exact ⟨_, by first | rfl | (simp [errW_none, errW_some] <;> rfl) | (simp [*, errW_none, errW_some] <;> rfl), by exact HO_8.out, by repeat (first | exact HB.out | apply below_alloc | apply pw_below_drewN | apply below_drew1)⟩

end Go.Proofs.Ytnfcpcgbdoiiiaa.G

namespace Go.Proofs.Ytnfcpcgbdoiiiaa.G
open Go.RowKit Go.Proofs.YtnfcpcgbdoiiiaaW.PrintWords Go.Proofs.YtnfcpcgbdoiiiaaW.PrintLast Go.Proofs.YtnfcpcgbdoiiiaaW.PrintMore
attribute [local go_sem] max2_int min2_int max_two min_two max_three min_three max_four min_four   -- for this text's walks alone
set_option linter.unusedVariables false
set_option linter.unusedSimpArgs false

def papermillref04_both.f (k : Nat) (l0 : List (S50)) (l1 : List (S50)) (a2 : Int) : Option ((List (S50)) × Int) := (papermillref04_Check.f k l0).bind fun t55001 => (if t55001 = 0 then ((papermillref04_Check.f k l1).bind fun t55002 => (if t55002 = 0 then ((papermillref04_combine.f k l0 l1 a2).bind fun t55003 => (if (t55003.length : Int) > 256 then (some (([] : List (S50)), 8)) else (some (t55003, 0)))) else (some (([] : List (S50)), t55002)))) else (some (([] : List (S50)), t55001)))
theorem papermillref04_both.mono : ∀ a0 a1 a2 k, LeO (papermillref04_both.f k a0 a1 a2) (papermillref04_both.f (k + 1) a0 a1 a2) := by
 intro a0 a1 a2 k
 unfold papermillref04_both.f
 repeat' first
   | (with_reducible exact papermillref04_Check.mono _ _)
   | (with_reducible exact papermillref04_combine.mono _ _ _ _)
   | (with_reducible exact LeO.refl _)
   | (with_reducible exact LeO.none _)
   | (with_reducible refine LeO.ite ?_ ?_)
   | (with_reducible refine LeO.bind ?_ (fun _ => ?_))
   | exact papermillref04_Check.mono _ _
   | exact papermillref04_combine.mono _ _ _ _
   | exact LeO.none _
   | refine LeO.ite ?_ ?_
   | refine LeO.bind ?_ (fun _ => ?_)
set_option maxHeartbeats 8000000 in
set_option maxRecDepth 100000 in
theorem papermillref04_both.calls (k : Nat) (A0 : Option Addr) (c0 : Nat) (l0 : List (S50)) (A1 : Option Addr) (c1 : Nat) (l1 : List (S50)) (a2 : Int) (r1 : List (S50)) (r2 : Int) (w : World) (hr0 : Kd.C k50 w A0 l0.length l0) (hc0 : l0.length ≤ c0) (hr1 : Kd.C k50 w A1 l1.length l1) (hc1 : l1.length ≤ c1) (h : papermillref04_both.f k l0 l1 a2 = some (r1, r2)) :
  Calls Try.prog 54 #[.slice A0 l0.length c0, .slice A1 l1.length c1, .int .i64 a2] w fun e w' => ∃ v0_ : Value, e = .returned (.tuple #[v0_, .int .i64 r2]) ∧ Kd.R k50 50 w' w.heap.size (fun _ => True) v0_ r1 ∧ Below w.heap.size w w' := by
 have HR0 := Aside0.mk hr0
 have HC0 := Aside0.mk hc0
 clear hr0 hc0
 have HR1 := Aside0.mk hr1
 have HC1 := Aside0.mk hc1
 clear hr1 hc1
 have HB := Aside0.mk (Below.refl w.heap.size w)
 have H : ((papermillref04_Check.f k l0).bind fun t55001 => (if t55001 = 0 then ((papermillref04_Check.f k l1).bind fun t55002 => (if t55002 = 0 then ((papermillref04_combine.f k l0 l1 a2).bind fun t55003 => (if (t55003.length : Int) > 256 then (some (([] : List (S50)), 8)) else (some (t55003, 0)))) else (some (([] : List (S50)), t55002)))) else (some (([] : List (S50)), t55001)))) = some (r1, r2) := h
 clear h
 replace H := Option.bind_eq_some_iff.mp H
 obtain ⟨t55001, A40, H⟩ := H
 replace H : (if t55001 = 0 then ((papermillref04_Check.f k l1).bind fun t55002 => (if t55002 = 0 then ((papermillref04_combine.f k l0 l1 a2).bind fun t55003 => (if (t55003.length : Int) > 256 then (some (([] : List (S50)), 8)) else (some (t55003, 0)))) else (some (([] : List (S50)), t55002)))) else (some (([] : List (S50)), t55001))) = some (r1, r2) := H
 have A4 := Aside0.mk A40
 clear A40
 by_cases c5 : t55001 = 0
 ·rw [if_pos c5] at H
  have c5b0 : (t55001 == 0) = true := beq_iff_eq.mpr c5
  have c5b1 : (t55001 != 0) = false := bne_eq_false_iff_eq.mpr c5
  clear c5
  replace H := Option.bind_eq_some_iff.mp H
  obtain ⟨t55002, A60, H⟩ := H
  replace H : (if t55002 = 0 then ((papermillref04_combine.f k l0 l1 a2).bind fun t55003 => (if (t55003.length : Int) > 256 then (some (([] : List (S50)), 8)) else (some (t55003, 0)))) else (some (([] : List (S50)), t55002))) = some (r1, r2) := H
  have A6 := Aside0.mk A60
  clear A60
  by_cases c7 : t55002 = 0
  ·rw [if_pos c7] at H
   have c7b0 : (t55002 == 0) = true := beq_iff_eq.mpr c7
   have c7b1 : (t55002 != 0) = false := bne_eq_false_iff_eq.mpr c7
   clear c7
   replace H := Option.bind_eq_some_iff.mp H
   obtain ⟨t55003, A80, H⟩ := H
   replace H : (if (t55003.length : Int) > 256 then (some (([] : List (S50)), 8)) else (some (t55003, 0))) = some (r1, r2) := H
   have A8 := Aside0.mk A80
   clear A80
   by_cases c9 : (t55003.length : Int) > 256
   ·rw [if_pos c9] at H
    have c9b0 : decide (256 < (t55003.length : Int)) = true := decide_eq_true c9
    have c9b1 : decide (256 < t55003.length) = true := decide_eq_true (by omega)
    clear c9
    simp only [Option.some.injEq, Prod.mk.injEq] at H
    obtain ⟨rfl, rfl⟩ := H
    go_enter Try.func54, Try.ntmps54
    go_wp2_with (first | ((with_reducible refine gate_callee (f := 36) rfl ?_); refine goesL_ (some 12) rfl rfl Try.func36 (by kernel_rfl) rfl #[.slice A0 l0.length c0] rfl (by (try simp only [List.map_toArray, List.map_cons, List.map_nil]); first | done | rfl | (simp only [List.length_drop, List.length_take]; rfl)) ?_; (with_reducible refine (papermillref04_Check.calls k _ _ l0 t55001 _ ?side1 ?side2 A4.out).mono ?_); (case side1 => exact HR0.out); (case side2 => exact HC0.out); rintro e w' ⟨rfl, ⟨nd, rfl⟩⟩; refine ⟨_, rfl, ?_⟩) | ((with_reducible refine gate_callee (f := 36) rfl ?_); refine goesL_ (some 17) rfl rfl Try.func36 (by kernel_rfl) rfl #[.slice A1 l1.length c1] rfl (by (try simp only [List.map_toArray, List.map_cons, List.map_nil]); first | done | rfl | (simp only [List.length_drop, List.length_take]; rfl)) ?_; (with_reducible refine (papermillref04_Check.calls k _ _ l1 t55002 _ ?side1 ?side2 A6.out).mono ?_); (case side1 => exact HR1.out); (case side2 => exact HC1.out); rintro e w' ⟨rfl, ⟨nd, rfl⟩⟩; refine ⟨_, rfl, ?_⟩) | ((with_reducible refine gate_callee (f := 63) rfl ?_); refine goesL_ (some 24) rfl rfl Try.func63 (by kernel_rfl) rfl #[.slice A0 l0.length c0, .slice A1 l1.length c1, .int .i64 a2] rfl (by (try simp only [List.map_toArray, List.map_cons, List.map_nil]); first | done | rfl | (simp only [List.length_drop, List.length_take]; rfl)) ?_; (with_reducible refine (papermillref04_combine.calls k _ _ l0 _ _ l1 a2 t55003 _ ?side1 ?side2 ?side3 ?side4 A8.out).mono ?_); (case side1 => exact HR0.out); (case side2 => exact HC0.out); (case side3 => exact HR1.out); (case side4 => exact HC1.out); rintro e w10 ⟨v55004, rfl, ho0, hb⟩; refine ⟨_, rfl, ?_⟩; have n0_ := Aside0.mk (Kd.R_lower ho0 (below_size (by repeat (first | exact HB.out | apply below_alloc | apply pw_below_drewN | apply below_drew1)))); have n1_ := Aside0.mk (below_step (by repeat (first | exact HB.out | apply below_alloc | apply pw_below_drewN | apply below_drew1)) hb); clear HB; have HO55005 := n0_; have HB := n1_; clear n0_ n1_; (try clear hb); (try clear hb2); (try clear hk); (try clear hi); (try clear ho0); obtain ⟨Ao11, co11, eo11⟩ := Kd.R_slice HO55005.out; subst eo11))
    go_ret2
    exact ⟨_, by first | rfl | (simp [errW_none, errW_some] <;> rfl) | (simp [*, errW_none, errW_some] <;> rfl), by first | exact Kd.R_nil _ _ _ _ _ | exact Kd.N_nil _ _ _ _ _ | exact Kd.V_nil _ _ _ _ _ | exact Kd.Q_nil _ _ _ _ _ | exact Kd.S_nil _ _ _ _ _, by repeat (first | exact HB.out | apply below_alloc | apply pw_below_drewN | apply below_drew1)⟩
   ·rw [if_neg c9] at H
    have c9b0 : decide (256 < (t55003.length : Int)) = false := decide_eq_false c9
    have c9b1 : decide (256 < t55003.length) = false := decide_eq_false (by omega)
    clear c9
    simp only [Option.some.injEq, Prod.mk.injEq] at H
    obtain ⟨rfl, rfl⟩ := H
    go_enter Try.func54, Try.ntmps54
    go_wp2_with (first | ((with_reducible refine gate_callee (f := 36) rfl ?_); refine goesL_ (some 12) rfl rfl Try.func36 (by kernel_rfl) rfl #[.slice A0 l0.length c0] rfl (by (try simp only [List.map_toArray, List.map_cons, List.map_nil]); first | done | rfl | (simp only [List.length_drop, List.length_take]; rfl)) ?_; (with_reducible refine (papermillref04_Check.calls k _ _ l0 t55001 _ ?side1 ?side2 A4.out).mono ?_); (case side1 => exact HR0.out); (case side2 => exact HC0.out); rintro e w' ⟨rfl, ⟨nd, rfl⟩⟩; refine ⟨_, rfl, ?_⟩) | ((with_reducible refine gate_callee (f := 36) rfl ?_); refine goesL_ (some 17) rfl rfl Try.func36 (by kernel_rfl) rfl #[.slice A1 l1.length c1] rfl (by (try simp only [List.map_toArray, List.map_cons, List.map_nil]); first | done | rfl | (simp only [List.length_drop, List.length_take]; rfl)) ?_; (with_reducible refine (papermillref04_Check.calls k _ _ l1 t55002 _ ?side1 ?side2 A6.out).mono ?_); (case side1 => exact HR1.out); (case side2 => exact HC1.out); rintro e w' ⟨rfl, ⟨nd, rfl⟩⟩; refine ⟨_, rfl, ?_⟩) | ((with_reducible refine gate_callee (f := 63) rfl ?_); refine goesL_ (some 24) rfl rfl Try.func63 (by kernel_rfl) rfl #[.slice A0 l0.length c0, .slice A1 l1.length c1, .int .i64 a2] rfl (by (try simp only [List.map_toArray, List.map_cons, List.map_nil]); first | done | rfl | (simp only [List.length_drop, List.length_take]; rfl)) ?_; (with_reducible refine (papermillref04_combine.calls k _ _ l0 _ _ l1 a2 t55003 _ ?side1 ?side2 ?side3 ?side4 A8.out).mono ?_); (case side1 => exact HR0.out); (case side2 => exact HC0.out); (case side3 => exact HR1.out); (case side4 => exact HC1.out); rintro e w12 ⟨v55004, rfl, ho0, hb⟩; refine ⟨_, rfl, ?_⟩; have n0_ := Aside0.mk (Kd.R_lower ho0 (below_size (by repeat (first | exact HB.out | apply below_alloc | apply pw_below_drewN | apply below_drew1)))); have n1_ := Aside0.mk (below_step (by repeat (first | exact HB.out | apply below_alloc | apply pw_below_drewN | apply below_drew1)) hb); clear HB; have HO55005 := n0_; have HB := n1_; clear n0_ n1_; (try clear hb); (try clear hb2); (try clear hk); (try clear hi); (try clear ho0); obtain ⟨Ao13, co13, eo13⟩ := Kd.R_slice HO55005.out; subst eo13))
    go_ret2
    exact ⟨_, by first | rfl | (simp [errW_none, errW_some] <;> rfl) | (simp [*, errW_none, errW_some] <;> rfl), by exact HO55005.out, by repeat (first | exact HB.out | apply below_alloc | apply pw_below_drewN | apply below_drew1)⟩
  ·rw [if_neg c7] at H
   have c7b0 : (t55002 == 0) = false := beq_eq_false_iff_ne.mpr c7
   have c7b1 : (t55002 != 0) = true := bne_iff_ne.mpr c7
   simp only [Option.some.injEq, Prod.mk.injEq] at H
   obtain ⟨rfl, rfl⟩ := H
   go_enter Try.func54, Try.ntmps54
   go_wp2_with (first | ((with_reducible refine gate_callee (f := 36) rfl ?_); refine goesL_ (some 12) rfl rfl Try.func36 (by kernel_rfl) rfl #[.slice A0 l0.length c0] rfl (by (try simp only [List.map_toArray, List.map_cons, List.map_nil]); first | done | rfl | (simp only [List.length_drop, List.length_take]; rfl)) ?_; (with_reducible refine (papermillref04_Check.calls k _ _ l0 t55001 _ ?side1 ?side2 A4.out).mono ?_); (case side1 => exact HR0.out); (case side2 => exact HC0.out); rintro e w' ⟨rfl, ⟨nd, rfl⟩⟩; refine ⟨_, rfl, ?_⟩) | ((with_reducible refine gate_callee (f := 36) rfl ?_); refine goesL_ (some 17) rfl rfl Try.func36 (by kernel_rfl) rfl #[.slice A1 l1.length c1] rfl (by (try simp only [List.map_toArray, List.map_cons, List.map_nil]); first | done | rfl | (simp only [List.length_drop, List.length_take]; rfl)) ?_; (with_reducible refine (papermillref04_Check.calls k _ _ l1 t55002 _ ?side1 ?side2 A6.out).mono ?_); (case side1 => exact HR1.out); (case side2 => exact HC1.out); rintro e w' ⟨rfl, ⟨nd, rfl⟩⟩; refine ⟨_, rfl, ?_⟩))
   go_ret2
   exact ⟨_, by first | rfl | (simp [errW_none, errW_some] <;> rfl) | (simp [*, errW_none, errW_some] <;> rfl), by first | exact Kd.R_nil _ _ _ _ _ | exact Kd.N_nil _ _ _ _ _ | exact Kd.V_nil _ _ _ _ _ | exact Kd.Q_nil _ _ _ _ _ | exact Kd.S_nil _ _ _ _ _, by repeat (first | exact HB.out | apply below_alloc | apply pw_below_drewN | apply below_drew1)⟩
 ·rw [if_neg c5] at H
  have c5b0 : (t55001 == 0) = false := beq_eq_false_iff_ne.mpr c5
  have c5b1 : (t55001 != 0) = true := bne_iff_ne.mpr c5
  simp only [Option.some.injEq, Prod.mk.injEq] at H
  obtain ⟨rfl, rfl⟩ := H
  go_enter Try.func54, Try.ntmps54
  go_wp2_with (first | ((with_reducible refine gate_callee (f := 36) rfl ?_); refine goesL_ (some 12) rfl rfl Try.func36 (by kernel_rfl) rfl #[.slice A0 l0.length c0] rfl (by (try simp only [List.map_toArray, List.map_cons, List.map_nil]); first | done | rfl | (simp only [List.length_drop, List.length_take]; rfl)) ?_; (with_reducible refine (papermillref04_Check.calls k _ _ l0 t55001 _ ?side1 ?side2 A4.out).mono ?_); (case side1 => exact HR0.out); (case side2 => exact HC0.out); rintro e w' ⟨rfl, ⟨nd, rfl⟩⟩; refine ⟨_, rfl, ?_⟩))
  go_ret2
  exact ⟨_, by first | rfl | (simp [errW_none, errW_some] <;> rfl) | (simp [*, errW_none, errW_some] <;> rfl), by first | exact Kd.R_nil _ _ _ _ _ | exact Kd.N_nil _ _ _ _ _ | exact Kd.V_nil _ _ _ _ _ | exact Kd.Q_nil _ _ _ _ _ | exact Kd.S_nil _ _ _ _ _, by repeat (first | exact HB.out | apply below_alloc | apply pw_below_drewN | apply below_drew1)⟩

end Go.Proofs.Ytnfcpcgbdoiiiaa.G

namespace Go.Proofs.Ytnfcpcgbdoiiiaa.G
open Go.RowKit Go.Proofs.YtnfcpcgbdoiiiaaW.PrintWords Go.Proofs.YtnfcpcgbdoiiiaaW.PrintLast Go.Proofs.YtnfcpcgbdoiiiaaW.PrintMore
set_option linter.unusedVariables false
set_option linter.unusedSimpArgs false
theorem with_l0 (l : List Int) (n : Int) (hl : l.length < 1000000) : ∀ (d i : Nat), l.length - i = d → i ≤ l.length → Ends (fun k => papermillref04_with.l0 k l n (i : Int)) (l.take i ++ withOf (l.drop i) n) := by
  intro d
  induction d with
  | zero =>
    intro i hd hi
    rw [List.drop_of_length_le (by omega)]
    refine Ends.succ ?_
    simp only [papermillref04_with.l0, Option.bind_some, Int.toNat_natCast, List.nil_append]
    refine Ends.neg (by omega) (Ends.pos (by omega) (Ends.pos (by omega) (Ends.pos (by simp only [List.length_nil, List.length_take]; omega) (Ends.pos (by simp only [List.length_append, List.length_take]; omega) (Ends.pos (by simp only [List.length_append, List.length_take, List.length_drop, List.length_cons, List.length_nil]; omega) ?_)))))
    rw [List.drop_of_length_le (l := l) (i := i) (by omega)]
    simpa [withOf] using Ends.ret _
  | succ d ih =>
    intro i hd hi
    have hlen := List.length_drop (i := i) (l := l)
    rw [dropI l i (by omega)] at hlen
    rw [dropI l i (by omega)]
    refine Ends.succ ?_
    simp only [papermillref04_with.l0, Option.bind_some, Int.toNat_natCast, List.nil_append, wrap_nat i (by omega)]
    refine Ends.pos (by omega) (Ends.pos (by omega) ?_)
    by_cases h1 : rd l i < n
    · refine Ends.pos h1 ?_
      have := ih (i + 1) (by omega) (by omega)
      rw [List.take_succ_eq_append_getElem (by omega), ← rdI l i (by omega)] at this
      simpa [withOf, h1] using this
    · refine Ends.neg h1 ?_
      by_cases h2 : rd l i = n
      · refine Ends.pos h2 ?_
        have e : l.take i ++ withOf (rd l i :: l.drop (i + 1)) n = l := by
          rw [withOf, if_neg h1, if_pos h2, ← dropI l i (by omega), List.take_append_drop]
        rw [e]; exact Ends.ret _
      · refine Ends.neg h2 (Ends.pos (by omega) (Ends.pos (by simp only [List.length_nil, List.length_take]; omega) (Ends.pos (by simp only [List.length_take]; omega) (Ends.pos (by simp only [List.length_append, List.length_take, List.length_drop, List.length_cons, List.length_nil]; omega) ?_))))
        rw [withOf, if_neg h1, if_neg h2, ← dropI l i (by omega)]
        simpa using Ends.ret _
theorem with_ends (l : List Int) (n : Int) (hl : l.length < 1000000) : Ends (fun k => papermillref04_with.f k l n) (withOf l n) := by
  simpa [papermillref04_with.f] using with_l0 l n hl l.length 0 rfl (Nat.zero_le _)
theorem ends_l1 (b : List S50) (hb : b.length ≤ 256) : ∀ (d i : Nat) (o : List Int), b.length - i = d → i ≤ b.length → o.length + 2 * d < 1000000 → Ends (fun k => papermillref04_ends.l1 k b o (i : Int)) ((b.drop i).foldl endStep o) := by
  intro d
  induction d with
  | zero =>
    intro i o hd hi ho
    rw [List.drop_of_length_le (by omega)]
    refine Ends.succ ?_
    simp only [papermillref04_ends.l1]
    exact Ends.neg (by omega) (Ends.ret _)
  | succ d ih =>
    intro i o hd hi ho
    rw [drop36 b i (by omega), List.foldl_cons]
    refine Ends.succ ?_
    simp only [papermillref04_ends.l1, wrap_nat i (by omega)]
    have h1 := withOf_len o (rd_T50 b i).f0
    have h2 := endStep_len o (rd_T50 b i)
    exact Ends.pos (by omega) (Ends.pos (by omega) (Ends.bind (with_ends _ _ (by omega)) (Ends.bind (with_ends _ _ (by omega)) (ih (i + 1) _ (by omega) (by omega) (by show (endStep o (rd_T50 b i)).length + _ < _; omega)))))
theorem ends_l0 (a b : List S50) (ha : a.length ≤ 256) (hb : b.length ≤ 256) : ∀ (d i : Nat) (o : List Int), a.length - i = d → i ≤ a.length → o.length + 2 * d < 900000 → Ends (fun k => papermillref04_ends.l0 k a b o (i : Int)) (b.foldl endStep ((a.drop i).foldl endStep o)) := by
  intro d
  induction d with
  | zero =>
    intro i o hd hi ho
    rw [List.drop_of_length_le (by omega)]
    refine Ends.succ ?_
    simp only [papermillref04_ends.l0]
    exact Ends.neg (by omega) (by simpa using ends_l1 b hb b.length 0 o rfl (Nat.zero_le _) (by omega))
  | succ d ih =>
    intro i o hd hi ho
    rw [drop36 a i (by omega), List.foldl_cons]
    refine Ends.succ ?_
    simp only [papermillref04_ends.l0, wrap_nat i (by omega)]
    have h1 := withOf_len o (rd_T50 a i).f0
    have h2 := endStep_len o (rd_T50 a i)
    exact Ends.pos (by omega) (Ends.pos (by omega) (Ends.bind (with_ends _ _ (by omega)) (Ends.bind (with_ends _ _ (by omega)) (ih (i + 1) _ (by omega) (by omega) (by show (endStep o (rd_T50 a i)).length + _ < _; omega)))))
theorem ends_ends (a b : List S50) (ha : a.length ≤ 256) (hb : b.length ≤ 256) : Ends (fun k => papermillref04_ends.f k a b) (endsOf a b) := by
  simpa [papermillref04_ends.f, endsOf] using ends_l0 a b ha hb a.length 0 [] rfl (Nat.zero_le _) (by simp; omega)
theorem has_l0 (l : List S50) (x : Int) (hl : l.length < 1000000) : ∀ (d i : Nat), l.length - i = d → i ≤ l.length → Ends (fun k => papermillref04_Has.l0 k l x (i : Int)) (hasOf (l.drop i) x) := by
  intro d
  induction d with
  | zero =>
    intro i hd hi
    rw [List.drop_of_length_le (by omega)]
    refine Ends.succ ?_
    simp only [papermillref04_Has.l0]
    exact Ends.neg (by omega) (Ends.ret _)
  | succ d ih =>
    intro i hd hi
    have := ih (i + 1) (by omega) (by omega)
    rw [drop36 l i (by omega)]
    refine Ends.succ ?_
    simp only [papermillref04_Has.l0, wrap_nat i (by omega)]
    refine Ends.pos (by omega) (Ends.pos (by omega) ?_)
    by_cases h1 : (rd_T50 l i).f0 ≤ x
    · refine Ends.pos h1 ?_
      by_cases h2 : x < (rd_T50 l i).f1
      · refine Ends.pos h2 ?_
        simpa [hasOf, h1, h2] using Ends.ret true
      · refine Ends.neg h2 ?_
        simpa [hasOf, h1, h2] using this
    · refine Ends.neg h1 ?_
      simpa [hasOf, h1] using this
theorem has_ends (l : List S50) (x : Int) (hl : l.length < 1000000) : Ends (fun k => papermillref04_Has.f k l x) (hasOf l x) := by
  simpa [papermillref04_Has.f] using has_l0 l x hl l.length 0 rfl (Nat.zero_le _)

theorem getLast_rd (out : List S50) (h : out.length ≠ 0) : out.getLast? = some (rd_T50 out ((out.length - 1 : Nat) : Int)) := by
  rw [List.getLast?_eq_getElem?, rd36 _ _ (by omega), List.getElem?_eq_getElem (by omega)]
theorem dropLast_set (out : List S50) (h : out.length ≠ 0) (y : S50) : out.set (out.length - 1) y = out.dropLast ++ [y] := by
  obtain ⟨d, x, rfl⟩ : ∃ d x, out = d ++ [x] := ⟨out.dropLast, out.getLast (fun e => h (by rw [e]; rfl)), (List.dropLast_concat_getLast _).symm⟩
  rw [List.dropLast_concat, List.length_append]
  simp
theorem comb_j1 (a b : List S50) (w : Int) (cuts : List Int) (i : Nat) (out : List S50) (hi : i + 1 < cuts.length) (hc : cuts.length < 1000000) (ho : out.length < 1000000) (sk : Bool) (r : List S50)
    (h : Ends (fun k => papermillref04_combine.l0 k a b w cuts (if sk = true then out else push out (rd cuts i) (rd cuts (i + 1 : Nat))) ((i + 1 : Nat) : Int)) r) :
    Ends (fun k => papermillref04_combine.j1 k a b w cuts out (i : Int) sk) r := by
  refine Ends.succ ?_
  simp only [papermillref04_combine.j1, wrap_nat i (by omega)]
  cases sk with
  | true => exact Ends.pos rfl (by simpa using h)
  | false =>
    refine Ends.neg (by simp) ?_
    simp only [Bool.false_eq_true, if_false] at h
    by_cases h0 : out.length = 0
    · have e : out = [] := List.length_eq_zero_iff.1 h0
      subst e
      have e2 : push [] (rd cuts i) (rd cuts (i + 1 : Nat)) = [⟨rd cuts i, rd cuts (i + 1 : Nat)⟩] := rfl
      rw [e2] at h
      exact Ends.neg (by simp [wrap64]) (Ends.pos (by omega) (Ends.pos (by omega) (Ends.pos (by omega) (Ends.pos (by omega) (Ends.pos (by omega) h)))))
    · have hw : wrap64 ((out.length : Int) - 1) = ((out.length - 1 : Nat) : Int) := by unfold wrap64; omega
      have hl := getLast_rd out h0
      simp only [hw, Int.toNat_natCast]
      refine Ends.pos (by omega) (Ends.pos (by omega) (Ends.pos (by omega) (Ends.pos (by omega) (Ends.pos (by omega) ?_))))
      by_cases h1 : (rd_T50 out ((out.length - 1 : Nat) : Int)).f1 = rd cuts i
      · refine Ends.pos h1 (Ends.pos (by omega) (Ends.pos (by omega) ?_))
        rw [dropLast_set out h0]
        simpa [push, hl, h1] using h
      · refine Ends.neg h1 (Ends.pos (by omega) (Ends.pos (by omega) (Ends.pos (by omega) ?_)))
        simpa [push, hl, h1] using h
theorem comb_l0 (a b : List S50) (ha : a.length ≤ 256) (hb : b.length ≤ 256) (w : Int) (hw : w = 0 ∨ w = 1 ∨ w = 2) (cuts : List Int) (hc : cuts.length < 10000) : ∀ (d i : Nat) (out : List S50), cuts.length - i = d → i ≤ cuts.length → out.length + d < 900000 → Ends (fun k => papermillref04_combine.l0 k a b w cuts out (i : Int)) (combGo a b w out (cuts.drop i)) := by
  intro d
  induction d with
  | zero =>
    intro i out hd hi ho
    rw [List.drop_of_length_le (by omega)]
    refine Ends.succ ?_
    simp only [papermillref04_combine.l0, wrap_nat i (by omega)]
    exact Ends.neg (by omega) (Ends.ret _)
  | succ d ih =>
    intro i out hd hi ho
    by_cases h1 : i + 1 < cuts.length
    · rw [dropI cuts i (by omega), dropI cuts (i + 1) h1]
      refine Ends.succ ?_
      simp only [papermillref04_combine.l0, wrap_nat i (by omega)]
      refine Ends.pos (by omega) (Ends.pos (by omega) (Ends.pos (by omega) (Ends.bind (has_ends a _ (by omega)) (Ends.bind (has_ends b _ (by omega)) ?_))))
      have hp := push_len out (rd cuts i) (rd cuts (i + 1 : Nat))
      have hj := comb_j1 a b w cuts i out h1 (by omega) (by omega) (skips w (hasOf a (rd cuts i)) (hasOf b (rd cuts i))) _ (ih (i + 1) _ (by omega) (by omega) (by split <;> omega))
      rw [dropI cuts (i + 1) h1] at hj
      rw [combGo]
      revert hj
      generalize hasOf a (rd cuts i) = p
      generalize hasOf b (rd cuts i) = q
      intro hj
      rcases hw with rfl | rfl | rfl <;> cases p <;> cases q <;> simpa [skips] using hj
    · refine Ends.succ ?_
      simp only [papermillref04_combine.l0, wrap_nat i (by omega)]
      rw [dropI cuts i (by omega), List.drop_of_length_le (l := cuts) (i := i + 1) (by omega)]
      exact Ends.neg (by omega) (Ends.ret _)
theorem comb_ends (a b : List S50) (ha : a.length ≤ 256) (hb : b.length ≤ 256) (w : Int) (hw : w = 0 ∨ w = 1 ∨ w = 2) : Ends (fun k => papermillref04_combine.f k a b w) (combOf a b w) := by
  have h := endsOf_len a b
  unfold papermillref04_combine.f combOf
  exact Ends.bind (ends_ends a b ha hb) (by simpa using comb_l0 a b ha hb w hw (endsOf a b) (by omega) (endsOf a b).length 0 [] rfl (Nat.zero_le _) (by simp; omega))
theorem check_l0 (l : List S50) (hl : l.length ≤ 256) : ∀ (d i : Nat), l.length - i = d → i ≤ l.length → Ends (fun k => papermillref04_Check.l0 k l (i : Int)) (if ∃ s ∈ l.drop i, badS s then 1 else 0) := by
  intro d
  induction d with
  | zero =>
    intro i hd hi
    rw [List.drop_of_length_le (by omega)]
    refine Ends.succ ?_
    simp only [papermillref04_Check.l0]
    exact Ends.neg (by omega) (by simpa using Ends.ret (0 : Int))
  | succ d ih =>
    intro i hd hi
    have := ih (i + 1) (by omega) (by omega)
    rw [drop36 l i (by omega)]
    refine Ends.succ ?_
    simp only [papermillref04_Check.l0, wrap_nat i (by omega)]
    refine Ends.pos (by omega) (Ends.pos (by omega) ?_)
    by_cases hb : badS (rd_T50 l i)
    · rw [if_pos ⟨_, by simp, hb⟩]
      unfold badS at hb
      by_cases h1 : (rd_T50 l i).f0 < 0
      · exact Ends.pos h1 (Ends.ret _)
      · refine Ends.neg h1 ?_
        by_cases h2 : (rd_T50 l i).f0 > (rd_T50 l i).f1
        · exact Ends.pos h2 (Ends.ret _)
        · exact Ends.neg h2 (Ends.pos (by omega) (Ends.ret _))
    · have e : (∃ s ∈ rd_T50 l i :: l.drop (i + 1), badS s) ↔ ∃ s ∈ l.drop (i + 1), badS s := by
        constructor
        · rintro ⟨s, hs, k⟩
          rcases List.mem_cons.1 hs with rfl | hs
          · exact absurd k hb
          · exact ⟨s, hs, k⟩
        · rintro ⟨s, hs, k⟩; exact ⟨s, by simp [hs], k⟩
      simp only [e]
      unfold badS at hb
      exact Ends.neg (by omega) (Ends.neg (by omega) (Ends.neg (by omega) this))
theorem check04_ends (l : List S50) : Ends (fun k => papermillref04_Check.f k l) (check04 l) := by
  simp only [papermillref04_Check.f, check04]
  by_cases h : l.length > 256
  · rw [if_pos h]; exact Ends.pos (by omega) (Ends.ret _)
  · rw [if_neg h]; exact Ends.neg (by omega) (by simpa using check_l0 l (by omega) l.length 0 rfl (Nat.zero_le _))
theorem both_ends (a b : List S50) (w : Int) (hw : w = 0 ∨ w = 1 ∨ w = 2) : Ends (fun k => papermillref04_both.f k a b w) (bothOf a b w) := by
  unfold papermillref04_both.f bothOf
  refine Ends.bind (check04_ends a) ?_
  by_cases h1 : check04 a = 0
  · rw [if_pos h1]; refine Ends.pos h1 (Ends.bind (check04_ends b) ?_)
    by_cases h2 : check04 b = 0
    · rw [if_pos h2]; refine Ends.pos h2 (Ends.bind (comb_ends a b (check04_zero h1).1 (check04_zero h2).1 w hw) ?_)
      by_cases h3 : (combOf a b w).length > 256
      · rw [if_pos h3]; exact Ends.pos (by omega) (Ends.ret _)
      · rw [if_neg h3]; exact Ends.neg (by omega) (Ends.ret _)
    · rw [if_neg h2]; exact Ends.neg h2 (Ends.ret _)
  · rw [if_neg h1]; exact Ends.neg h1 (Ends.ret _)
end Go.Proofs.Ytnfcpcgbdoiiiaa.G

namespace Go.Proofs.Ytnfcpcgbdoiiiaa.G
open Go.RowKit Go.Proofs.YtnfcpcgbdoiiiaaW.PrintWords Go.Proofs.YtnfcpcgbdoiiiaaW.PrintLast Go.Proofs.YtnfcpcgbdoiiiaaW.PrintMore
attribute [local go_sem] max2_int min2_int max_two min_two max_three min_three max_four min_four   -- for this text's walks alone
set_option linter.unusedVariables false
set_option linter.unusedSimpArgs false

def papermillref04_Norm.f (k : Nat) (l0 : List (S50)) : Option ((List (S50)) × Int) := (papermillref04_both.f k l0 ([] : List (S50)) 0).bind fun bt58001 => (some (bt58001.1, bt58001.2))
theorem papermillref04_Norm.mono : ∀ a0 k, LeO (papermillref04_Norm.f k a0) (papermillref04_Norm.f (k + 1) a0) := by
  intro a0 k
  unfold papermillref04_Norm.f
  repeat' first
      | (with_reducible exact papermillref04_both.mono _ _ _ _)
      | (with_reducible exact LeO.refl _)
      | (with_reducible exact LeO.none _)
      | (with_reducible refine LeO.ite ?_ ?_)
      | (with_reducible refine LeO.bind ?_ (fun _ => ?_))
      | exact papermillref04_both.mono _ _ _ _
      | exact LeO.none _
      | refine LeO.ite ?_ ?_
      | refine LeO.bind ?_ (fun _ => ?_)
set_option maxHeartbeats 8000000 in
set_option maxRecDepth 100000 in
theorem papermillref04_Norm.calls (k : Nat) (A0 : Option Addr) (c0 : Nat) (l0 : List (S50)) (r1 : List (S50)) (r2 : Int) (w : World) (hr0 : Kd.C k50 w A0 l0.length l0) (hc0 : l0.length ≤ c0) (h : papermillref04_Norm.f k l0 = some (r1, r2)) :
    Calls Try.prog 57 #[.slice A0 l0.length c0] w fun e w' => ∃ v0_ : Value, e = .returned (.tuple #[v0_, .int .i64 r2]) ∧ Kd.R k50 50 w' w.heap.size (fun _ => True) v0_ r1 ∧ Below w.heap.size w w' := by
  have HR0 := Aside0.mk hr0
  have HC0 := Aside0.mk hc0
  clear hr0 hc0
  have HB := Aside0.mk (Below.refl w.heap.size w)
  have H : ((papermillref04_both.f k l0 ([] : List (S50)) 0).bind fun bt58001 => (some (bt58001.1, bt58001.2))) = some (r1, r2) := h
  clear h
  replace H := Option.bind_eq_some_iff.mp H
  obtain ⟨⟨t58001, t58002⟩, A20, H⟩ := H
  replace H : (some (t58001, t58002)) = some (r1, r2) := H
  have A2 := Aside0.mk A20
  clear A20
  simp only [Option.some.injEq, Prod.mk.injEq] at H
  obtain ⟨rfl, rfl⟩ := H
  go_enter Try.func57, Try.ntmps57
  go_wp2_with (first | ((with_reducible refine gate_callee (f := 54) rfl ?_); refine goesL_ (some 5) rfl rfl Try.func54 (by kernel_rfl) rfl #[.slice A0 l0.length c0, .slice none 0 0, .int .i64 0] rfl (by (try simp only [List.map_toArray, List.map_cons, List.map_nil]); first | done | rfl | (simp only [List.length_drop, List.length_take]; rfl)) ?_; (refine (papermillref04_both.calls k _ _ l0 _ _ ([] : List (S50)) 0 t58001 t58002 _ ?side1 ?side2 ?side3 ?side4 A2.out).mono ?_); (case side1 => exact HR0.out); (case side2 => exact HC0.out); (case side3 => exact Kd.C_nil _ _); (case side4 => exact Nat.le_refl _); rintro e w3 ⟨v58003, rfl, ho0, hb⟩; refine ⟨_, rfl, ?_⟩; have n0_ := Aside0.mk (Kd.R_lower ho0 (below_size (by repeat (first | exact HB.out | apply below_alloc | apply pw_below_drewN | apply below_drew1)))); have n1_ := Aside0.mk (below_step (by repeat (first | exact HB.out | apply below_alloc | apply pw_below_drewN | apply below_drew1)) hb); clear HB; have HO58004 := n0_; have HB := n1_; clear n0_ n1_; (try clear hb); (try clear hb2); (try clear hk); (try clear hi); (try clear ho0)))
  go_ret2
  exact ⟨_, by first | rfl | (simp [errW_none, errW_some] <;> rfl) | (simp [*, errW_none, errW_some] <;> rfl), by exact HO58004.out, by repeat (first | exact HB.out | apply below_alloc | apply pw_below_drewN | apply below_drew1)⟩

end Go.Proofs.Ytnfcpcgbdoiiiaa.G

namespace Go.Proofs.Ytnfcpcgbdoiiiaa.G
open Go.RowKit Go.Proofs.YtnfcpcgbdoiiiaaW.PrintWords Go.Proofs.YtnfcpcgbdoiiiaaW.PrintLast Go.Proofs.YtnfcpcgbdoiiiaaW.PrintMore
attribute [local go_sem] max2_int min2_int max_two min_two max_three min_three max_four min_four   -- for this text's walks alone
set_option linter.unusedVariables false
set_option linter.unusedSimpArgs false

def papermillref04_Common.f (k : Nat) (l0 : List (S50)) (l1 : List (S50)) : Option ((List (S50)) × Int) := (papermillref04_both.f k l0 l1 1).bind fun bt43001 => (some (bt43001.1, bt43001.2))
theorem papermillref04_Common.mono : ∀ a0 a1 k, LeO (papermillref04_Common.f k a0 a1) (papermillref04_Common.f (k + 1) a0 a1) := by
  intro a0 a1 k
  unfold papermillref04_Common.f
  repeat' first
      | (with_reducible exact papermillref04_both.mono _ _ _ _)
      | (with_reducible exact LeO.refl _)
      | (with_reducible exact LeO.none _)
      | (with_reducible refine LeO.ite ?_ ?_)
      | (with_reducible refine LeO.bind ?_ (fun _ => ?_))
      | exact papermillref04_both.mono _ _ _ _
      | exact LeO.none _
      | refine LeO.ite ?_ ?_
      | refine LeO.bind ?_ (fun _ => ?_)
set_option maxHeartbeats 8000000 in
set_option maxRecDepth 100000 in
theorem papermillref04_Common.calls (k : Nat) (A0 : Option Addr) (c0 : Nat) (l0 : List (S50)) (A1 : Option Addr) (c1 : Nat) (l1 : List (S50)) (r1 : List (S50)) (r2 : Int) (w : World) (hr0 : Kd.C k50 w A0 l0.length l0) (hc0 : l0.length ≤ c0) (hr1 : Kd.C k50 w A1 l1.length l1) (hc1 : l1.length ≤ c1) (h : papermillref04_Common.f k l0 l1 = some (r1, r2)) :
    Calls Try.prog 42 #[.slice A0 l0.length c0, .slice A1 l1.length c1] w fun e w' => ∃ v0_ : Value, e = .returned (.tuple #[v0_, .int .i64 r2]) ∧ Kd.R k50 50 w' w.heap.size (fun _ => True) v0_ r1 ∧ Below w.heap.size w w' := by
  have HR0 := Aside0.mk hr0
  have HC0 := Aside0.mk hc0
  clear hr0 hc0
  have HR1 := Aside0.mk hr1
  have HC1 := Aside0.mk hc1
  clear hr1 hc1
  have HB := Aside0.mk (Below.refl w.heap.size w)
  have H : ((papermillref04_both.f k l0 l1 1).bind fun bt43001 => (some (bt43001.1, bt43001.2))) = some (r1, r2) := h
  clear h
  replace H := Option.bind_eq_some_iff.mp H
  obtain ⟨⟨t43001, t43002⟩, A30, H⟩ := H
  replace H : (some (t43001, t43002)) = some (r1, r2) := H
  have A3 := Aside0.mk A30
  clear A30
  simp only [Option.some.injEq, Prod.mk.injEq] at H
  obtain ⟨rfl, rfl⟩ := H
  go_enter Try.func42, Try.ntmps42
  go_wp2_with (first | ((with_reducible refine gate_callee (f := 54) rfl ?_); refine goesL_ (some 8) rfl rfl Try.func54 (by kernel_rfl) rfl #[.slice A0 l0.length c0, .slice A1 l1.length c1, .int .i64 1] rfl (by (try simp only [List.map_toArray, List.map_cons, List.map_nil]); first | done | rfl | (simp only [List.length_drop, List.length_take]; rfl)) ?_; (with_reducible refine (papermillref04_both.calls k _ _ l0 _ _ l1 1 t43001 t43002 _ ?side1 ?side2 ?side3 ?side4 A3.out).mono ?_); (case side1 => exact HR0.out); (case side2 => exact HC0.out); (case side3 => exact HR1.out); (case side4 => exact HC1.out); rintro e w4 ⟨v43003, rfl, ho0, hb⟩; refine ⟨_, rfl, ?_⟩; have n0_ := Aside0.mk (Kd.R_lower ho0 (below_size (by repeat (first | exact HB.out | apply below_alloc | apply pw_below_drewN | apply below_drew1)))); have n1_ := Aside0.mk (below_step (by repeat (first | exact HB.out | apply below_alloc | apply pw_below_drewN | apply below_drew1)) hb); clear HB; have HO43004 := n0_; have HB := n1_; clear n0_ n1_; (try clear hb); (try clear hb2); (try clear hk); (try clear hi); (try clear ho0)))
  go_ret2
  exact ⟨_, by first | rfl | (simp [errW_none, errW_some] <;> rfl) | (simp [*, errW_none, errW_some] <;> rfl), by exact HO43004.out, by repeat (first | exact HB.out | apply below_alloc | apply pw_below_drewN | apply below_drew1)⟩

end Go.Proofs.Ytnfcpcgbdoiiiaa.G
