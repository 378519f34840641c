import Derived.Test.YtcnkmdonbpgjiaaQ1
import Derived.Test.YtcnkmdonbpgjiaaS6
import Derived.Test.YtcnkmdonbpgjiaaQ4
import Derived.Test.YtcnkmdonbpgjiaaQ3
import Derived.Test.YtcnkmdonbpgjiaaQ5
namespace Go.Proofs.Ytcnkmdonbpgjiaa.G
open Go.RowKit Go.Proofs.YtcnkmdonbpgjiaaW.PrintWords Go.Proofs.YtcnkmdonbpgjiaaW.PrintLast Go.Proofs.YtcnkmdonbpgjiaaW.PrintMore
attribute [local go_sem] max2_int min2_int max_two min_two max_three min_three max_four min_four   -- for this text's walks alone
set_option linter.unusedVariables false
set_option linter.unusedSimpArgs false

mutual
def papermillref04_combine.l0 : Nat → List (S37) → List (S37) → Int → List Int → List (S37) → Int → Option ((List (S37)))
 | 0, _, _, _, _, _, _ => none
 | k + 1, x0, x1, x2, x7, x8, x9 => if (wrap64 (x9 + 1)) < (x7.length : Int) then (if 0 ≤ x9 then (if x9 < (x7.length : Int) then ((papermillref04_Has.f k x0 (rd x7 x9)).bind fun t77005 => ((papermillref04_Has.f k x1 (rd x7 x9)).bind fun t77007 => (if x2 = 0 then (if t77005 = true then (if x2 = 1 then (if t77007 = true then (if x2 = 2 then (papermillref04_combine.j1 k x0 x1 x2 x7 x8 x9 t77007) else (papermillref04_combine.j1 k x0 x1 x2 x7 x8 x9 false)) else (papermillref04_combine.j1 k x0 x1 x2 x7 x8 x9 true)) else (if x2 = 2 then (papermillref04_combine.j1 k x0 x1 x2 x7 x8 x9 t77007) else (papermillref04_combine.j1 k x0 x1 x2 x7 x8 x9 false))) else (if t77007 = true then (if x2 = 1 then (papermillref04_combine.j1 k x0 x1 x2 x7 x8 x9 true) else (if x2 = 2 then (papermillref04_combine.j1 k x0 x1 x2 x7 x8 x9 true) else (papermillref04_combine.j1 k x0 x1 x2 x7 x8 x9 false))) else (papermillref04_combine.j1 k x0 x1 x2 x7 x8 x9 true))) else (if x2 = 1 then (if t77005 = true then (if t77007 = true then (if x2 = 2 then (papermillref04_combine.j1 k x0 x1 x2 x7 x8 x9 t77007) else (papermillref04_combine.j1 k x0 x1 x2 x7 x8 x9 false)) else (papermillref04_combine.j1 k x0 x1 x2 x7 x8 x9 true)) else (papermillref04_combine.j1 k x0 x1 x2 x7 x8 x9 true)) else (if x2 = 2 then (if t77005 = true then (papermillref04_combine.j1 k x0 x1 x2 x7 x8 x9 t77007) else (papermillref04_combine.j1 k x0 x1 x2 x7 x8 x9 true)) else (papermillref04_combine.j1 k x0 x1 x2 x7 x8 x9 false)))))) else (none)) else (none)) else (some x8)
def papermillref04_combine.j1 : Nat → List (S37) → List (S37) → Int → List Int → List (S37) → Int → Bool → Option ((List (S37)))
 | 0, _, _, _, _, _, _, _ => none
 | k + 1, x0, x1, x2, x7, x8, x9, x66 => if x66 = true then (papermillref04_combine.l0 k x0 x1 x2 x7 x8 (wrap64 (x9 + 1))) else (if (wrap64 ((x8.length : Int) - 1)) ≥ 0 then (if 0 ≤ (wrap64 ((x8.length : Int) - 1)) then (if (wrap64 ((x8.length : Int) - 1)) < (x8.length : Int) then (if 0 ≤ x9 then (if x9 < (x7.length : Int) then (if ((rd_T37 x8 (wrap64 ((x8.length : Int) - 1))).f1) = (rd x7 x9) then (if 0 ≤ (wrap64 (x9 + 1)) then (if (wrap64 (x9 + 1)) < (x7.length : Int) then (papermillref04_combine.l0 k x0 x1 x2 x7 (x8.set ((wrap64 ((x8.length : Int) - 1)) : Int).toNat (⟨(rd_T37 x8 (wrap64 ((x8.length : Int) - 1))).f0, rd x7 (wrap64 (x9 + 1))⟩ : S37)) (wrap64 (x9 + 1))) else (none)) else (none)) else (if 0 ≤ (wrap64 (x9 + 1)) then (if (wrap64 (x9 + 1)) < (x7.length : Int) then (if x8.length < 8796093022208 then (papermillref04_combine.l0 k x0 x1 x2 x7 (x8 ++ [(⟨rd x7 x9, rd x7 (wrap64 (x9 + 1))⟩ : S37)]) (wrap64 (x9 + 1))) else (none)) else (none)) else (none))) else (none)) else (none)) else (none)) else (none)) else (if 0 ≤ x9 then (if x9 < (x7.length : Int) then (if 0 ≤ (wrap64 (x9 + 1)) then (if (wrap64 (x9 + 1)) < (x7.length : Int) then (if x8.length < 8796093022208 then (papermillref04_combine.l0 k x0 x1 x2 x7 (x8 ++ [(⟨rd x7 x9, rd x7 (wrap64 (x9 + 1))⟩ : S37)]) (wrap64 (x9 + 1))) else (none)) else (none)) else (none)) else (none)) else (none)))
end
def papermillref04_combine.f (k : Nat) (l0 : List (S37)) (l1 : List (S37)) (a2 : Int) : Option ((List (S37))) := (papermillref04_ends.f k l0 l1).bind fun t77001 => (papermillref04_combine.l0 k l0 l1 a2 t77001 ([] : List (S37)) 0)
theorem papermillref04_combine.mono_l : ∀ k, (∀ y0 y1 y2 y3 y4 y5, LeO (papermillref04_combine.l0 k y0 y1 y2 y3 y4 y5) (papermillref04_combine.l0 (k + 1) y0 y1 y2 y3 y4 y5)) ∧ (∀ y0 y1 y2 y3 y4 y5 y6, LeO (papermillref04_combine.j1 k y0 y1 y2 y3 y4 y5 y6) (papermillref04_combine.j1 (k + 1) y0 y1 y2 y3 y4 y5 y6))
 | 0 => ⟨fun _ _ _ _ _ _ r h => by simp [papermillref04_combine.l0] at h, fun _ _ _ _ _ _ _ r h => by simp [papermillref04_combine.j1] at h⟩
 | k + 1 => by
  obtain ⟨ih0, ih1⟩ := papermillref04_combine.mono_l k
  refine ⟨?_, ?_⟩
  ·intro y0 y1 y2 y3 y4 y5
   unfold papermillref04_combine.l0
   repeat' first
   | (with_reducible exact ih0 _ _ _ _ _ _)
   | (with_reducible exact ih1 _ _ _ _ _ _ _)
   | (with_reducible exact papermillref04_Has.mono _ _ _)
   | (with_reducible exact papermillref04_ends.mono _ _ _)
   | (with_reducible exact LeO.refl _)
   | (with_reducible exact LeO.none _)
   | (with_reducible refine LeO.ite ?_ ?_)
   | (with_reducible refine LeO.bind ?_ (fun _ => ?_))
   | exact ih0 _ _ _ _ _ _
   | exact ih1 _ _ _ _ _ _ _
   | exact papermillref04_Has.mono _ _ _
   | exact papermillref04_ends.mono _ _ _
   | exact LeO.none _
   | refine LeO.ite ?_ ?_
   | refine LeO.bind ?_ (fun _ => ?_)
  ·intro y0 y1 y2 y3 y4 y5 y6
   unfold papermillref04_combine.j1
   repeat' first
   | (with_reducible exact ih0 _ _ _ _ _ _)
   | (with_reducible exact ih1 _ _ _ _ _ _ _)
   | (with_reducible exact papermillref04_Has.mono _ _ _)
   | (with_reducible exact papermillref04_ends.mono _ _ _)
   | (with_reducible exact LeO.refl _)
   | (with_reducible exact LeO.none _)
   | (with_reducible refine LeO.ite ?_ ?_)
   | (with_reducible refine LeO.bind ?_ (fun _ => ?_))
   | exact ih0 _ _ _ _ _ _
   | exact ih1 _ _ _ _ _ _ _
   | exact papermillref04_Has.mono _ _ _
   | exact papermillref04_ends.mono _ _ _
   | exact LeO.none _
   | refine LeO.ite ?_ ?_
   | refine LeO.bind ?_ (fun _ => ?_)
theorem papermillref04_combine.mono : ∀ a0 a1 a2 k, LeO (papermillref04_combine.f k a0 a1 a2) (papermillref04_combine.f (k + 1) a0 a1 a2) := by
 intro a0 a1 a2 k
 obtain ⟨ih0, ih1⟩ := papermillref04_combine.mono_l k
 unfold papermillref04_combine.f
 repeat' first
   | (with_reducible exact ih0 _ _ _ _ _ _)
   | (with_reducible exact ih1 _ _ _ _ _ _ _)
   | (with_reducible exact papermillref04_Has.mono _ _ _)
   | (with_reducible exact papermillref04_ends.mono _ _ _)
   | (with_reducible exact LeO.refl _)
   | (with_reducible exact LeO.none _)
   | (with_reducible refine LeO.ite ?_ ?_)
   | (with_reducible refine LeO.bind ?_ (fun _ => ?_))
   | exact ih0 _ _ _ _ _ _
   | exact ih1 _ _ _ _ _ _ _
   | exact papermillref04_Has.mono _ _ _
   | exact papermillref04_ends.mono _ _ _
   | exact LeO.none _
   | refine LeO.ite ?_ ?_
   | refine LeO.bind ?_ (fun _ => ?_)
def papermillref04_combine.T6 : Bool × List (List Nat × List Nat) := (true, [([], []), ([], []), ([], []), ([1, 2], [1, 2]), ([3], [3]), ([0, 4], [0, 4]), ([], []), ([], []), ([], []), ([7, 8], [7, 8]), ([9], [9]), ([6, 10, 5], [6, 10]), ([5, 11, 0, 1, 2, 3, 4, 5], [5]), ([11, 12, 0, 1, 2, 3, 4, 5, 6, 7, 8, 9, 10, 11, 12], [11])])
def papermillref04_combine.B6 : List Nat := [0, 0, 0, 6, 14, 31, 0, 0, 0, 384, 896, 2047, 4095, 8191]
theorem papermillref04_combine.tab6 : rtab .any (opsOf Try.f76 6) = papermillref04_combine.T6 := by kernel_rfl
theorem papermillref04_combine.bits6 : waitsOk papermillref04_combine.T6.2 papermillref04_combine.B6 = true := by kernel_rfl
def papermillref04_combine.T9 : Bool × List (List Nat × List Nat) := (true, [([], []), ([0], [0]), ([1], [1]), ([2], [2]), ([2], [2]), ([3, 4, 2], [2, 3, 4]), ([5, 2], [2, 5]), ([6, 2], [2, 6]), ([2], [2]), ([2], [2]), ([8, 9, 2], [2, 8, 9]), ([10, 2], [2, 10]), ([7, 11, 2], [2, 7, 11]), ([2, 12], [2, 12])])
def papermillref04_combine.B9 : List Nat := [0, 1, 3, 7, 7, 31, 63, 127, 7, 7, 775, 1799, 4095, 8191]
theorem papermillref04_combine.tab9 : rtab .any (opsOf Try.f76 9) = papermillref04_combine.T9 := by kernel_rfl
theorem papermillref04_combine.bits9 : waitsOk papermillref04_combine.T9.2 papermillref04_combine.B9 = true := by kernel_rfl
def papermillref04_combine.T11 : Bool × List (List Nat × List Nat) := (true, [([], []), ([], []), ([], []), ([1, 2], [1, 2]), ([3], [3]), ([], []), ([], []), ([6], [6]), ([5, 7], [5, 7]), ([8], [8]), ([4, 9], [4, 9]), ([10], [10]), ([0, 11], [0, 11]), ([12, 12, 0, 1, 2, 3, 4, 5, 6, 7, 8, 9, 10, 11, 12], [0, 12])])
def papermillref04_combine.B11 : List Nat := [0, 0, 0, 6, 14, 0, 0, 64, 224, 480, 1022, 2046, 4095, 8191]
theorem papermillref04_combine.tab11 : rtab .any (opsOf Try.f76 11) = papermillref04_combine.T11 := by kernel_rfl
theorem papermillref04_combine.bits11 : waitsOk papermillref04_combine.T11.2 papermillref04_combine.B11 = true := by kernel_rfl
set_option maxHeartbeats 8000000 in
set_option maxRecDepth 100000 in
theorem papermillref04_combine.calls (k : Nat) (A0 : Option Addr) (c0 : Nat) (l0 : List (S37)) (A1 : Option Addr) (c1 : Nat) (l1 : List (S37)) (a2 : Int) (r : List (S37)) (w : World) (hr0 : Kd.C k37 w A0 l0.length l0) (hc0 : l0.length ≤ c0) (hr1 : Kd.C k37 w A1 l1.length l1) (hc1 : l1.length ≤ c1) (h : papermillref04_combine.f k l0 l1 a2 = some r) :
  Calls Try.prog 76 #[.slice A0 l0.length c0, .slice A1 l1.length c1, .int .i64 a2] w fun e w' => ∃ v0_ : Value, e = .returned (v0_) ∧ Kd.R k37 37 w' w.heap.size (fun _ => True) v0_ r ∧ Below w.heap.size w w' := by
 have hu37 := Try.underlying37
 have HR0 := Aside0.mk hr0
 have HC0 := Aside0.mk hc0
 clear hr0 hc0
 have HR1 := Aside0.mk hr1
 have HC1 := Aside0.mk hc1
 clear hr1 hc1
 have HB := Aside0.mk (Below.refl w.heap.size w)
 have H : ((papermillref04_ends.f k l0 l1).bind fun t77001 => (papermillref04_combine.l0 k l0 l1 a2 t77001 ([] : List (S37)) 0)) = some r := h
 clear h
 replace H := Option.bind_eq_some_iff.mp H
 obtain ⟨t77001, A40, H⟩ := H
 replace H : (papermillref04_combine.l0 k l0 l1 a2 t77001 ([] : List (S37)) 0) = some r := H
 have A4 := Aside0.mk A40
 clear A40
 have H' := Aside0.mk H
 clear H
 go_enter Try.func76, Try.ntmps76
 go_wp2_with (first | ((with_reducible refine gate_callee (f := 81) rfl ?_); refine goesL_ (some 15) rfl rfl Try.func81 (by kernel_rfl) rfl #[.slice A0 l0.length c0, .slice A1 l1.length c1] rfl (by (try simp only [List.map_toArray, List.map_cons, List.map_nil]); first | done | rfl | (simp only [List.length_drop, List.length_take]; rfl)) ?_; (with_reducible refine (papermillref04_ends.calls k _ _ l0 _ _ l1 t77001 _ ?side1 ?side2 ?side3 ?side4 A4.out).mono ?_); (case side1 => exact HR0.out); (case side2 => exact HC0.out); (case side3 => exact HR1.out); (case side4 => exact HC1.out); rintro e w5 ⟨v77002, rfl, ho0, hb⟩; refine ⟨_, rfl, ?_⟩; have n0_ := Aside0.mk (Kd.R_lower ho0 (below_size (by repeat (first | exact HB.out | apply below_alloc | apply pw_below_drewN | apply below_drew1)))); have n1_ := Aside0.mk (below_step (by repeat (first | exact HB.out | apply below_alloc | apply pw_below_drewN | apply below_drew1)) hb); clear HB; have HO77003 := n0_; have HB := n1_; clear n0_ n1_; (try clear hb); (try clear hb2); (try clear hk); (try clear hi); (try clear ho0)))
 go_loopg [8, 9] k (fun kq v8 v9 w' => ∃ (x8_1 : List (S37)) (x9_1 : Int), v9 = .int .i64 x9_1 ∧ Aside0 (papermillref04_combine.l0 kq l0 l1 a2 t77001 x8_1 x9_1 = some r) ∧ Aside0 (kq ≤ k) ∧ Aside0 (Kd.R (Kd.int .i64) 3 w' w.heap.size (fun _ => True) v77002 t77001) ∧ Aside0 (Kd.R k37 37 w' w.heap.size (fun _ => True) v8 x8_1) ∧ Aside0 (Below w.heap.size w w'))
 case atStart => exact ⟨(([] : List (S37))), (0), (by first | rfl | (simp; done) | (simp [*]; done)), H', ⟨Nat.le_refl _⟩, ⟨HO77003.out⟩, ⟨by first | exact Kd.R_nil _ _ _ _ _ | exact Kd.N_nil _ _ _ _ _ | exact Kd.V_nil _ _ _ _ _ | exact Kd.Q_nil _ _ _ _ _ | exact Kd.S_nil _ _ _ _ _⟩, ⟨by repeat (first | exact HB.out | apply below_alloc | apply pw_below_drewN | apply below_drew1)⟩⟩
 case round =>
  clear H'
  try clear c1
  try clear p2
  obtain ⟨x8_1, x9_1, rfl, HA, HK1, HO_7, HO_8, HB⟩ := hrel
  cases gk with
  | zero => exact absurd HA.out (by simp [papermillref04_combine.l0])
  | succ k1 =>
   have H := HA.out
   clear HA
   simp only [papermillref04_combine.l0] at H
   by_cases c6 : (wrap64 (x9_1 + 1)) < (t77001.length : Int)
   ·rw [if_pos c6] at H
    have c6b0 : decide ((wrap64 (x9_1 + 1)) < (t77001.length : Int)) = true := decide_eq_true c6
    clear c6
    by_cases c7 : 0 ≤ x9_1
    ·rw [if_pos c7] at H
     have c7b0 : decide (0 ≤ x9_1) = true := decide_eq_true c7
     clear c7
     by_cases c8 : x9_1 < (t77001.length : Int)
     ·rw [if_pos c8] at H
      have c8b0 : decide (x9_1 < (t77001.length : Int)) = true := decide_eq_true c8
      clear c8
      replace H := Option.bind_eq_some_iff.mp H
      obtain ⟨t77005, A90, H⟩ := H
      replace H : ((papermillref04_Has.f k1 l1 (rd t77001 x9_1)).bind fun t77007 => (if a2 = 0 then (if t77005 = true then (if a2 = 1 then (if t77007 = true then (if a2 = 2 then (papermillref04_combine.j1 k1 l0 l1 a2 t77001 x8_1 x9_1 t77007) else (papermillref04_combine.j1 k1 l0 l1 a2 t77001 x8_1 x9_1 false)) else (papermillref04_combine.j1 k1 l0 l1 a2 t77001 x8_1 x9_1 true)) else (if a2 = 2 then (papermillref04_combine.j1 k1 l0 l1 a2 t77001 x8_1 x9_1 t77007) else (papermillref04_combine.j1 k1 l0 l1 a2 t77001 x8_1 x9_1 false))) else (if t77007 = true then (if a2 = 1 then (papermillref04_combine.j1 k1 l0 l1 a2 t77001 x8_1 x9_1 true) else (if a2 = 2 then (papermillref04_combine.j1 k1 l0 l1 a2 t77001 x8_1 x9_1 true) else (papermillref04_combine.j1 k1 l0 l1 a2 t77001 x8_1 x9_1 false))) else (papermillref04_combine.j1 k1 l0 l1 a2 t77001 x8_1 x9_1 true))) else (if a2 = 1 then (if t77005 = true then (if t77007 = true then (if a2 = 2 then (papermillref04_combine.j1 k1 l0 l1 a2 t77001 x8_1 x9_1 t77007) else (papermillref04_combine.j1 k1 l0 l1 a2 t77001 x8_1 x9_1 false)) else (papermillref04_combine.j1 k1 l0 l1 a2 t77001 x8_1 x9_1 true)) else (papermillref04_combine.j1 k1 l0 l1 a2 t77001 x8_1 x9_1 true)) else (if a2 = 2 then (if t77005 = true then (papermillref04_combine.j1 k1 l0 l1 a2 t77001 x8_1 x9_1 t77007) else (papermillref04_combine.j1 k1 l0 l1 a2 t77001 x8_1 x9_1 true)) else (papermillref04_combine.j1 k1 l0 l1 a2 t77001 x8_1 x9_1 false))))) = some r := H
      have A9 := Aside0.mk A90
      clear A90
      replace H := Option.bind_eq_some_iff.mp H
      obtain ⟨t77007, A100, H⟩ := H
      replace H : (if a2 = 0 then (if t77005 = true then (if a2 = 1 then (if t77007 = true then (if a2 = 2 then (papermillref04_combine.j1 k1 l0 l1 a2 t77001 x8_1 x9_1 t77007) else (papermillref04_combine.j1 k1 l0 l1 a2 t77001 x8_1 x9_1 false)) else (papermillref04_combine.j1 k1 l0 l1 a2 t77001 x8_1 x9_1 true)) else (if a2 = 2 then (papermillref04_combine.j1 k1 l0 l1 a2 t77001 x8_1 x9_1 t77007) else (papermillref04_combine.j1 k1 l0 l1 a2 t77001 x8_1 x9_1 false))) else (if t77007 = true then (if a2 = 1 then (papermillref04_combine.j1 k1 l0 l1 a2 t77001 x8_1 x9_1 true) else (if a2 = 2 then (papermillref04_combine.j1 k1 l0 l1 a2 t77001 x8_1 x9_1 true) else (papermillref04_combine.j1 k1 l0 l1 a2 t77001 x8_1 x9_1 false))) else (papermillref04_combine.j1 k1 l0 l1 a2 t77001 x8_1 x9_1 true))) else (if a2 = 1 then (if t77005 = true then (if t77007 = true then (if a2 = 2 then (papermillref04_combine.j1 k1 l0 l1 a2 t77001 x8_1 x9_1 t77007) else (papermillref04_combine.j1 k1 l0 l1 a2 t77001 x8_1 x9_1 false)) else (papermillref04_combine.j1 k1 l0 l1 a2 t77001 x8_1 x9_1 true)) else (papermillref04_combine.j1 k1 l0 l1 a2 t77001 x8_1 x9_1 true)) else (if a2 = 2 then (if t77005 = true then (papermillref04_combine.j1 k1 l0 l1 a2 t77001 x8_1 x9_1 t77007) else (papermillref04_combine.j1 k1 l0 l1 a2 t77001 x8_1 x9_1 true)) else (papermillref04_combine.j1 k1 l0 l1 a2 t77001 x8_1 x9_1 false)))) = some r := H
      have A10 := Aside0.mk A100
      clear A100
      have HC11 := Aside0.mk H
      clear H
      obtain ⟨Ao12, co12, eo12⟩ := Kd.R_slice HO_7.out
      subst eo12
      try go_wp2
      have n0_ := Aside0.mk (Kd.R_drew HO_7.out)
      have n1_ := Aside0.mk (Kd.R_drew HO_8.out)
      have n2_ := Aside0.mk (below_drew1 HB.out)
      clear HO_7
      clear HO_8
      clear HB
      have HO_7 := n0_
      have HO_8 := n1_
      have HB := n2_
      clear n0_ n1_ n2_
      have p77004 : 0 ≤ (x9_1 : Int) := of_decide_eq_true (by assumption)
      have q77004 : x9_1 < (t77001.length : Int) := of_decide_eq_true (by assumption)
      obtain ⟨ad77004, e77004, hx77004_0⟩ := Kd.at_int (Kd.R_reads' HO_7.out).2.2 x9_1 p77004 q77004
      cases e77004
      replace p77004 := eq_true p77004
      replace q77004 := eq_true q77004
      have p77006 : 0 ≤ (x9_1 : Int) := of_decide_eq_true (by assumption)
      have q77006 : x9_1 < (t77001.length : Int) := of_decide_eq_true (by assumption)
      obtain ⟨ad77006, e77006, hx77006_0⟩ := Kd.at_int (Kd.R_reads' HO_7.out).2.2 x9_1 p77006 q77006
      obtain rfl : ad77004 = ad77006 := (by injection e77006)
      replace p77006 := eq_true p77006
      replace q77006 := eq_true q77006
      refine start_ (n := 14) (S := fun w' => w'.cell? (ad77004.add (x9_1).toNat) = some (.int .i64 (rd t77001 x9_1)) ∧ w'.cell? (ad77004.add (x9_1).toNat) = some (.int .i64 (rd t77001 x9_1))) (ds := []) #[false, false, false, false, false, false, false, false, false, false, false, false, false, false] (by kernel_rfl) rfl rfl ⟨hx77004_0, hx77006_0⟩ (fun hHeld => ?_); refine with_tabW papermillref04_combine.tab6 papermillref04_combine.bits6 (fun HT_ HW_ => ?_)
      generalize wr.drew = w13 at HO_7 HO_8 HB hx77004_0 hx77006_0 hHeld ⊢
      refine pure_ (i := 0) (N := some 23) (v := ?_) (a' := ?_) #[true, false, false, false, false, false, false, false, false, false, false, false, false, false] rfl rfl (any_of HT_.out (by kernel_rfl)) (fun _ _ _ h => h) (Or.inl ⟨by rfl, ?_⟩) ?_ ?_
      rotate_left
      ·intro w'
       go_simp
       with_reducible rfl
      rotate_left
      ·simp only [Act.put, List.setIfInBounds_toArray, List.set_cons_zero, List.set_cons_succ, i64_w, i32_w]
       rfl
      refine pure_ (i := 1) (N := some 24) (v := ?_) (a' := ?_) #[true, true, false, false, false, false, false, false, false, false, false, false, false, false] rfl rfl (any_of HT_.out (by kernel_rfl)) (fun _ _ _ h => h) (Or.inl ⟨by rfl, ?_⟩) ?_ ?_
      rotate_left
      ·intro w'
       go_simp
       with_reducible rfl
      rotate_left
      ·simp only [Act.put, List.setIfInBounds_toArray, List.set_cons_zero, List.set_cons_succ, i64_w, i32_w]
       rfl
      refine pure_ (i := 2) (N := some 25) (v := ?_) (a' := ?_) #[true, true, true, false, false, false, false, false, false, false, false, false, false, false] rfl rfl (any_of HT_.out (by kernel_rfl)) (fun _ _ _ h => h) (Or.inl ⟨by rfl, ?_⟩) ?_ ?_
      rotate_left
      ·intro w'
       go_simp
       with_reducible rfl
      rotate_left
      ·simp only [Act.put, List.setIfInBounds_toArray, List.set_cons_zero, List.set_cons_succ, i64_w, i32_w]
       rfl
      refine pure_ (i := 3) (N := some 26) (v := ?_) (a' := ?_) #[true, true, true, true, false, false, false, false, false, false, false, false, false, false] rfl rfl (any_of HT_.out (by kernel_rfl)) (fun _ _ _ h => h) (Or.inl ⟨by rfl, ?_⟩) ?_ ?_
      rotate_left
      ·intro w'
       go_simp
       with_reducible rfl
      rotate_left
      ·simp only [Act.put, List.setIfInBounds_toArray, List.set_cons_zero, List.set_cons_succ, i64_w, i32_w]
       rfl
      refine pure_ (i := 6) (N := some 29) (v := ?_) (a' := ?_) #[true, true, true, true, false, false, true, false, false, false, false, false, false, false] rfl rfl (any_of HT_.out (by kernel_rfl)) (fun _ _ _ h => h) (Or.inl ⟨by rfl, ?_⟩) ?_ ?_
      rotate_left
      ·intro w'
       go_simp
       with_reducible rfl
      rotate_left
      ·simp only [Act.put, List.setIfInBounds_toArray, List.set_cons_zero, List.set_cons_succ, i64_w, i32_w]
       rfl
      refine pure_ (i := 7) (N := some 30) (v := ?_) (a' := ?_) #[true, true, true, true, false, false, true, true, false, false, false, false, false, false] rfl rfl (any_of HT_.out (by kernel_rfl)) (fun _ _ _ h => h) (Or.inl ⟨by rfl, ?_⟩) ?_ ?_
      rotate_left
      ·intro w'
       go_simp
       with_reducible rfl
      rotate_left
      ·simp only [Act.put, List.setIfInBounds_toArray, List.set_cons_zero, List.set_cons_succ, i64_w, i32_w]
       rfl
      refine pure_ (i := 8) (N := some 31) (v := ?_) (a' := ?_) #[true, true, true, true, false, false, true, true, true, false, false, false, false, false] rfl rfl (any_of HT_.out (by kernel_rfl)) (fun _ _ _ h => h) (Or.inl ⟨by rfl, ?_⟩) ?_ ?_
      rotate_left
      ·intro w'
       go_simp
       with_reducible rfl
      rotate_left
      ·simp only [Act.put, List.setIfInBounds_toArray, List.set_cons_zero, List.set_cons_succ, i64_w, i32_w]
       rfl
      refine pure_ (i := 9) (N := some 32) (v := ?_) (a' := ?_) #[true, true, true, true, false, false, true, true, true, true, false, false, false, false] rfl rfl (any_of HT_.out (by kernel_rfl)) (fun _ _ _ h => h) (Or.inl ⟨by rfl, ?_⟩) ?_ ?_
      rotate_left
      ·intro w'
       go_simp
       with_reducible rfl
      rotate_left
      ·simp only [Act.put, List.setIfInBounds_toArray, List.set_cons_zero, List.set_cons_succ, i64_w, i32_w]
       rfl
      refine take_ (i := 4) (N := some 27) (v := ?_) (a' := ?_) #[true, true, true, true, true, false, true, true, true, true, false, false, false, false] rfl rfl (take_ofW HT_.out HW_.out (by kernel_rfl)) (fun _ _ _ h => h) (Or.inl ⟨by rfl, ?_⟩) hHeld ?_ ?_
      rotate_left
      ·rintro w' ⟨s0, s1⟩
       go_simp
       with_reducible rfl
      rotate_left
      ·simp only [Act.put, List.setIfInBounds_toArray, List.set_cons_zero, List.set_cons_succ, i64_w, i32_w]
       rfl
      refine take_ (i := 10) (N := some 33) (v := ?_) (a' := ?_) #[true, true, true, true, true, false, true, true, true, true, true, false, false, false] rfl rfl (take_ofW HT_.out HW_.out (by kernel_rfl)) (fun _ _ _ h => h) (Or.inl ⟨by rfl, ?_⟩) hHeld ?_ ?_
      rotate_left
      ·rintro w' ⟨s0, s1⟩
       go_simp
       with_reducible rfl
      rotate_left
      ·simp only [Act.put, List.setIfInBounds_toArray, List.set_cons_zero, List.set_cons_succ, i64_w, i32_w]
       rfl
      refine one_ (i := 5) (N := some 28) #[true, true, true, true, true, true, true, true, true, true, true, false, false, false] rfl rfl (one_of HT_.out (by kernel_rfl)) (by decide) (fun K hK => ?_)
      refine goes_ Try.func82 (by kernel_rfl) rfl #[.slice A0 l0.length c0, .int .i64 (rd t77001 x9_1)] (by rfl) rfl rfl (by (try simp only [List.map_toArray, List.map_cons, List.map_nil]); first | done | rfl | (simp only [List.length_drop, List.length_take]; rfl)) ?_
      with_reducible refine (papermillref04_Has.calls k1 _ _ l0 (rd t77001 x9_1) t77005 _ ?side1 ?side2 A9.out).mono ?_
      (case side1 => exact (Kd.C_below HR0.out HB.out))
      (case side2 => exact HC0.out)
      rintro e w' ⟨rfl, ⟨nd, rfl⟩⟩
      refine ⟨_, rfl, ?_⟩
      refine hK.out _ _ ⟨hHeld.1, hHeld.2⟩ (fun hHeld => ?_)
      clear hK K
      refine norm_ (a' := ?_) ?_ ?_
      rotate_left
      ·show Act.put _ (some 28) _ = _
       simp only [Act.put, List.setIfInBounds_toArray, List.set_cons_zero, List.set_cons_succ, i64_w, i32_w]
       rfl
      refine one_ (i := 11) (N := some 34) #[true, true, true, true, true, true, true, true, true, true, true, true, false, false] rfl rfl (one_of HT_.out (by kernel_rfl)) (by decide) (fun K hK => ?_)
      refine goes_ Try.func82 (by kernel_rfl) rfl #[.slice A1 l1.length c1, .int .i64 (rd t77001 x9_1)] (by rfl) rfl rfl (by (try simp only [List.map_toArray, List.map_cons, List.map_nil]); first | done | rfl | (simp only [List.length_drop, List.length_take]; rfl)) ?_
      with_reducible refine (papermillref04_Has.calls k1 _ _ l1 (rd t77001 x9_1) t77007 _ ?side1 ?side2 A10.out).mono ?_
      (case side1 => repeat (first | exact (Kd.C_below HR1.out (by repeat (first | exact HB.out | apply below_alloc | apply pw_below_drewN | apply below_drew1))) | (with_reducible refine Kd.C_alloc ?_ _) | (with_reducible refine Kd.C_drewN ?_ _) | (with_reducible refine Kd.C_drew ?_)))
      (case side2 => exact HC1.out)
      rintro e w' ⟨rfl, ⟨nd, rfl⟩⟩
      refine ⟨_, rfl, ?_⟩
      refine hK.out _ _ ⟨hHeld.1, hHeld.2⟩ (fun hHeld => ?_)
      clear hK K
      refine norm_ (a' := ?_) ?_ ?_
      rotate_left
      ·show Act.put _ (some 34) _ = _
       simp only [Act.put, List.setIfInBounds_toArray, List.set_cons_zero, List.set_cons_succ, i64_w, i32_w]
       rfl
      refine pure_ (i := 12) (N := some 10) (v := ?_) (a' := ?_) #[true, true, true, true, true, true, true, true, true, true, true, true, true, false] rfl rfl (any_of HT_.out (by kernel_rfl)) (fun _ _ _ h => h) (Or.inl ⟨by rfl, ?_⟩) ?_ ?_
      rotate_left
      ·intro w'
       go_simp
       with_reducible rfl
      rotate_left
      ·simp only [Act.put, List.setIfInBounds_toArray, List.set_cons_zero, List.set_cons_succ, i64_w, i32_w]
       rfl
      refine pure_ (i := 13) (N := some 11) (v := ?_) (a' := ?_) #[true, true, true, true, true, true, true, true, true, true, true, true, true, true] rfl rfl (any_of HT_.out (by kernel_rfl)) (fun _ _ _ h => h) (Or.inl ⟨by rfl, ?_⟩) ?_ ?_
      rotate_left
      ·intro w'
       go_simp
       with_reducible rfl
      rotate_left
      ·simp only [Act.put, List.setIfInBounds_toArray, List.set_cons_zero, List.set_cons_succ, i64_w, i32_w]
       rfl
      refine done_ (done_of HT_.out (by kernel_rfl)) ?_
      go_upto_region 7 with (fail)
      go_cut [66] (fun v66 wc => ∃ (kq : Nat) (x66_10 : Bool), v66 = .bool x66_10 ∧ Aside0 (papermillref04_combine.j1 kq l0 l1 a2 t77001 x8_1 x9_1 x66_10 = some r) ∧ Aside0 (kq ≤ k1) ∧ Aside0 (Kd.R (Kd.int .i64) 3 wc w.heap.size (fun _ => True) (.slice (some ad77004) t77001.length co12) t77001) ∧ Aside0 (Kd.R k37 37 wc w.heap.size (fun _ => True) u8 x8_1) ∧ Aside0 (Below w.heap.size w wc))
      case first =>
       have H := HC11.out
       clear HC11
       by_cases c14 : a2 = 0
       ·rw [if_pos c14] at H
        have c14b0 : (a2 == 0) = true := beq_iff_eq.mpr c14
        have c14b1 : (a2 != 0) = false := bne_eq_false_iff_eq.mpr c14
        clear c14
        (first | rw [c14b0] | (simp only [i64_w, i32_w]; rw [c14b0]) | skip)
        by_cases c15 : t77005 = true
        ·subst c15
         have H1 : (if a2 = 1 then (if t77007 = true then (if a2 = 2 then (papermillref04_combine.j1 k1 l0 l1 a2 t77001 x8_1 x9_1 t77007) else (papermillref04_combine.j1 k1 l0 l1 a2 t77001 x8_1 x9_1 false)) else (papermillref04_combine.j1 k1 l0 l1 a2 t77001 x8_1 x9_1 true)) else (if a2 = 2 then (papermillref04_combine.j1 k1 l0 l1 a2 t77001 x8_1 x9_1 t77007) else (papermillref04_combine.j1 k1 l0 l1 a2 t77001 x8_1 x9_1 false))) = some r := by rw [if_pos rfl] at H; exact H
         clear H
         have H := H1
         clear H1
         by_cases c16 : a2 = 1
         ·rw [if_pos c16] at H
          have c16b0 : (a2 == 1) = true := beq_iff_eq.mpr c16
          have c16b1 : (a2 != 1) = false := bne_eq_false_iff_eq.mpr c16
          clear c16
          by_cases c17 : t77007 = true
          ·subst c17
           have H1 : (if a2 = 2 then (papermillref04_combine.j1 k1 l0 l1 a2 t77001 x8_1 x9_1 true) else (papermillref04_combine.j1 k1 l0 l1 a2 t77001 x8_1 x9_1 false)) = some r := by rw [if_pos rfl] at H; exact H
           clear H
           have H := H1
           clear H1
           by_cases c18 : a2 = 2
           ·rw [if_pos c18] at H
            have c18b0 : (a2 == 2) = true := beq_iff_eq.mpr c18
            have c18b1 : (a2 != 2) = false := bne_eq_false_iff_eq.mpr c18
            clear c18
            have H' := Aside0.mk H
            clear H
            go_wp2
            go_meet
            case rel => exact ⟨_, (true), (by first | rfl | (simp; done) | (simp [*]; done)), H', ⟨by have := HK1.out; first | omega | exact Nat.le_refl _⟩, ⟨HO_7.out⟩, ⟨HO_8.out⟩, ⟨by repeat (first | exact HB.out | apply below_alloc | apply pw_below_drewN | apply below_drew1)⟩⟩
           ·rw [if_neg c18] at H
            have c18b0 : (a2 == 2) = false := beq_eq_false_iff_ne.mpr c18
            have c18b1 : (a2 != 2) = true := bne_iff_ne.mpr c18
            have H' := Aside0.mk H
            clear H
            go_wp2
            go_meet
            case rel => exact ⟨_, (false), (by first | rfl | (simp; done) | (simp [*]; done)), H', ⟨by have := HK1.out; first | omega | exact Nat.le_refl _⟩, ⟨HO_7.out⟩, ⟨HO_8.out⟩, ⟨by repeat (first | exact HB.out | apply below_alloc | apply pw_below_drewN | apply below_drew1)⟩⟩
          ·replace c17 := Bool.eq_false_iff.mpr c17
           subst c17
           have H1 : (papermillref04_combine.j1 k1 l0 l1 a2 t77001 x8_1 x9_1 true) = some r := by rw [if_neg (show ¬ (false = true) by decide)] at H; first | exact H | simpa using H
           clear H
           have H := H1
           clear H1
           have H' := Aside0.mk H
           clear H
           go_wp2
           go_meet
           case rel => exact ⟨_, (true), (by first | rfl | (simp; done) | (simp [*]; done)), H', ⟨by have := HK1.out; first | omega | exact Nat.le_refl _⟩, ⟨HO_7.out⟩, ⟨HO_8.out⟩, ⟨by repeat (first | exact HB.out | apply below_alloc | apply pw_below_drewN | apply below_drew1)⟩⟩
         ·rw [if_neg c16] at H
          have c16b0 : (a2 == 1) = false := beq_eq_false_iff_ne.mpr c16
          have c16b1 : (a2 != 1) = true := bne_iff_ne.mpr c16
          by_cases c19 : a2 = 2
          ·rw [if_pos c19] at H
           have c19b0 : (a2 == 2) = true := beq_iff_eq.mpr c19
           have c19b1 : (a2 != 2) = false := bne_eq_false_iff_eq.mpr c19
           clear c19
           have H' := Aside0.mk H
           clear H
           go_wp2
           go_meet
           case rel => exact ⟨_, (t77007), (by first | rfl | (simp; done) | (simp [*]; done)), H', ⟨by have := HK1.out; first | omega | exact Nat.le_refl _⟩, ⟨HO_7.out⟩, ⟨HO_8.out⟩, ⟨by repeat (first | exact HB.out | apply below_alloc | apply pw_below_drewN | apply below_drew1)⟩⟩
          ·rw [if_neg c19] at H
           have c19b0 : (a2 == 2) = false := beq_eq_false_iff_ne.mpr c19
           have c19b1 : (a2 != 2) = true := bne_iff_ne.mpr c19
           have H' := Aside0.mk H
           clear H
           go_wp2
           go_meet
           case rel => exact ⟨_, (false), (by first | rfl | (simp; done) | (simp [*]; done)), H', ⟨by have := HK1.out; first | omega | exact Nat.le_refl _⟩, ⟨HO_7.out⟩, ⟨HO_8.out⟩, ⟨by repeat (first | exact HB.out | apply below_alloc | apply pw_below_drewN | apply below_drew1)⟩⟩
        ·replace c15 := Bool.eq_false_iff.mpr c15
         subst c15
         have H1 : (if t77007 = true then (if a2 = 1 then (papermillref04_combine.j1 k1 l0 l1 a2 t77001 x8_1 x9_1 true) else (if a2 = 2 then (papermillref04_combine.j1 k1 l0 l1 a2 t77001 x8_1 x9_1 true) else (papermillref04_combine.j1 k1 l0 l1 a2 t77001 x8_1 x9_1 false))) else (papermillref04_combine.j1 k1 l0 l1 a2 t77001 x8_1 x9_1 true)) = some r := by rw [if_neg (show ¬ (false = true) by decide)] at H; first | exact H | simpa using H
         clear H
         have H := H1
         clear H1
         by_cases c20 : t77007 = true
         ·subst c20
          have H1 : (if a2 = 1 then (papermillref04_combine.j1 k1 l0 l1 a2 t77001 x8_1 x9_1 true) else (if a2 = 2 then (papermillref04_combine.j1 k1 l0 l1 a2 t77001 x8_1 x9_1 true) else (papermillref04_combine.j1 k1 l0 l1 a2 t77001 x8_1 x9_1 false))) = some r := by rw [if_pos rfl] at H; exact H
          clear H
          have H := H1
          clear H1
          by_cases c21 : a2 = 1
          ·rw [if_pos c21] at H
           have c21b0 : (a2 == 1) = true := beq_iff_eq.mpr c21
           have c21b1 : (a2 != 1) = false := bne_eq_false_iff_eq.mpr c21
           clear c21
           have H' := Aside0.mk H
           clear H
           go_wp2
           go_meet
           case rel => exact ⟨_, (true), (by first | rfl | (simp; done) | (simp [*]; done)), H', ⟨by have := HK1.out; first | omega | exact Nat.le_refl _⟩, ⟨HO_7.out⟩, ⟨HO_8.out⟩, ⟨by repeat (first | exact HB.out | apply below_alloc | apply pw_below_drewN | apply below_drew1)⟩⟩
          ·rw [if_neg c21] at H
           have c21b0 : (a2 == 1) = false := beq_eq_false_iff_ne.mpr c21
           have c21b1 : (a2 != 1) = true := bne_iff_ne.mpr c21
           by_cases c22 : a2 = 2
           ·rw [if_pos c22] at H
            have c22b0 : (a2 == 2) = true := beq_iff_eq.mpr c22
            have c22b1 : (a2 != 2) = false := bne_eq_false_iff_eq.mpr c22
            clear c22
            have H' := Aside0.mk H
            clear H
            go_wp2
            go_meet
            case rel => exact ⟨_, (true), (by first | rfl | (simp; done) | (simp [*]; done)), H', ⟨by have := HK1.out; first | omega | exact Nat.le_refl _⟩, ⟨HO_7.out⟩, ⟨HO_8.out⟩, ⟨by repeat (first | exact HB.out | apply below_alloc | apply pw_below_drewN | apply below_drew1)⟩⟩
           ·rw [if_neg c22] at H
            have c22b0 : (a2 == 2) = false := beq_eq_false_iff_ne.mpr c22
            have c22b1 : (a2 != 2) = true := bne_iff_ne.mpr c22
            have H' := Aside0.mk H
            clear H
            go_wp2
            go_meet
            case rel => exact ⟨_, (false), (by first | rfl | (simp; done) | (simp [*]; done)), H', ⟨by have := HK1.out; first | omega | exact Nat.le_refl _⟩, ⟨HO_7.out⟩, ⟨HO_8.out⟩, ⟨by repeat (first | exact HB.out | apply below_alloc | apply pw_below_drewN | apply below_drew1)⟩⟩
         ·replace c20 := Bool.eq_false_iff.mpr c20
          subst c20
          have H1 : (papermillref04_combine.j1 k1 l0 l1 a2 t77001 x8_1 x9_1 true) = some r := by rw [if_neg (show ¬ (false = true) by decide)] at H; first | exact H | simpa using H
          clear H
          have H := H1
          clear H1
          have H' := Aside0.mk H
          clear H
          go_wp2
          go_meet
          case rel => exact ⟨_, (true), (by first | rfl | (simp; done) | (simp [*]; done)), H', ⟨by have := HK1.out; first | omega | exact Nat.le_refl _⟩, ⟨HO_7.out⟩, ⟨HO_8.out⟩, ⟨by repeat (first | exact HB.out | apply below_alloc | apply pw_below_drewN | apply below_drew1)⟩⟩
       ·rw [if_neg c14] at H
        have c14b0 : (a2 == 0) = false := beq_eq_false_iff_ne.mpr c14
        have c14b1 : (a2 != 0) = true := bne_iff_ne.mpr c14
        (first | rw [c14b0] | (simp only [i64_w, i32_w]; rw [c14b0]) | skip)
        by_cases c23 : a2 = 1
        ·rw [if_pos c23] at H
         have c23b0 : (a2 == 1) = true := beq_iff_eq.mpr c23
         have c23b1 : (a2 != 1) = false := bne_eq_false_iff_eq.mpr c23
         clear c23
         by_cases c24 : t77005 = true
         ·subst c24
          have H1 : (if t77007 = true then (if a2 = 2 then (papermillref04_combine.j1 k1 l0 l1 a2 t77001 x8_1 x9_1 t77007) else (papermillref04_combine.j1 k1 l0 l1 a2 t77001 x8_1 x9_1 false)) else (papermillref04_combine.j1 k1 l0 l1 a2 t77001 x8_1 x9_1 true)) = some r := by rw [if_pos rfl] at H; exact H
          clear H
          have H := H1
          clear H1
          by_cases c25 : t77007 = true
          ·subst c25
           have H1 : (if a2 = 2 then (papermillref04_combine.j1 k1 l0 l1 a2 t77001 x8_1 x9_1 true) else (papermillref04_combine.j1 k1 l0 l1 a2 t77001 x8_1 x9_1 false)) = some r := by rw [if_pos rfl] at H; exact H
           clear H
           have H := H1
           clear H1
           by_cases c26 : a2 = 2
           ·rw [if_pos c26] at H
            have c26b0 : (a2 == 2) = true := beq_iff_eq.mpr c26
            have c26b1 : (a2 != 2) = false := bne_eq_false_iff_eq.mpr c26
            clear c26
            have H' := Aside0.mk H
            clear H
            go_wp2
            go_meet
            case rel => exact ⟨_, (true), (by first | rfl | (simp; done) | (simp [*]; done)), H', ⟨by have := HK1.out; first | omega | exact Nat.le_refl _⟩, ⟨HO_7.out⟩, ⟨HO_8.out⟩, ⟨by repeat (first | exact HB.out | apply below_alloc | apply pw_below_drewN | apply below_drew1)⟩⟩
           ·rw [if_neg c26] at H
            have c26b0 : (a2 == 2) = false := beq_eq_false_iff_ne.mpr c26
            have c26b1 : (a2 != 2) = true := bne_iff_ne.mpr c26
            have H' := Aside0.mk H
            clear H
            go_wp2
            go_meet
            case rel => exact ⟨_, (false), (by first | rfl | (simp; done) | (simp [*]; done)), H', ⟨by have := HK1.out; first | omega | exact Nat.le_refl _⟩, ⟨HO_7.out⟩, ⟨HO_8.out⟩, ⟨by repeat (first | exact HB.out | apply below_alloc | apply pw_below_drewN | apply below_drew1)⟩⟩
          ·replace c25 := Bool.eq_false_iff.mpr c25
           subst c25
           have H1 : (papermillref04_combine.j1 k1 l0 l1 a2 t77001 x8_1 x9_1 true) = some r := by rw [if_neg (show ¬ (false = true) by decide)] at H; first | exact H | simpa using H
           clear H
           have H := H1
           clear H1
           have H' := Aside0.mk H
           clear H
           go_wp2
           go_meet
           case rel => exact ⟨_, (true), (by first | rfl | (simp; done) | (simp [*]; done)), H', ⟨by have := HK1.out; first | omega | exact Nat.le_refl _⟩, ⟨HO_7.out⟩, ⟨HO_8.out⟩, ⟨by repeat (first | exact HB.out | apply below_alloc | apply pw_below_drewN | apply below_drew1)⟩⟩
         ·replace c24 := Bool.eq_false_iff.mpr c24
          subst c24
          have H1 : (papermillref04_combine.j1 k1 l0 l1 a2 t77001 x8_1 x9_1 true) = some r := by rw [if_neg (show ¬ (false = true) by decide)] at H; first | exact H | simpa using H
          clear H
          have H := H1
          clear H1
          have H' := Aside0.mk H
          clear H
          go_wp2
          go_meet
          case rel => exact ⟨_, (true), (by first | rfl | (simp; done) | (simp [*]; done)), H', ⟨by have := HK1.out; first | omega | exact Nat.le_refl _⟩, ⟨HO_7.out⟩, ⟨HO_8.out⟩, ⟨by repeat (first | exact HB.out | apply below_alloc | apply pw_below_drewN | apply below_drew1)⟩⟩
        ·rw [if_neg c23] at H
         have c23b0 : (a2 == 1) = false := beq_eq_false_iff_ne.mpr c23
         have c23b1 : (a2 != 1) = true := bne_iff_ne.mpr c23
         by_cases c27 : a2 = 2
         ·rw [if_pos c27] at H
          have c27b0 : (a2 == 2) = true := beq_iff_eq.mpr c27
          have c27b1 : (a2 != 2) = false := bne_eq_false_iff_eq.mpr c27
          clear c27
          by_cases c28 : t77005 = true
          ·subst c28
           have H1 : (papermillref04_combine.j1 k1 l0 l1 a2 t77001 x8_1 x9_1 t77007) = some r := by rw [if_pos rfl] at H; exact H
           clear H
           have H := H1
           clear H1
           have H' := Aside0.mk H
           clear H
           go_wp2
           go_meet
           case rel => exact ⟨_, (t77007), (by first | rfl | (simp; done) | (simp [*]; done)), H', ⟨by have := HK1.out; first | omega | exact Nat.le_refl _⟩, ⟨HO_7.out⟩, ⟨HO_8.out⟩, ⟨by repeat (first | exact HB.out | apply below_alloc | apply pw_below_drewN | apply below_drew1)⟩⟩
          ·replace c28 := Bool.eq_false_iff.mpr c28
           subst c28
           have H1 : (papermillref04_combine.j1 k1 l0 l1 a2 t77001 x8_1 x9_1 true) = some r := by rw [if_neg (show ¬ (false = true) by decide)] at H; first | exact H | simpa using H
           clear H
           have H := H1
           clear H1
           have H' := Aside0.mk H
           clear H
           go_wp2
           go_meet
           case rel => exact ⟨_, (true), (by first | rfl | (simp; done) | (simp [*]; done)), H', ⟨by have := HK1.out; first | omega | exact Nat.le_refl _⟩, ⟨HO_7.out⟩, ⟨HO_8.out⟩, ⟨by repeat (first | exact HB.out | apply below_alloc | apply pw_below_drewN | apply below_drew1)⟩⟩
         ·rw [if_neg c27] at H
          have c27b0 : (a2 == 2) = false := beq_eq_false_iff_ne.mpr c27
          have c27b1 : (a2 != 2) = true := bne_iff_ne.mpr c27
          have H' := Aside0.mk H
          clear H
          go_wp2
          go_meet
          case rel => exact ⟨_, (false), (by first | rfl | (simp; done) | (simp [*]; done)), H', ⟨by have := HK1.out; first | omega | exact Nat.le_refl _⟩, ⟨HO_7.out⟩, ⟨HO_8.out⟩, ⟨by repeat (first | exact HB.out | apply below_alloc | apply pw_below_drewN | apply below_drew1)⟩⟩
      case rest =>
       clear HC11
       try clear c1
       try clear c2
       try clear p2
       try clear c6
       try clear c6b0
       try clear p6
       try clear c7
       try clear c7b0
       try clear p7
       try clear q7
       try clear hx7
       try clear c8
       try clear c8b0
       try clear c14
       try clear c14b0
       try clear c14b1
       try clear c15
       try clear c16
       try clear c16b0
       try clear c16b1
       try clear c17
       try clear c18
       try clear c18b0
       try clear c18b1
       try clear c19
       try clear c19b0
       try clear c19b1
       try clear c20
       try clear c21
       try clear c21b0
       try clear c21b1
       try clear c22
       try clear c22b0
       try clear c22b1
       try clear c23
       try clear c23b0
       try clear c23b1
       try clear c24
       try clear c25
       try clear c26
       try clear c26b0
       try clear c26b1
       try clear c27
       try clear c27b0
       try clear c27b1
       try clear c28
       try clear hx77004_0
       try clear hx77006_0
       try clear p2
       try clear p77004
       try clear p77006
       try clear q77004
       try clear q77006
       obtain ⟨kq, x66_10, rfl, HA, HJ10, HO_7, HO_8, HB⟩ := hcut
       cases kq with
       | zero => exact absurd HA.out (by simp [papermillref04_combine.j1])
       | succ kj10 =>
        have H := HA.out
        clear HA
        simp only [papermillref04_combine.j1] at H
        by_cases c29 : x66_10 = true
        ·subst c29
         have H1 : (papermillref04_combine.l0 kj10 l0 l1 a2 t77001 x8_1 (wrap64 (x9_1 + 1))) = some r := by rw [if_pos rfl] at H; exact H
         clear H
         have H := H1
         clear H1
         have H' := Aside0.mk H
         clear H
         go_wp2
         go_roundg kj10
         case measure => have := HK1.out; have := HJ10.out; omega
         case rel => exact ⟨(x8_1), (wrap64 (x9_1 + 1)), (by first | rfl | (simp; done) | (simp [*]; done)), H', ⟨by have := HK1.out; have := HJ10.out; omega⟩, ⟨HO_7.out⟩, ⟨HO_8.out⟩, ⟨by repeat (first | exact HB.out | apply below_alloc | apply pw_below_drewN | apply below_drew1)⟩⟩
        ·replace c29 := Bool.eq_false_iff.mpr c29
         subst c29
         have H1 : (if (wrap64 ((x8_1.length : Int) - 1)) ≥ 0 then (if 0 ≤ (wrap64 ((x8_1.length : Int) - 1)) then (if (wrap64 ((x8_1.length : Int) - 1)) < (x8_1.length : Int) then (if 0 ≤ x9_1 then (if x9_1 < (t77001.length : Int) then (if ((rd_T37 x8_1 (wrap64 ((x8_1.length : Int) - 1))).f1) = (rd t77001 x9_1) then (if 0 ≤ (wrap64 (x9_1 + 1)) then (if (wrap64 (x9_1 + 1)) < (t77001.length : Int) then (papermillref04_combine.l0 kj10 l0 l1 a2 t77001 (x8_1.set ((wrap64 ((x8_1.length : Int) - 1)) : Int).toNat (⟨(rd_T37 x8_1 (wrap64 ((x8_1.length : Int) - 1))).f0, rd t77001 (wrap64 (x9_1 + 1))⟩ : S37)) (wrap64 (x9_1 + 1))) else (none)) else (none)) else (if 0 ≤ (wrap64 (x9_1 + 1)) then (if (wrap64 (x9_1 + 1)) < (t77001.length : Int) then (if x8_1.length < 8796093022208 then (papermillref04_combine.l0 kj10 l0 l1 a2 t77001 (x8_1 ++ [(⟨rd t77001 x9_1, rd t77001 (wrap64 (x9_1 + 1))⟩ : S37)]) (wrap64 (x9_1 + 1))) else (none)) else (none)) else (none))) else (none)) else (none)) else (none)) else (none)) else (if 0 ≤ x9_1 then (if x9_1 < (t77001.length : Int) then (if 0 ≤ (wrap64 (x9_1 + 1)) then (if (wrap64 (x9_1 + 1)) < (t77001.length : Int) then (if x8_1.length < 8796093022208 then (papermillref04_combine.l0 kj10 l0 l1 a2 t77001 (x8_1 ++ [(⟨rd t77001 x9_1, rd t77001 (wrap64 (x9_1 + 1))⟩ : S37)]) (wrap64 (x9_1 + 1))) else (none)) else (none)) else (none)) else (none)) else (none))) = some r := by rw [if_neg (show ¬ (false = true) by decide)] at H; first | exact H | simpa using H
         clear H
         have H := H1
         clear H1
         by_cases c30 : (wrap64 ((x8_1.length : Int) - 1)) ≥ 0
         ·rw [if_pos c30] at H
          have c30b0 : decide (0 ≤ (wrap64 ((x8_1.length : Int) - 1))) = true := decide_eq_true c30
          clear c30
          obtain ⟨ji31, hji31⟩ : ∃ j_ : Int, (wrap64 ((x8_1.length : Int) - 1)) = j_ := ⟨_, rfl⟩
          replace H : (if 0 ≤ (ji31) then (if (ji31) < (x8_1.length : Int) then (if 0 ≤ x9_1 then (if x9_1 < (t77001.length : Int) then (if ((rd_T37 x8_1 (ji31)).f1) = (rd t77001 x9_1) then (if 0 ≤ (wrap64 (x9_1 + 1)) then (if (wrap64 (x9_1 + 1)) < (t77001.length : Int) then (papermillref04_combine.l0 kj10 l0 l1 a2 t77001 (x8_1.set ((ji31) : Int).toNat (⟨(rd_T37 x8_1 (ji31)).f0, rd t77001 (wrap64 (x9_1 + 1))⟩ : S37)) (wrap64 (x9_1 + 1))) else (none)) else (none)) else (if 0 ≤ (wrap64 (x9_1 + 1)) then (if (wrap64 (x9_1 + 1)) < (t77001.length : Int) then (if x8_1.length < 8796093022208 then (papermillref04_combine.l0 kj10 l0 l1 a2 t77001 (x8_1 ++ [(⟨rd t77001 x9_1, rd t77001 (wrap64 (x9_1 + 1))⟩ : S37)]) (wrap64 (x9_1 + 1))) else (none)) else (none)) else (none))) else (none)) else (none)) else (none)) else (none)) = some r := by first | (rw [hji31] at H; exact H) | (simp only [hji31] at H ⊢; exact H)
          (try rw [hji31] at c30b0)
          have hji31w : (IntKind.i64.wrap ((x8_1.length : Int) - 1)) = ji31 := (i64_w _).trans hji31
          by_cases c32 : 0 ≤ (ji31)
          ·rw [if_pos c32] at H
           have c32b0 : decide (0 ≤ (ji31)) = true := decide_eq_true c32
           clear c32
           by_cases c33 : (ji31) < (x8_1.length : Int)
           ·rw [if_pos c33] at H
            have c33b0 : decide ((ji31) < (x8_1.length : Int)) = true := decide_eq_true c33
            clear c33
            by_cases c34 : 0 ≤ x9_1
            ·rw [if_pos c34] at H
             have c34b0 : decide (0 ≤ x9_1) = true := decide_eq_true c34
             clear c34
             by_cases c35 : x9_1 < (t77001.length : Int)
             ·rw [if_pos c35] at H
              have c35b0 : decide (x9_1 < (t77001.length : Int)) = true := decide_eq_true c35
              clear c35
              by_cases c36 : ((rd_T37 x8_1 (ji31)).f1) = (rd t77001 x9_1)
              ·rw [if_pos c36] at H
               have c36b0 : (((rd_T37 x8_1 (ji31)).f1) == (rd t77001 x9_1)) = true := beq_iff_eq.mpr c36
               have c36b1 : (((rd_T37 x8_1 (ji31)).f1) != (rd t77001 x9_1)) = false := bne_eq_false_iff_eq.mpr c36
               clear c36
               obtain ⟨ji37, hji37⟩ : ∃ j_ : Int, (wrap64 (x9_1 + 1)) = j_ := ⟨_, rfl⟩
               replace H : (if 0 ≤ (ji37) then (if (ji37) < (t77001.length : Int) then (papermillref04_combine.l0 kj10 l0 l1 a2 t77001 (x8_1.set ((ji31) : Int).toNat (⟨(rd_T37 x8_1 (ji31)).f0, rd t77001 (ji37)⟩ : S37)) ji37) else (none)) else (none)) = some r := by first | (rw [hji37] at H; exact H) | (simp only [hji37] at H ⊢; exact H)
               (try rw [hji37] at c6b0)
               have hji37w : (IntKind.i64.wrap (x9_1 + 1)) = ji37 := (i64_w _).trans hji37
               by_cases c38 : 0 ≤ (ji37)
               ·rw [if_pos c38] at H
                have c38b0 : decide (0 ≤ (ji37)) = true := decide_eq_true c38
                clear c38
                by_cases c39 : (ji37) < (t77001.length : Int)
                ·rw [if_pos c39] at H
                 have c39b0 : decide ((ji37) < (t77001.length : Int)) = true := decide_eq_true c39
                 clear c39
                 obtain ⟨y77011, hy77011⟩ : ∃ y_ : List (S37), y_ = (x8_1.set ((ji31) : Int).toNat (⟨(rd_T37 x8_1 (ji31)).f0, rd t77001 (ji37)⟩ : S37)) := ⟨_, rfl⟩
                 replace H : (papermillref04_combine.l0 kj10 l0 l1 a2 t77001 y77011 ji37) = some r := by first | (rw [hy77011]; with_reducible exact H) | (have H2_ := (Option.bind_some _ _).symm.trans H; rw [hy77011]; with_reducible exact H2_) | (have H2_ := (Option.bind_some _ _).symm.trans H; with_reducible exact H2_) | with_reducible exact H | (rw [hy77011]; exact H) | exact H
                 have Ny77011 := Aside0.mk hy77011
                 clear hy77011
                 have H' := Aside0.mk H
                 clear H
                 obtain ⟨Ao41, co41, eo41⟩ := Kd.R_slice HO_8.out
                 subst eo41
                 try go_wp2
                 have n0_ := Aside0.mk (Kd.R_drew HO_7.out)
                 have n1_ := Aside0.mk (Kd.R_drew HO_8.out)
                 have n2_ := Aside0.mk (below_drew1 HB.out)
                 clear HO_7
                 clear HO_8
                 clear HB
                 have HO_7 := n0_
                 have HO_8 := n1_
                 have HB := n2_
                 clear n0_ n1_ n2_
                 have p77008 : 0 ≤ ((ji31) : Int) := of_decide_eq_true (by assumption)
                 have q77008 : (ji31) < (x8_1.length : Int) := of_decide_eq_true (by assumption)
                 obtain ⟨ad77008, e77008, hx77008_0, hx77008_1⟩ := at_T37 (Kd.R_reads' HO_8.out).2.2 (ji31) p77008 q77008
                 cases e77008
                 replace p77008 := eq_true p77008
                 replace q77008 := eq_true q77008
                 have p77009 : 0 ≤ (x9_1 : Int) := of_decide_eq_true (by assumption)
                 have q77009 : x9_1 < (t77001.length : Int) := of_decide_eq_true (by assumption)
                 obtain ⟨ad77009, e77009, hx77009_0⟩ := Kd.at_int (Kd.R_reads' HO_7.out).2.2 x9_1 p77009 q77009
                 obtain rfl : ad77004 = ad77009 := (by injection e77009)
                 replace p77009 := eq_true p77009
                 replace q77009 := eq_true q77009
                 refine start_ (n := 14) (S := fun w' => w'.cell? (ad77008.add (((ji31)).toNat * 2)) = some (.int .i64 ((rd_T37 x8_1 (ji31)).f0)) ∧ w'.cell? ⟨(ad77008.add (((ji31)).toNat * 2)).block, (ad77008.add (((ji31)).toNat * 2)).off + 1, none⟩ = some (.int .i64 ((rd_T37 x8_1 (ji31)).f1)) ∧ w'.cell? (ad77004.add (x9_1).toNat) = some (.int .i64 (rd t77001 x9_1))) (ds := []) #[false, false, false, false, false, false, false, false, false, false, false, false, false, false] (by kernel_rfl) rfl rfl ⟨hx77008_0, hx77008_1, hx77009_0⟩ (fun hHeld => ?_); refine with_tabW papermillref04_combine.tab9 papermillref04_combine.bits9 (fun HT_ HW_ => ?_)
                 generalize wc.drew = w42 at HO_7 HO_8 HB hx77008_0 hx77008_1 hx77009_0 hHeld ⊢
                 refine pure_ (i := 0) (N := some 70) (v := ?_) (a' := ?_) #[true, false, false, false, false, false, false, false, false, false, false, false, false, false] rfl rfl (any_of HT_.out (by kernel_rfl)) (fun _ _ _ h => h) (Or.inl ⟨by rfl, ?_⟩) ?_ ?_
                 rotate_left
                 ·intro w'
                  go_simp
                  with_reducible rfl
                 rotate_left
                 ·simp only [Act.put, List.setIfInBounds_toArray, List.set_cons_zero, List.set_cons_succ, i64_w, i32_w]
                  rfl
                 refine pure_ (i := 1) (N := some 71) (v := ?_) (a' := ?_) #[true, true, false, false, false, false, false, false, false, false, false, false, false, false] rfl rfl (any_of HT_.out (by kernel_rfl)) (fun _ _ _ h => h) (Or.inl ⟨by rfl, ?_⟩) ?_ ?_
                 rotate_left
                 ·intro w'
                  go_simp
                  with_reducible rfl
                 rotate_left
                 ·simp only [Act.put, List.setIfInBounds_toArray, List.set_cons_zero, List.set_cons_succ, i64_w, i32_w]
                  rfl
                 refine pure_ (i := 2) (N := some 72) (v := ?_) (a' := ?_) #[true, true, true, false, false, false, false, false, false, false, false, false, false, false] rfl rfl (any_of HT_.out (by kernel_rfl)) (fun _ _ _ h => h) (Or.inl ⟨by rfl, ?_⟩) ?_ ?_
                 rotate_left
                 ·intro w'
                  go_simp
                  with_reducible rfl
                 rotate_left
                 ·simp only [Act.put, List.setIfInBounds_toArray, List.set_cons_zero, List.set_cons_succ, i64_w, i32_w]
                  rfl
                 refine pure_ (i := 3) (N := some 73) (v := ?_) (a' := ?_) #[true, true, true, true, false, false, false, false, false, false, false, false, false, false] rfl rfl (any_of HT_.out (by kernel_rfl)) (fun _ _ _ h => h) (Or.inl ⟨by rfl, ?_⟩) ?_ ?_
                 rotate_left
                 ·intro w'
                  go_simp
                  with_reducible rfl
                 rotate_left
                 ·simp only [Act.put, List.setIfInBounds_toArray, List.set_cons_zero, List.set_cons_succ, i64_w, i32_w]
                  rfl
                 refine pure_ (i := 4) (N := some 74) (v := ?_) (a' := ?_) #[true, true, true, true, true, false, false, false, false, false, false, false, false, false] rfl rfl (any_of HT_.out (by kernel_rfl)) (fun _ _ _ h => h) (Or.inl ⟨by rfl, ?_⟩) ?_ ?_
                 rotate_left
                 ·intro w'
                  go_simp
                  with_reducible rfl
                 rotate_left
                 ·simp only [Act.put, List.setIfInBounds_toArray, List.set_cons_zero, List.set_cons_succ, i64_w, i32_w]
                  rfl
                 refine pure_ (i := 5) (N := some 75) (v := ?_) (a' := ?_) #[true, true, true, true, true, true, false, false, false, false, false, false, false, false] rfl rfl (any_of HT_.out (by kernel_rfl)) (fun _ _ _ h => h) (Or.inl ⟨by rfl, ?_⟩) ?_ ?_
                 rotate_left
                 ·intro w'
                  go_simp
                  with_reducible rfl
                 rotate_left
                 ·simp only [Act.put, List.setIfInBounds_toArray, List.set_cons_zero, List.set_cons_succ, i64_w, i32_w]
                  rfl
                 refine pure_ (i := 6) (N := some 76) (v := ?_) (a' := ?_) #[true, true, true, true, true, true, true, false, false, false, false, false, false, false] rfl rfl (any_of HT_.out (by kernel_rfl)) (fun _ _ _ h => h) (Or.inl ⟨by rfl, ?_⟩) ?_ ?_
                 rotate_left
                 ·intro w'
                  go_simp
                  with_reducible rfl
                 rotate_left
                 ·simp only [Act.put, List.setIfInBounds_toArray, List.set_cons_zero, List.set_cons_succ, i64_w, i32_w]
                  rfl
                 refine pure_ (i := 8) (N := some 78) (v := ?_) (a' := ?_) #[true, true, true, true, true, true, true, false, true, false, false, false, false, false] rfl rfl (any_of HT_.out (by kernel_rfl)) (fun _ _ _ h => h) (Or.inl ⟨by rfl, ?_⟩) ?_ ?_
                 rotate_left
                 ·intro w'
                  go_simp
                  with_reducible rfl
                 rotate_left
                 ·simp only [Act.put, List.setIfInBounds_toArray, List.set_cons_zero, List.set_cons_succ, i64_w, i32_w]
                  rfl
                 refine pure_ (i := 9) (N := some 79) (v := ?_) (a' := ?_) #[true, true, true, true, true, true, true, false, true, true, false, false, false, false] rfl rfl (any_of HT_.out (by kernel_rfl)) (fun _ _ _ h => h) (Or.inl ⟨by rfl, ?_⟩) ?_ ?_
                 rotate_left
                 ·intro w'
                  go_simp
                  with_reducible rfl
                 rotate_left
                 ·simp only [Act.put, List.setIfInBounds_toArray, List.set_cons_zero, List.set_cons_succ, i64_w, i32_w]
                  rfl
                 refine pure_ (i := 10) (N := some 80) (v := ?_) (a' := ?_) #[true, true, true, true, true, true, true, false, true, true, true, false, false, false] rfl rfl (any_of HT_.out (by kernel_rfl)) (fun _ _ _ h => h) (Or.inl ⟨by rfl, ?_⟩) ?_ ?_
                 rotate_left
                 ·intro w'
                  go_simp
                  with_reducible rfl
                 rotate_left
                 ·simp only [Act.put, List.setIfInBounds_toArray, List.set_cons_zero, List.set_cons_succ, i64_w, i32_w]
                  rfl
                 refine take_ (i := 7) (N := some 77) (v := ?_) (a' := ?_) #[true, true, true, true, true, true, true, true, true, true, true, false, false, false] rfl rfl (take_ofW HT_.out HW_.out (by kernel_rfl)) (fun _ _ _ h => h) (Or.inl ⟨by rfl, ?_⟩) hHeld ?_ ?_
                 rotate_left
                 ·rintro w' ⟨s0, s1, s2⟩
                  go_simp
                  with_reducible rfl
                 rotate_left
                 ·simp only [Act.put, List.setIfInBounds_toArray, List.set_cons_zero, List.set_cons_succ, i64_w, i32_w]
                  rfl
                 refine take_ (i := 11) (N := some 81) (v := ?_) (a' := ?_) #[true, true, true, true, true, true, true, true, true, true, true, true, false, false] rfl rfl (take_ofW HT_.out HW_.out (by kernel_rfl)) (fun _ _ _ h => h) (Or.inl ⟨by rfl, ?_⟩) hHeld ?_ ?_
                 rotate_left
                 ·rintro w' ⟨s0, s1, s2⟩
                  go_simp
                  with_reducible rfl
                 rotate_left
                 ·simp only [Act.put, List.setIfInBounds_toArray, List.set_cons_zero, List.set_cons_succ, i64_w, i32_w]
                  rfl
                 refine pure_ (i := 12) (N := some 82) (v := ?_) (a' := ?_) #[true, true, true, true, true, true, true, true, true, true, true, true, true, false] rfl rfl (any_of HT_.out (by kernel_rfl)) (fun _ _ _ h => h) (Or.inl ⟨by rfl, ?_⟩) ?_ ?_
                 rotate_left
                 ·intro w'
                  go_simp
                  with_reducible rfl
                 rotate_left
                 ·simp only [Act.put, List.setIfInBounds_toArray, List.set_cons_zero, List.set_cons_succ, i64_w, i32_w]
                  rfl
                 refine pure_ (i := 13) (N := some 83) (v := ?_) (a' := ?_) #[true, true, true, true, true, true, true, true, true, true, true, true, true, true] rfl rfl (any_of HT_.out (by kernel_rfl)) (fun _ _ _ h => h) (Or.inl ⟨by rfl, ?_⟩) ?_ ?_
                 rotate_left
                 ·intro w'
                  go_simp
                  with_reducible rfl
                 rotate_left
                 ·simp only [Act.put, List.setIfInBounds_toArray, List.set_cons_zero, List.set_cons_succ, i64_w, i32_w]
                  rfl
                 refine done_ (done_of HT_.out (by kernel_rfl)) ?_
                 have p77010 : 0 ≤ ((ji37) : Int) := of_decide_eq_true (by assumption)
                 have q77010 : (ji37) < (t77001.length : Int) := of_decide_eq_true (by assumption)
                 obtain ⟨ad77010, e77010, hx77010_0⟩ := Kd.at_int (Kd.R_reads' HO_7.out).2.2 (ji37) p77010 q77010
                 obtain rfl : ad77004 = ad77010 := (by injection e77010)
                 replace p77010 := eq_true p77010
                 replace q77010 := eq_true q77010
                 have p40 : 0 ≤ ((ji31) : Int) := of_decide_eq_true (by assumption)
                 have q40 : ((ji31) : Int) < ((x8_1.length : Int) : Int) := of_decide_eq_true (by assumption)
                 obtain ⟨go40, co40, eo40, gb40, gl40, cl40, HG40⟩ := Kd.R_form HO_8.out (by omega)
                 (first | cases eo40 | (injection eo40 with ea_ en_ ec_; (first | subst ea_ | (injection ea_ with ea_; subst ea_)); subst ec_; clear en_))
                 have GB40 := Aside0.mk gb40
                 have GG40 := Aside0.mk HG40
                 clear gb40 gl40 HG40
                 (first | simp only [add_plain] at hx77008_0 | skip)
                 (first | simp only [add_plain] at hx77008_1 | skip)
                 obtain ⟨ce40, hcl40, hM40, hcc40, hfr40⟩ := Kd.R_elem HO_8.out z37 ((ji31) : Int) p40 q40
                 obtain rfl := k37_openM hM40
                 have hx40_0 : w42.cell? ⟨go40, ((ji31) : Int).toNat * 2, none⟩ = some (.int .i64 ((rd_T37 x8_1 (ji31)).f0)) := hcc40 0 _ rfl
                 have hx40_1 : w42.cell? ⟨go40, ((ji31) : Int).toNat * 2 + 1, none⟩ = some (.int .i64 ((rd_T37 x8_1 (ji31)).f1)) := hcc40 1 _ rfl
                 have hf40_0 : w42.frozen? ⟨go40, ((ji31) : Int).toNat * 2, none⟩ = false := hfr40 0
                 have hf40_1 : w42.frozen? ⟨go40, ((ji31) : Int).toNat * 2 + 1, none⟩ = false := hfr40 1
                 clear hcl40 hcc40 hfr40 hM40
                 replace p40 := eq_true p40
                 replace q40 := eq_true q40
                 have HX43 := Aside0.mk (show Kd.R k37 37 w42 w.heap.size (fun _ => True) (.slice (some ⟨go40, 0, none⟩) x8_1.length co41) x8_1 from (HO_8.out))
                 obtain ⟨ce43, hcl43, hM43, hcc43, hfr43⟩ := Kd.R_elem HX43.out z37 ((ji31) : Int) (of_decide_eq_true (by assumption)) (by have h_ : ((ji31) : Int) < ((x8_1.length : Int) : Int) := of_decide_eq_true (by assumption); first | exact h_ | (have e_ := (Kd.R_reads' HO_8.out).1; omega) | simpa using h_)
                 obtain rfl := k37_openM hM43
                 have HP43 := Kd.R_seg HX43.out ((ji31) : Int) (of_decide_eq_true (by assumption)) (by have h_ : ((ji31) : Int) < ((x8_1.length : Int) : Int) := of_decide_eq_true (by assumption); first | exact h_ | (have e_ := (Kd.R_reads' HO_8.out).1; omega) | simpa using h_) (seg := [.int .i64 (rd t77001 (ji37))]) (j := 1) hcl43 hcc43 (show 2 ≤ 2 from by decide) (x' := (⟨(rd_T37 x8_1 (ji31)).f0, rd t77001 (ji37)⟩ : S37)) (k37_mkM _ _ _ (⟨(rd_T37 x8_1 (ji31)).f0, rd t77001 (ji37)⟩ : S37) ) (fun _ hk => hk)
                 have hx43_1 := hcc43 1 _ rfl
                 (try simp only [show (k37).sz = 2 from rfl, Nat.mul_one, Nat.add_zero] at hx43_1)
                 have hf43_1 := hfr43 1
                 (try simp only [show (k37).sz = 2 from rfl, Nat.mul_one, Nat.add_zero] at hf43_1)
                 clear hcl43 hcc43 hfr43 hM43
                 try go_wp2_with (first | ((with_reducible refine gate_store (t := 3) (p := 92) rfl ?_); refine store_event (t := 3) (p := 92) (v := ?vo_w44) (w1 := (w42.setCell ⟨go40, ((ji31) : Int).toNat * 2 + 1, none⟩ (.int .i64 (rd t77001 (ji37))))) ?hg ?ho ?hn ?hr ?_; (case ho => rfl); (case hg => rfl); (case hn => rfl); (case hr => first | (go_simp; done) | (go_simp; rfl)); intro w44 hw; have hg : w42.grownBy w44 (some go40) := (by rw [hw]; exact HP43.2); have hp_ : Kd.R k37 37 w44 w.heap.size (fun _ => True) (.slice (some ⟨go40, 0, none⟩) x8_1.length co41) y77011 := (by rw [hw, Ny77011.out]; exact HP43.1); clear HP43; have n0_ := Aside0.mk (Kd.R_over' (v := (.slice (some ⟨go40, 0, none⟩) x8_1.length co41)) (HO_7.out) (Kd.R_typed HO_8.out) (by decide) hg); have n1_ := Aside0.mk (hp_); have n2_ := Aside0.mk ((by rw [hw]; exact below_set (HB.out) GB40.out : Below w.heap.size w w44)); clear HO_7; clear HO_8; clear HB; have HO_7 := n0_; have HO_8 := n1_; have HB := n2_; clear n0_ n1_ n2_; clear hg hw hp_))
                 go_roundg kj10
                 case measure => have := HK1.out; have := HJ10.out; omega
                 case rel => exact ⟨(y77011), (ji37), (by first | rfl | (simp; done) | (simp only [← hji37] <;> (first | rfl | (simp; done))) | (simp [*]; done)), H', ⟨by have := HK1.out; have := HJ10.out; omega⟩, ⟨HO_7.out⟩, ⟨HO_8.out⟩, ⟨by repeat (first | exact HB.out | apply below_alloc | apply pw_below_drewN | apply below_drew1)⟩⟩
                ·rw [if_neg c39] at H
                 exact absurd H (by simp)
               ·rw [if_neg c38] at H
                exact absurd H (by simp)
              ·rw [if_neg c36] at H
               have c36b0 : (((rd_T37 x8_1 (ji31)).f1) == (rd t77001 x9_1)) = false := beq_eq_false_iff_ne.mpr c36
               have c36b1 : (((rd_T37 x8_1 (ji31)).f1) != (rd t77001 x9_1)) = true := bne_iff_ne.mpr c36
               obtain ⟨ji45, hji45⟩ : ∃ j_ : Int, (wrap64 (x9_1 + 1)) = j_ := ⟨_, rfl⟩
               replace H : (if 0 ≤ (ji45) then (if (ji45) < (t77001.length : Int) then (if x8_1.length < 8796093022208 then (papermillref04_combine.l0 kj10 l0 l1 a2 t77001 (x8_1 ++ [(⟨rd t77001 x9_1, rd t77001 (ji45)⟩ : S37)]) ji45) else (none)) else (none)) else (none)) = some r := by first | (rw [hji45] at H; exact H) | (simp only [hji45] at H ⊢; exact H)
               (try rw [hji45] at c6b0)
               have hji45w : (IntKind.i64.wrap (x9_1 + 1)) = ji45 := (i64_w _).trans hji45
               by_cases c46 : 0 ≤ (ji45)
               ·rw [if_pos c46] at H
                have c46b0 : decide (0 ≤ (ji45)) = true := decide_eq_true c46
                clear c46
                by_cases c47 : (ji45) < (t77001.length : Int)
                ·rw [if_pos c47] at H
                 have c47b0 : decide ((ji45) < (t77001.length : Int)) = true := decide_eq_true c47
                 clear c47
                 by_cases c48 : x8_1.length < 8796093022208
                 ·rw [if_pos c48] at H
                  have LMc48 := Aside0.mk c48
                  clear c48
                  obtain ⟨y77014, hy77014⟩ : ∃ y_ : List (S37), y_ = (x8_1 ++ [(⟨rd t77001 x9_1, rd t77001 (ji45)⟩ : S37)]) := ⟨_, rfl⟩
                  replace H : (papermillref04_combine.l0 kj10 l0 l1 a2 t77001 y77014 ji45) = some r := by first | (rw [hy77014]; with_reducible exact H) | (have H2_ := (Option.bind_some _ _).symm.trans H; rw [hy77014]; with_reducible exact H2_) | (have H2_ := (Option.bind_some _ _).symm.trans H; with_reducible exact H2_) | with_reducible exact H | (rw [hy77014]; exact H) | exact H
                  have Ny77014 := Aside0.mk hy77014
                  clear hy77014
                  have H' := Aside0.mk H
                  clear H
                  obtain ⟨Ao49, co49, eo49⟩ := Kd.R_slice HO_8.out
                  subst eo49
                  try go_wp2
                  have n0_ := Aside0.mk (Kd.R_drew HO_7.out)
                  have n1_ := Aside0.mk (Kd.R_drew HO_8.out)
                  have n2_ := Aside0.mk (below_drew1 HB.out)
                  clear HO_7
                  clear HO_8
                  clear HB
                  have HO_7 := n0_
                  have HO_8 := n1_
                  have HB := n2_
                  clear n0_ n1_ n2_
                  have p77008 : 0 ≤ ((ji31) : Int) := of_decide_eq_true (by assumption)
                  have q77008 : (ji31) < (x8_1.length : Int) := of_decide_eq_true (by assumption)
                  obtain ⟨ad77008, e77008, hx77008_0, hx77008_1⟩ := at_T37 (Kd.R_reads' HO_8.out).2.2 (ji31) p77008 q77008
                  cases e77008
                  replace p77008 := eq_true p77008
                  replace q77008 := eq_true q77008
                  have p77009 : 0 ≤ (x9_1 : Int) := of_decide_eq_true (by assumption)
                  have q77009 : x9_1 < (t77001.length : Int) := of_decide_eq_true (by assumption)
                  obtain ⟨ad77009, e77009, hx77009_0⟩ := Kd.at_int (Kd.R_reads' HO_7.out).2.2 x9_1 p77009 q77009
                  obtain rfl : ad77004 = ad77009 := (by injection e77009)
                  replace p77009 := eq_true p77009
                  replace q77009 := eq_true q77009
                  refine start_ (n := 14) (S := fun w' => w'.cell? (ad77008.add (((ji31)).toNat * 2)) = some (.int .i64 ((rd_T37 x8_1 (ji31)).f0)) ∧ w'.cell? ⟨(ad77008.add (((ji31)).toNat * 2)).block, (ad77008.add (((ji31)).toNat * 2)).off + 1, none⟩ = some (.int .i64 ((rd_T37 x8_1 (ji31)).f1)) ∧ w'.cell? (ad77004.add (x9_1).toNat) = some (.int .i64 (rd t77001 x9_1))) (ds := []) #[false, false, false, false, false, false, false, false, false, false, false, false, false, false] (by kernel_rfl) rfl rfl ⟨hx77008_0, hx77008_1, hx77009_0⟩ (fun hHeld => ?_); refine with_tabW papermillref04_combine.tab9 papermillref04_combine.bits9 (fun HT_ HW_ => ?_)
                  generalize wc.drew = w50 at HO_7 HO_8 HB hx77008_0 hx77008_1 hx77009_0 hHeld ⊢
                  refine pure_ (i := 0) (N := some 70) (v := ?_) (a' := ?_) #[true, false, false, false, false, false, false, false, false, false, false, false, false, false] rfl rfl (any_of HT_.out (by kernel_rfl)) (fun _ _ _ h => h) (Or.inl ⟨by rfl, ?_⟩) ?_ ?_
                  rotate_left
                  ·intro w'
                   go_simp
                   with_reducible rfl
                  rotate_left
                  ·simp only [Act.put, List.setIfInBounds_toArray, List.set_cons_zero, List.set_cons_succ, i64_w, i32_w]
                   rfl
                  refine pure_ (i := 1) (N := some 71) (v := ?_) (a' := ?_) #[true, true, false, false, false, false, false, false, false, false, false, false, false, false] rfl rfl (any_of HT_.out (by kernel_rfl)) (fun _ _ _ h => h) (Or.inl ⟨by rfl, ?_⟩) ?_ ?_
                  rotate_left
                  ·intro w'
                   go_simp
                   with_reducible rfl
                  rotate_left
                  ·simp only [Act.put, List.setIfInBounds_toArray, List.set_cons_zero, List.set_cons_succ, i64_w, i32_w]
                   rfl
                  refine pure_ (i := 2) (N := some 72) (v := ?_) (a' := ?_) #[true, true, true, false, false, false, false, false, false, false, false, false, false, false] rfl rfl (any_of HT_.out (by kernel_rfl)) (fun _ _ _ h => h) (Or.inl ⟨by rfl, ?_⟩) ?_ ?_
                  rotate_left
                  ·intro w'
                   go_simp
                   with_reducible rfl
                  rotate_left
                  ·simp only [Act.put, List.setIfInBounds_toArray, List.set_cons_zero, List.set_cons_succ, i64_w, i32_w]
                   rfl
                  refine pure_ (i := 3) (N := some 73) (v := ?_) (a' := ?_) #[true, true, true, true, false, false, false, false, false, false, false, false, false, false] rfl rfl (any_of HT_.out (by kernel_rfl)) (fun _ _ _ h => h) (Or.inl ⟨by rfl, ?_⟩) ?_ ?_
                  rotate_left
                  ·intro w'
                   go_simp
                   with_reducible rfl
                  rotate_left
                  ·simp only [Act.put, List.setIfInBounds_toArray, List.set_cons_zero, List.set_cons_succ, i64_w, i32_w]
                   rfl
                  refine pure_ (i := 4) (N := some 74) (v := ?_) (a' := ?_) #[true, true, true, true, true, false, false, false, false, false, false, false, false, false] rfl rfl (any_of HT_.out (by kernel_rfl)) (fun _ _ _ h => h) (Or.inl ⟨by rfl, ?_⟩) ?_ ?_
                  rotate_left
                  ·intro w'
                   go_simp
                   with_reducible rfl
                  rotate_left
                  ·simp only [Act.put, List.setIfInBounds_toArray, List.set_cons_zero, List.set_cons_succ, i64_w, i32_w]
                   rfl
                  refine pure_ (i := 5) (N := some 75) (v := ?_) (a' := ?_) #[true, true, true, true, true, true, false, false, false, false, false, false, false, false] rfl rfl (any_of HT_.out (by kernel_rfl)) (fun _ _ _ h => h) (Or.inl ⟨by rfl, ?_⟩) ?_ ?_
                  rotate_left
                  ·intro w'
                   go_simp
                   with_reducible rfl
                  rotate_left
                  ·simp only [Act.put, List.setIfInBounds_toArray, List.set_cons_zero, List.set_cons_succ, i64_w, i32_w]
                   rfl
                  refine pure_ (i := 6) (N := some 76) (v := ?_) (a' := ?_) #[true, true, true, true, true, true, true, false, false, false, false, false, false, false] rfl rfl (any_of HT_.out (by kernel_rfl)) (fun _ _ _ h => h) (Or.inl ⟨by rfl, ?_⟩) ?_ ?_
                  rotate_left
                  ·intro w'
                   go_simp
                   with_reducible rfl
                  rotate_left
                  ·simp only [Act.put, List.setIfInBounds_toArray, List.set_cons_zero, List.set_cons_succ, i64_w, i32_w]
                   rfl
                  refine pure_ (i := 8) (N := some 78) (v := ?_) (a' := ?_) #[true, true, true, true, true, true, true, false, true, false, false, false, false, false] rfl rfl (any_of HT_.out (by kernel_rfl)) (fun _ _ _ h => h) (Or.inl ⟨by rfl, ?_⟩) ?_ ?_
                  rotate_left
                  ·intro w'
                   go_simp
                   with_reducible rfl
                  rotate_left
                  ·simp only [Act.put, List.setIfInBounds_toArray, List.set_cons_zero, List.set_cons_succ, i64_w, i32_w]
                   rfl
                  refine pure_ (i := 9) (N := some 79) (v := ?_) (a' := ?_) #[true, true, true, true, true, true, true, false, true, true, false, false, false, false] rfl rfl (any_of HT_.out (by kernel_rfl)) (fun _ _ _ h => h) (Or.inl ⟨by rfl, ?_⟩) ?_ ?_
                  rotate_left
                  ·intro w'
                   go_simp
                   with_reducible rfl
                  rotate_left
                  ·simp only [Act.put, List.setIfInBounds_toArray, List.set_cons_zero, List.set_cons_succ, i64_w, i32_w]
                   rfl
                  refine pure_ (i := 10) (N := some 80) (v := ?_) (a' := ?_) #[true, true, true, true, true, true, true, false, true, true, true, false, false, false] rfl rfl (any_of HT_.out (by kernel_rfl)) (fun _ _ _ h => h) (Or.inl ⟨by rfl, ?_⟩) ?_ ?_
                  rotate_left
                  ·intro w'
                   go_simp
                   with_reducible rfl
                  rotate_left
                  ·simp only [Act.put, List.setIfInBounds_toArray, List.set_cons_zero, List.set_cons_succ, i64_w, i32_w]
                   rfl
                  refine take_ (i := 7) (N := some 77) (v := ?_) (a' := ?_) #[true, true, true, true, true, true, true, true, true, true, true, false, false, false] rfl rfl (take_ofW HT_.out HW_.out (by kernel_rfl)) (fun _ _ _ h => h) (Or.inl ⟨by rfl, ?_⟩) hHeld ?_ ?_
                  rotate_left
                  ·rintro w' ⟨s0, s1, s2⟩
                   go_simp
                   with_reducible rfl
                  rotate_left
                  ·simp only [Act.put, List.setIfInBounds_toArray, List.set_cons_zero, List.set_cons_succ, i64_w, i32_w]
                   rfl
                  refine take_ (i := 11) (N := some 81) (v := ?_) (a' := ?_) #[true, true, true, true, true, true, true, true, true, true, true, true, false, false] rfl rfl (take_ofW HT_.out HW_.out (by kernel_rfl)) (fun _ _ _ h => h) (Or.inl ⟨by rfl, ?_⟩) hHeld ?_ ?_
                  rotate_left
                  ·rintro w' ⟨s0, s1, s2⟩
                   go_simp
                   with_reducible rfl
                  rotate_left
                  ·simp only [Act.put, List.setIfInBounds_toArray, List.set_cons_zero, List.set_cons_succ, i64_w, i32_w]
                   rfl
                  refine pure_ (i := 12) (N := some 82) (v := ?_) (a' := ?_) #[true, true, true, true, true, true, true, true, true, true, true, true, true, false] rfl rfl (any_of HT_.out (by kernel_rfl)) (fun _ _ _ h => h) (Or.inl ⟨by rfl, ?_⟩) ?_ ?_
                  rotate_left
                  ·intro w'
                   go_simp
                   with_reducible rfl
                  rotate_left
                  ·simp only [Act.put, List.setIfInBounds_toArray, List.set_cons_zero, List.set_cons_succ, i64_w, i32_w]
                   rfl
                  refine pure_ (i := 13) (N := some 83) (v := ?_) (a' := ?_) #[true, true, true, true, true, true, true, true, true, true, true, true, true, true] rfl rfl (any_of HT_.out (by kernel_rfl)) (fun _ _ _ h => h) (Or.inl ⟨by rfl, ?_⟩) ?_ ?_
                  rotate_left
                  ·intro w'
                   go_simp
                   with_reducible rfl
                  rotate_left
                  ·simp only [Act.put, List.setIfInBounds_toArray, List.set_cons_zero, List.set_cons_succ, i64_w, i32_w]
                   rfl
                  refine done_ (done_of HT_.out (by kernel_rfl)) ?_
                  try go_wp2
                  have n0_ := Aside0.mk (Kd.R_drew HO_7.out)
                  have n1_ := Aside0.mk (Kd.R_drew HO_8.out)
                  have n2_ := Aside0.mk (below_drew1 HB.out)
                  clear HO_7
                  clear HO_8
                  clear HB
                  have HO_7 := n0_
                  have HO_8 := n1_
                  have HB := n2_
                  clear n0_ n1_ n2_
                  have p77012 : 0 ≤ (x9_1 : Int) := of_decide_eq_true (by assumption)
                  have q77012 : x9_1 < (t77001.length : Int) := of_decide_eq_true (by assumption)
                  obtain ⟨ad77012, e77012, hx77012_0⟩ := Kd.at_int (Kd.R_reads' HO_7.out).2.2 x9_1 p77012 q77012
                  obtain rfl : ad77004 = ad77012 := (by injection e77012)
                  replace p77012 := eq_true p77012
                  replace q77012 := eq_true q77012
                  have p77013 : 0 ≤ ((ji45) : Int) := of_decide_eq_true (by assumption)
                  have q77013 : (ji45) < (t77001.length : Int) := of_decide_eq_true (by assumption)
                  obtain ⟨ad77013, e77013, hx77013_0⟩ := Kd.at_int (Kd.R_reads' HO_7.out).2.2 (ji45) p77013 q77013
                  obtain rfl : ad77004 = ad77013 := (by injection e77013)
                  replace p77013 := eq_true p77013
                  replace q77013 := eq_true q77013
                  refine start_ (n := 14) (S := fun w' => w'.cell? (ad77004.add (x9_1).toNat) = some (.int .i64 (rd t77001 x9_1)) ∧ w'.cell? (ad77004.add ((ji45)).toNat) = some (.int .i64 (rd t77001 (ji45)))) (ds := [11, 12]) #[false, false, false, false, false, false, false, false, false, false, false, false, false, false] (by kernel_rfl) rfl rfl ⟨hx77012_0, hx77013_0⟩ (fun hHeld => ?_); refine with_tabW papermillref04_combine.tab11 papermillref04_combine.bits11 (fun HT_ HW_ => ?_)
                  generalize w50.drew = w51 at HO_7 HO_8 HB hx77012_0 hx77013_0 hHeld ⊢
                  refine pure_ (i := 0) (N := some 93) (v := ?_) (a' := ?_) #[true, false, false, false, false, false, false, false, false, false, false, false, false, false] rfl rfl (any_of HT_.out (by kernel_rfl)) (fun _ _ _ h => h) (Or.inl ⟨by rfl, ?_⟩) ?_ ?_
                  rotate_left
                  ·intro w'
                   go_simp
                   with_reducible rfl
                  rotate_left
                  ·simp only [Act.put, List.setIfInBounds_toArray, List.set_cons_zero, List.set_cons_succ, i64_w, i32_w]
                   rfl
                  refine pure_ (i := 1) (N := some 94) (v := ?_) (a' := ?_) #[true, true, false, false, false, false, false, false, false, false, false, false, false, false] rfl rfl (any_of HT_.out (by kernel_rfl)) (fun _ _ _ h => h) (Or.inl ⟨by rfl, ?_⟩) ?_ ?_
                  rotate_left
                  ·intro w'
                   go_simp
                   with_reducible rfl
                  rotate_left
                  ·simp only [Act.put, List.setIfInBounds_toArray, List.set_cons_zero, List.set_cons_succ, i64_w, i32_w]
                   rfl
                  refine pure_ (i := 2) (N := some 95) (v := ?_) (a' := ?_) #[true, true, true, false, false, false, false, false, false, false, false, false, false, false] rfl rfl (any_of HT_.out (by kernel_rfl)) (fun _ _ _ h => h) (Or.inl ⟨by rfl, ?_⟩) ?_ ?_
                  rotate_left
                  ·intro w'
                   go_simp
                   with_reducible rfl
                  rotate_left
                  ·simp only [Act.put, List.setIfInBounds_toArray, List.set_cons_zero, List.set_cons_succ, i64_w, i32_w]
                   rfl
                  refine pure_ (i := 3) (N := some 96) (v := ?_) (a' := ?_) #[true, true, true, true, false, false, false, false, false, false, false, false, false, false] rfl rfl (any_of HT_.out (by kernel_rfl)) (fun _ _ _ h => h) (Or.inl ⟨by rfl, ?_⟩) ?_ ?_
                  rotate_left
                  ·intro w'
                   go_simp
                   with_reducible rfl
                  rotate_left
                  ·simp only [Act.put, List.setIfInBounds_toArray, List.set_cons_zero, List.set_cons_succ, i64_w, i32_w]
                   rfl
                  refine pure_ (i := 5) (N := some 98) (v := ?_) (a' := ?_) #[true, true, true, true, false, true, false, false, false, false, false, false, false, false] rfl rfl (any_of HT_.out (by kernel_rfl)) (fun _ _ _ h => h) (Or.inl ⟨by rfl, ?_⟩) ?_ ?_
                  rotate_left
                  ·intro w'
                   go_simp
                   with_reducible rfl
                  rotate_left
                  ·simp only [Act.put, List.setIfInBounds_toArray, List.set_cons_zero, List.set_cons_succ, i64_w, i32_w]
                   rfl
                  refine pure_ (i := 6) (N := some 99) (v := ?_) (a' := ?_) #[true, true, true, true, false, true, true, false, false, false, false, false, false, false] rfl rfl (any_of HT_.out (by kernel_rfl)) (fun _ _ _ h => h) (Or.inl ⟨by rfl, ?_⟩) ?_ ?_
                  rotate_left
                  ·intro w'
                   go_simp
                   with_reducible rfl
                  rotate_left
                  ·simp only [Act.put, List.setIfInBounds_toArray, List.set_cons_zero, List.set_cons_succ, i64_w, i32_w]
                   rfl
                  refine pure_ (i := 7) (N := some 100) (v := ?_) (a' := ?_) #[true, true, true, true, false, true, true, true, false, false, false, false, false, false] rfl rfl (any_of HT_.out (by kernel_rfl)) (fun _ _ _ h => h) (Or.inl ⟨by rfl, ?_⟩) ?_ ?_
                  rotate_left
                  ·intro w'
                   go_simp
                   with_reducible rfl
                  rotate_left
                  ·simp only [Act.put, List.setIfInBounds_toArray, List.set_cons_zero, List.set_cons_succ, i64_w, i32_w]
                   rfl
                  refine pure_ (i := 8) (N := some 101) (v := ?_) (a' := ?_) #[true, true, true, true, false, true, true, true, true, false, false, false, false, false] rfl rfl (any_of HT_.out (by kernel_rfl)) (fun _ _ _ h => h) (Or.inl ⟨by rfl, ?_⟩) ?_ ?_
                  rotate_left
                  ·intro w'
                   go_simp
                   with_reducible rfl
                  rotate_left
                  ·simp only [Act.put, List.setIfInBounds_toArray, List.set_cons_zero, List.set_cons_succ, i64_w, i32_w]
                   rfl
                  refine take_ (i := 4) (N := some 97) (v := ?_) (a' := ?_) #[true, true, true, true, true, true, true, true, true, false, false, false, false, false] rfl rfl (take_ofW HT_.out HW_.out (by kernel_rfl)) (fun _ _ _ h => h) (Or.inl ⟨by rfl, ?_⟩) hHeld ?_ ?_
                  rotate_left
                  ·rintro w' ⟨s0, s1⟩
                   go_simp
                   with_reducible rfl
                  rotate_left
                  ·simp only [Act.put, List.setIfInBounds_toArray, List.set_cons_zero, List.set_cons_succ, i64_w, i32_w]
                   rfl
                  refine take_ (i := 9) (N := some 102) (v := ?_) (a' := ?_) #[true, true, true, true, true, true, true, true, true, true, false, false, false, false] rfl rfl (take_ofW HT_.out HW_.out (by kernel_rfl)) (fun _ _ _ h => h) (Or.inl ⟨by rfl, ?_⟩) hHeld ?_ ?_
                  rotate_left
                  ·rintro w' ⟨s0, s1⟩
                   go_simp
                   with_reducible rfl
                  rotate_left
                  ·simp only [Act.put, List.setIfInBounds_toArray, List.set_cons_zero, List.set_cons_succ, i64_w, i32_w]
                   rfl
                  refine pure_ (i := 10) (N := some 103) (v := ?_) (a' := ?_) #[true, true, true, true, true, true, true, true, true, true, true, false, false, false] rfl rfl (any_of HT_.out (by kernel_rfl)) (fun _ _ _ h => h) (Or.inl ⟨by rfl, ?_⟩) ?_ ?_
                  rotate_left
                  ·intro w'
                   go_simp
                   with_reducible rfl
                  rotate_left
                  ·simp only [Act.put, List.setIfInBounds_toArray, List.set_cons_zero, List.set_cons_succ, i64_w, i32_w]
                   rfl
                  refine last_ (i := 11) (N := some 104) #[true, true, true, true, true, true, true, true, true, true, true, true, false, false] rfl rfl (one_of HT_.out (by kernel_rfl)) (by decide) (fun K hK => ?_)
                  refine value_ (w1 := ?_) (v := ?_) (by rfl) rfl ?_ ?_
                  rotate_left 2
                  ·go_simp
                   constructor
                   ·rfl
                   ·rfl
                  refine hK.out _ _ ?_
                  clear hK K
                  refine norm_ (a' := ?_) ?_ ?_
                  rotate_left
                  ·show Act.put _ (some 104) _ = _
                   simp only [Act.put, List.setIfInBounds_toArray, List.set_cons_zero, List.set_cons_succ, i64_w, i32_w]
                   rfl
                  refine last_ (i := 12) (N := some 105) #[true, true, true, true, true, true, true, true, true, true, true, true, true, false] rfl rfl (one_of HT_.out (by kernel_rfl)) (by decide) (fun K hK => ?_)
                  refine Kd.R_append_step k37 (w0 := w) w.heap.size (by rfl) (.tmp 93) (.tmp 104) 41 37 (.agg #[(.int .i64 0), (.int .i64 0)]) 16 rfl Try.underlying41 info37 rfl (by decide) (by omega) (.slice (some ad77008) x8_1.length co49) x8_1 (⟨rd t77001 x9_1, rd t77001 (ji45)⟩ : S37) [.int .i64 (rd t77001 x9_1), .int .i64 (rd t77001 (ji45))] (fun _ => True) (fun _ => False) rfl rfl ?aP (fun _ hk => hk.elim) ?aF ?aO ?aB ?aS ?aL ?_
                  (case aP => exact k37_mkM _ _ _ (⟨rd t77001 x9_1, rd t77001 (ji45)⟩ : S37))
                  (case aB => exact (by repeat (first | exact HB.out | apply below_alloc | apply pw_below_drewN | apply below_drew1)))
                  (case aF => exact (fun _ _ => trivial))
                  (case aO => exact (HO_8.out))
                  (case aS => exact (below_size (by repeat (first | exact HB.out | apply below_alloc | apply pw_below_drewN | apply below_drew1))))
                  (case aL => have := LMc48.out; omega)
                  intro v77015 w52 ho hb hg hat
                  rw [← Ny77014.out] at ho
                  have n0_ := Aside0.mk (Kd.R_over' (HO_7.out) (Kd.R_typed (HO_8.out)) (by decide) hg)
                  have n1_ := Aside0.mk (hb)
                  have n2_ := Aside0.mk (ho)
                  clear HO_7
                  clear HB
                  clear HO_8
                  have HO_7 := n0_
                  have HB := n1_
                  have HO77016 := n2_
                  clear n0_ n1_ n2_
                  clear ho hb hg hat
                  refine hK.out _ _ ?_
                  clear hK K
                  refine norm_ (a' := ?_) ?_ ?_
                  rotate_left
                  ·show Act.put _ (some 105) _ = _
                   simp only [Act.put, List.setIfInBounds_toArray, List.set_cons_zero, List.set_cons_succ, i64_w, i32_w]
                   rfl
                  refine pure_ (i := 13) (N := some 8) (v := ?_) (a' := ?_) #[true, true, true, true, true, true, true, true, true, true, true, true, true, true] rfl rfl (any_of HT_.out (by kernel_rfl)) (fun _ _ _ h => h) (Or.inl ⟨by rfl, ?_⟩) ?_ ?_
                  rotate_left
                  ·intro w'
                   go_simp
                   with_reducible rfl
                  rotate_left
                  ·simp only [Act.put, List.setIfInBounds_toArray, List.set_cons_zero, List.set_cons_succ, i64_w, i32_w]
                   rfl
                  refine done_ (done_of HT_.out (by kernel_rfl)) ?_
                  try go_wp2
                  go_roundg kj10
                  case measure => have := HK1.out; have := HJ10.out; omega
                  case rel => exact ⟨(y77014), (ji45), (by first | rfl | (simp; done) | (simp only [← hji45] <;> (first | rfl | (simp; done))) | (simp [*]; done)), H', ⟨by have := HK1.out; have := HJ10.out; omega⟩, ⟨HO_7.out⟩, ⟨HO77016.out⟩, ⟨by repeat (first | exact HB.out | apply below_alloc | apply pw_below_drewN | apply below_drew1)⟩⟩
                 ·rw [if_neg c48] at H
                  exact absurd H (by simp)
                ·rw [if_neg c47] at H
                 exact absurd H (by simp)
               ·rw [if_neg c46] at H
                exact absurd H (by simp)
             ·rw [if_neg c35] at H
              exact absurd H (by simp)
            ·rw [if_neg c34] at H
             exact absurd H (by simp)
           ·rw [if_neg c33] at H
            exact absurd H (by simp)
          ·rw [if_neg c32] at H
           exact absurd H (by simp)
         ·rw [if_neg c30] at H
          have c30b0 : decide (0 ≤ (wrap64 ((x8_1.length : Int) - 1))) = false := decide_eq_false c30
          clear c30
          by_cases c53 : 0 ≤ x9_1
          ·rw [if_pos c53] at H
           have c53b0 : decide (0 ≤ x9_1) = true := decide_eq_true c53
           clear c53
           by_cases c54 : x9_1 < (t77001.length : Int)
           ·rw [if_pos c54] at H
            have c54b0 : decide (x9_1 < (t77001.length : Int)) = true := decide_eq_true c54
            clear c54
            obtain ⟨ji55, hji55⟩ : ∃ j_ : Int, (wrap64 (x9_1 + 1)) = j_ := ⟨_, rfl⟩
            replace H : (if 0 ≤ (ji55) then (if (ji55) < (t77001.length : Int) then (if x8_1.length < 8796093022208 then (papermillref04_combine.l0 kj10 l0 l1 a2 t77001 (x8_1 ++ [(⟨rd t77001 x9_1, rd t77001 (ji55)⟩ : S37)]) ji55) else (none)) else (none)) else (none)) = some r := by first | (rw [hji55] at H; exact H) | (simp only [hji55] at H ⊢; exact H)
            (try rw [hji55] at c6b0)
            have hji55w : (IntKind.i64.wrap (x9_1 + 1)) = ji55 := (i64_w _).trans hji55
            by_cases c56 : 0 ≤ (ji55)
            ·rw [if_pos c56] at H
             have c56b0 : decide (0 ≤ (ji55)) = true := decide_eq_true c56
             clear c56
             by_cases c57 : (ji55) < (t77001.length : Int)
             ·rw [if_pos c57] at H
              have c57b0 : decide ((ji55) < (t77001.length : Int)) = true := decide_eq_true c57
              clear c57
              by_cases c58 : x8_1.length < 8796093022208
              ·rw [if_pos c58] at H
               have LMc58 := Aside0.mk c58
               clear c58
               obtain ⟨y77019, hy77019⟩ : ∃ y_ : List (S37), y_ = (x8_1 ++ [(⟨rd t77001 x9_1, rd t77001 (ji55)⟩ : S37)]) := ⟨_, rfl⟩
               replace H : (papermillref04_combine.l0 kj10 l0 l1 a2 t77001 y77019 ji55) = some r := by first | (rw [hy77019]; with_reducible exact H) | (have H2_ := (Option.bind_some _ _).symm.trans H; rw [hy77019]; with_reducible exact H2_) | (have H2_ := (Option.bind_some _ _).symm.trans H; with_reducible exact H2_) | with_reducible exact H | (rw [hy77019]; exact H) | exact H
               have Ny77019 := Aside0.mk hy77019
               clear hy77019
               have H' := Aside0.mk H
               clear H
               obtain ⟨Ao59, co59, eo59⟩ := Kd.R_slice HO_8.out
               subst eo59
               try go_wp2
               have n0_ := Aside0.mk (Kd.R_drew HO_7.out)
               have n1_ := Aside0.mk (Kd.R_drew HO_8.out)
               have n2_ := Aside0.mk (below_drew1 HB.out)
               clear HO_7
               clear HO_8
               clear HB
               have HO_7 := n0_
               have HO_8 := n1_
               have HB := n2_
               clear n0_ n1_ n2_
               refine start_ (n := 14) (S := fun w' => True) (ds := []) #[false, false, false, false, false, false, false, false, false, false, false, false, false, false] (by kernel_rfl) rfl rfl trivial (fun hHeld => ?_); refine with_tabW papermillref04_combine.tab9 papermillref04_combine.bits9 (fun HT_ HW_ => ?_)
               generalize wc.drew = w60 at HO_7 HO_8 HB hHeld ⊢
               refine pure_ (i := 0) (N := some 70) (v := ?_) (a' := ?_) #[true, false, false, false, false, false, false, false, false, false, false, false, false, false] rfl rfl (any_of HT_.out (by kernel_rfl)) (fun _ _ _ h => h) (Or.inl ⟨by rfl, ?_⟩) ?_ ?_
               rotate_left
               ·intro w'
                go_simp
                with_reducible rfl
               rotate_left
               ·simp only [Act.put, List.setIfInBounds_toArray, List.set_cons_zero, List.set_cons_succ, i64_w, i32_w]
                rfl
               refine pure_ (i := 1) (N := some 71) (v := ?_) (a' := ?_) #[true, true, false, false, false, false, false, false, false, false, false, false, false, false] rfl rfl (any_of HT_.out (by kernel_rfl)) (fun _ _ _ h => h) (Or.inl ⟨by rfl, ?_⟩) ?_ ?_
               rotate_left
               ·intro w'
                go_simp
                with_reducible rfl
               rotate_left
               ·simp only [Act.put, List.setIfInBounds_toArray, List.set_cons_zero, List.set_cons_succ, i64_w, i32_w]
                rfl
               refine pure_ (i := 2) (N := some 72) (v := ?_) (a' := ?_) #[true, true, true, false, false, false, false, false, false, false, false, false, false, false] rfl rfl (any_of HT_.out (by kernel_rfl)) (fun _ _ _ h => h) (Or.inl ⟨by rfl, ?_⟩) ?_ ?_
               rotate_left
               ·intro w'
                go_simp
                with_reducible rfl
               rotate_left
               ·simp only [Act.put, List.setIfInBounds_toArray, List.set_cons_zero, List.set_cons_succ, i64_w, i32_w]
                rfl
               refine pure_ (i := 3) (N := some 73) (v := undef) (a' := ?_) #[true, true, true, true, false, false, false, false, false, false, false, false, false, false] rfl rfl (any_of HT_.out (by kernel_rfl)) (fun _ _ _ h => h) (Or.inr ⟨by rfl, rfl⟩) ?_ ?_
               rotate_left
               ·simp only [Act.put, List.setIfInBounds_toArray, List.set_cons_zero, List.set_cons_succ, i64_w, i32_w]
                rfl
               refine pure_ (i := 4) (N := some 74) (v := undef) (a' := ?_) #[true, true, true, true, true, false, false, false, false, false, false, false, false, false] rfl rfl (any_of HT_.out (by kernel_rfl)) (fun _ _ _ h => h) (Or.inr ⟨by rfl, rfl⟩) ?_ ?_
               rotate_left
               ·simp only [Act.put, List.setIfInBounds_toArray, List.set_cons_zero, List.set_cons_succ, i64_w, i32_w]
                rfl
               refine pure_ (i := 5) (N := some 75) (v := undef) (a' := ?_) #[true, true, true, true, true, true, false, false, false, false, false, false, false, false] rfl rfl (any_of HT_.out (by kernel_rfl)) (fun _ _ _ h => h) (Or.inr ⟨by rfl, rfl⟩) ?_ ?_
               rotate_left
               ·simp only [Act.put, List.setIfInBounds_toArray, List.set_cons_zero, List.set_cons_succ, i64_w, i32_w]
                rfl
               refine pure_ (i := 6) (N := some 76) (v := undef) (a' := ?_) #[true, true, true, true, true, true, true, false, false, false, false, false, false, false] rfl rfl (any_of HT_.out (by kernel_rfl)) (fun _ _ _ h => h) (Or.inr ⟨by rfl, rfl⟩) ?_ ?_
               rotate_left
               ·simp only [Act.put, List.setIfInBounds_toArray, List.set_cons_zero, List.set_cons_succ, i64_w, i32_w]
                rfl
               refine pure_ (i := 7) (N := some 77) (v := undef) (a' := ?_) #[true, true, true, true, true, true, true, true, false, false, false, false, false, false] rfl rfl (any_of HT_.out (by kernel_rfl)) (fun _ _ _ h => h) (Or.inr ⟨by rfl, rfl⟩) ?_ ?_
               rotate_left
               ·simp only [Act.put, List.setIfInBounds_toArray, List.set_cons_zero, List.set_cons_succ, i64_w, i32_w]
                rfl
               refine pure_ (i := 8) (N := some 78) (v := undef) (a' := ?_) #[true, true, true, true, true, true, true, true, true, false, false, false, false, false] rfl rfl (any_of HT_.out (by kernel_rfl)) (fun _ _ _ h => h) (Or.inr ⟨by rfl, rfl⟩) ?_ ?_
               rotate_left
               ·simp only [Act.put, List.setIfInBounds_toArray, List.set_cons_zero, List.set_cons_succ, i64_w, i32_w]
                rfl
               refine pure_ (i := 9) (N := some 79) (v := undef) (a' := ?_) #[true, true, true, true, true, true, true, true, true, true, false, false, false, false] rfl rfl (any_of HT_.out (by kernel_rfl)) (fun _ _ _ h => h) (Or.inr ⟨by rfl, rfl⟩) ?_ ?_
               rotate_left
               ·simp only [Act.put, List.setIfInBounds_toArray, List.set_cons_zero, List.set_cons_succ, i64_w, i32_w]
                rfl
               refine pure_ (i := 10) (N := some 80) (v := undef) (a' := ?_) #[true, true, true, true, true, true, true, true, true, true, true, false, false, false] rfl rfl (any_of HT_.out (by kernel_rfl)) (fun _ _ _ h => h) (Or.inr ⟨by rfl, rfl⟩) ?_ ?_
               rotate_left
               ·simp only [Act.put, List.setIfInBounds_toArray, List.set_cons_zero, List.set_cons_succ, i64_w, i32_w]
                rfl
               refine pure_ (i := 11) (N := some 81) (v := undef) (a' := ?_) #[true, true, true, true, true, true, true, true, true, true, true, true, false, false] rfl rfl (any_of HT_.out (by kernel_rfl)) (fun _ _ _ h => h) (Or.inr ⟨by rfl, rfl⟩) ?_ ?_
               rotate_left
               ·simp only [Act.put, List.setIfInBounds_toArray, List.set_cons_zero, List.set_cons_succ, i64_w, i32_w]
                rfl
               refine pure_ (i := 12) (N := some 82) (v := undef) (a' := ?_) #[true, true, true, true, true, true, true, true, true, true, true, true, true, false] rfl rfl (any_of HT_.out (by kernel_rfl)) (fun _ _ _ h => h) (Or.inr ⟨by rfl, rfl⟩) ?_ ?_
               rotate_left
               ·simp only [Act.put, List.setIfInBounds_toArray, List.set_cons_zero, List.set_cons_succ, i64_w, i32_w]
                rfl
               refine pure_ (i := 13) (N := some 83) (v := ?_) (a' := ?_) #[true, true, true, true, true, true, true, true, true, true, true, true, true, true] rfl rfl (any_of HT_.out (by kernel_rfl)) (fun _ _ _ h => h) (Or.inl ⟨by rfl, ?_⟩) ?_ ?_
               rotate_left
               ·intro w'
                go_simp
                with_reducible rfl
               rotate_left
               ·simp only [Act.put, List.setIfInBounds_toArray, List.set_cons_zero, List.set_cons_succ, i64_w, i32_w]
                rfl
               refine done_ (done_of HT_.out (by kernel_rfl)) ?_
               try go_wp2
               have n0_ := Aside0.mk (Kd.R_drew HO_7.out)
               have n1_ := Aside0.mk (Kd.R_drew HO_8.out)
               have n2_ := Aside0.mk (below_drew1 HB.out)
               clear HO_7
               clear HO_8
               clear HB
               have HO_7 := n0_
               have HO_8 := n1_
               have HB := n2_
               clear n0_ n1_ n2_
               have p77017 : 0 ≤ (x9_1 : Int) := of_decide_eq_true (by assumption)
               have q77017 : x9_1 < (t77001.length : Int) := of_decide_eq_true (by assumption)
               obtain ⟨ad77017, e77017, hx77017_0⟩ := Kd.at_int (Kd.R_reads' HO_7.out).2.2 x9_1 p77017 q77017
               obtain rfl : ad77004 = ad77017 := (by injection e77017)
               replace p77017 := eq_true p77017
               replace q77017 := eq_true q77017
               have p77018 : 0 ≤ ((ji55) : Int) := of_decide_eq_true (by assumption)
               have q77018 : (ji55) < (t77001.length : Int) := of_decide_eq_true (by assumption)
               obtain ⟨ad77018, e77018, hx77018_0⟩ := Kd.at_int (Kd.R_reads' HO_7.out).2.2 (ji55) p77018 q77018
               obtain rfl : ad77004 = ad77018 := (by injection e77018)
               replace p77018 := eq_true p77018
               replace q77018 := eq_true q77018
               refine start_ (n := 14) (S := fun w' => w'.cell? (ad77004.add (x9_1).toNat) = some (.int .i64 (rd t77001 x9_1)) ∧ w'.cell? (ad77004.add ((ji55)).toNat) = some (.int .i64 (rd t77001 (ji55)))) (ds := [11, 12]) #[false, false, false, false, false, false, false, false, false, false, false, false, false, false] (by kernel_rfl) rfl rfl ⟨hx77017_0, hx77018_0⟩ (fun hHeld => ?_); refine with_tabW papermillref04_combine.tab11 papermillref04_combine.bits11 (fun HT_ HW_ => ?_)
               generalize w60.drew = w61 at HO_7 HO_8 HB hx77017_0 hx77018_0 hHeld ⊢
               refine pure_ (i := 0) (N := some 93) (v := ?_) (a' := ?_) #[true, false, false, false, false, false, false, false, false, false, false, false, false, false] rfl rfl (any_of HT_.out (by kernel_rfl)) (fun _ _ _ h => h) (Or.inl ⟨by rfl, ?_⟩) ?_ ?_
               rotate_left
               ·intro w'
                go_simp
                with_reducible rfl
               rotate_left
               ·simp only [Act.put, List.setIfInBounds_toArray, List.set_cons_zero, List.set_cons_succ, i64_w, i32_w]
                rfl
               refine pure_ (i := 1) (N := some 94) (v := ?_) (a' := ?_) #[true, true, false, false, false, false, false, false, false, false, false, false, false, false] rfl rfl (any_of HT_.out (by kernel_rfl)) (fun _ _ _ h => h) (Or.inl ⟨by rfl, ?_⟩) ?_ ?_
               rotate_left
               ·intro w'
                go_simp
                with_reducible rfl
               rotate_left
               ·simp only [Act.put, List.setIfInBounds_toArray, List.set_cons_zero, List.set_cons_succ, i64_w, i32_w]
                rfl
               refine pure_ (i := 2) (N := some 95) (v := ?_) (a' := ?_) #[true, true, true, false, false, false, false, false, false, false, false, false, false, false] rfl rfl (any_of HT_.out (by kernel_rfl)) (fun _ _ _ h => h) (Or.inl ⟨by rfl, ?_⟩) ?_ ?_
               rotate_left
               ·intro w'
                go_simp
                with_reducible rfl
               rotate_left
               ·simp only [Act.put, List.setIfInBounds_toArray, List.set_cons_zero, List.set_cons_succ, i64_w, i32_w]
                rfl
               refine pure_ (i := 3) (N := some 96) (v := ?_) (a' := ?_) #[true, true, true, true, false, false, false, false, false, false, false, false, false, false] rfl rfl (any_of HT_.out (by kernel_rfl)) (fun _ _ _ h => h) (Or.inl ⟨by rfl, ?_⟩) ?_ ?_
               rotate_left
               ·intro w'
                go_simp
                with_reducible rfl
               rotate_left
               ·simp only [Act.put, List.setIfInBounds_toArray, List.set_cons_zero, List.set_cons_succ, i64_w, i32_w]
                rfl
               refine pure_ (i := 5) (N := some 98) (v := ?_) (a' := ?_) #[true, true, true, true, false, true, false, false, false, false, false, false, false, false] rfl rfl (any_of HT_.out (by kernel_rfl)) (fun _ _ _ h => h) (Or.inl ⟨by rfl, ?_⟩) ?_ ?_
               rotate_left
               ·intro w'
                go_simp
                with_reducible rfl
               rotate_left
               ·simp only [Act.put, List.setIfInBounds_toArray, List.set_cons_zero, List.set_cons_succ, i64_w, i32_w]
                rfl
               refine pure_ (i := 6) (N := some 99) (v := ?_) (a' := ?_) #[true, true, true, true, false, true, true, false, false, false, false, false, false, false] rfl rfl (any_of HT_.out (by kernel_rfl)) (fun _ _ _ h => h) (Or.inl ⟨by rfl, ?_⟩) ?_ ?_
               rotate_left
               ·intro w'
                go_simp
                with_reducible rfl
               rotate_left
               ·simp only [Act.put, List.setIfInBounds_toArray, List.set_cons_zero, List.set_cons_succ, i64_w, i32_w]
                rfl
               refine pure_ (i := 7) (N := some 100) (v := ?_) (a' := ?_) #[true, true, true, true, false, true, true, true, false, false, false, false, false, false] rfl rfl (any_of HT_.out (by kernel_rfl)) (fun _ _ _ h => h) (Or.inl ⟨by rfl, ?_⟩) ?_ ?_
               rotate_left
               ·intro w'
                go_simp
                with_reducible rfl
               rotate_left
               ·simp only [Act.put, List.setIfInBounds_toArray, List.set_cons_zero, List.set_cons_succ, i64_w, i32_w]
                rfl
               refine pure_ (i := 8) (N := some 101) (v := ?_) (a' := ?_) #[true, true, true, true, false, true, true, true, true, false, false, false, false, false] rfl rfl (any_of HT_.out (by kernel_rfl)) (fun _ _ _ h => h) (Or.inl ⟨by rfl, ?_⟩) ?_ ?_
               rotate_left
               ·intro w'
                go_simp
                with_reducible rfl
               rotate_left
               ·simp only [Act.put, List.setIfInBounds_toArray, List.set_cons_zero, List.set_cons_succ, i64_w, i32_w]
                rfl
               refine take_ (i := 4) (N := some 97) (v := ?_) (a' := ?_) #[true, true, true, true, true, true, true, true, true, false, false, false, false, false] rfl rfl (take_ofW HT_.out HW_.out (by kernel_rfl)) (fun _ _ _ h => h) (Or.inl ⟨by rfl, ?_⟩) hHeld ?_ ?_
               rotate_left
               ·rintro w' ⟨s0, s1⟩
                go_simp
                with_reducible rfl
               rotate_left
               ·simp only [Act.put, List.setIfInBounds_toArray, List.set_cons_zero, List.set_cons_succ, i64_w, i32_w]
                rfl
               refine take_ (i := 9) (N := some 102) (v := ?_) (a' := ?_) #[true, true, true, true, true, true, true, true, true, true, false, false, false, false] rfl rfl (take_ofW HT_.out HW_.out (by kernel_rfl)) (fun _ _ _ h => h) (Or.inl ⟨by rfl, ?_⟩) hHeld ?_ ?_
               rotate_left
               ·rintro w' ⟨s0, s1⟩
                go_simp
                with_reducible rfl
               rotate_left
               ·simp only [Act.put, List.setIfInBounds_toArray, List.set_cons_zero, List.set_cons_succ, i64_w, i32_w]
                rfl
               refine pure_ (i := 10) (N := some 103) (v := ?_) (a' := ?_) #[true, true, true, true, true, true, true, true, true, true, true, false, false, false] rfl rfl (any_of HT_.out (by kernel_rfl)) (fun _ _ _ h => h) (Or.inl ⟨by rfl, ?_⟩) ?_ ?_
               rotate_left
               ·intro w'
                go_simp
                with_reducible rfl
               rotate_left
               ·simp only [Act.put, List.setIfInBounds_toArray, List.set_cons_zero, List.set_cons_succ, i64_w, i32_w]
                rfl
               refine last_ (i := 11) (N := some 104) #[true, true, true, true, true, true, true, true, true, true, true, true, false, false] rfl rfl (one_of HT_.out (by kernel_rfl)) (by decide) (fun K hK => ?_)
               refine value_ (w1 := ?_) (v := ?_) (by rfl) rfl ?_ ?_
               rotate_left 2
               ·go_simp
                constructor
                ·rfl
                ·rfl
               refine hK.out _ _ ?_
               clear hK K
               refine norm_ (a' := ?_) ?_ ?_
               rotate_left
               ·show Act.put _ (some 104) _ = _
                simp only [Act.put, List.setIfInBounds_toArray, List.set_cons_zero, List.set_cons_succ, i64_w, i32_w]
                rfl
               refine last_ (i := 12) (N := some 105) #[true, true, true, true, true, true, true, true, true, true, true, true, true, false] rfl rfl (one_of HT_.out (by kernel_rfl)) (by decide) (fun K hK => ?_)
               refine Kd.R_append_step k37 (w0 := w) w.heap.size (by rfl) (.tmp 93) (.tmp 104) 41 37 (.agg #[(.int .i64 0), (.int .i64 0)]) 16 rfl Try.underlying41 info37 rfl (by decide) (by omega) (.slice Ao59 x8_1.length co59) x8_1 (⟨rd t77001 x9_1, rd t77001 (ji55)⟩ : S37) [.int .i64 (rd t77001 x9_1), .int .i64 (rd t77001 (ji55))] (fun _ => True) (fun _ => False) rfl rfl ?aP (fun _ hk => hk.elim) ?aF ?aO ?aB ?aS ?aL ?_
               (case aP => exact k37_mkM _ _ _ (⟨rd t77001 x9_1, rd t77001 (ji55)⟩ : S37))
               (case aB => exact (by repeat (first | exact HB.out | apply below_alloc | apply pw_below_drewN | apply below_drew1)))
               (case aF => exact (fun _ _ => trivial))
               (case aO => exact (HO_8.out))
               (case aS => exact (below_size (by repeat (first | exact HB.out | apply below_alloc | apply pw_below_drewN | apply below_drew1))))
               (case aL => have := LMc58.out; omega)
               intro v77020 w62 ho hb hg hat
               rw [← Ny77019.out] at ho
               have n0_ := Aside0.mk (Kd.R_over' (HO_7.out) (Kd.R_typed (HO_8.out)) (by decide) hg)
               have n1_ := Aside0.mk (hb)
               have n2_ := Aside0.mk (ho)
               clear HO_7
               clear HB
               clear HO_8
               have HO_7 := n0_
               have HB := n1_
               have HO77021 := n2_
               clear n0_ n1_ n2_
               clear ho hb hg hat
               refine hK.out _ _ ?_
               clear hK K
               refine norm_ (a' := ?_) ?_ ?_
               rotate_left
               ·show Act.put _ (some 105) _ = _
                simp only [Act.put, List.setIfInBounds_toArray, List.set_cons_zero, List.set_cons_succ, i64_w, i32_w]
                rfl
               refine pure_ (i := 13) (N := some 8) (v := ?_) (a' := ?_) #[true, true, true, true, true, true, true, true, true, true, true, true, true, true] rfl rfl (any_of HT_.out (by kernel_rfl)) (fun _ _ _ h => h) (Or.inl ⟨by rfl, ?_⟩) ?_ ?_
               rotate_left
               ·intro w'
                go_simp
                with_reducible rfl
               rotate_left
               ·simp only [Act.put, List.setIfInBounds_toArray, List.set_cons_zero, List.set_cons_succ, i64_w, i32_w]
                rfl
               refine done_ (done_of HT_.out (by kernel_rfl)) ?_
               try go_wp2
               go_roundg kj10
               case measure => have := HK1.out; have := HJ10.out; omega
               case rel => exact ⟨(y77019), (ji55), (by first | rfl | (simp; done) | (simp only [← hji55] <;> (first | rfl | (simp; done))) | (simp [*]; done)), H', ⟨by have := HK1.out; have := HJ10.out; omega⟩, ⟨HO_7.out⟩, ⟨HO77021.out⟩, ⟨by repeat (first | exact HB.out | apply below_alloc | apply pw_below_drewN | apply below_drew1)⟩⟩
              ·rw [if_neg c58] at H
               exact absurd H (by simp)
             ·rw [if_neg c57] at H
              exact absurd H (by simp)
            ·rw [if_neg c56] at H
             exact absurd H (by simp)
           ·rw [if_neg c54] at H
            exact absurd H (by simp)
          ·rw [if_neg c53] at H
           exact absurd H (by simp)
     ·rw [if_neg c8] at H
      exact absurd H (by simp)
    ·rw [if_neg c7] at H
     exact absurd H (by simp)
   ·rw [if_neg c6] at H
    have c6b0 : decide ((wrap64 (x9_1 + 1)) < (t77001.length : Int)) = false := decide_eq_false c6
    clear c6
    obtain rfl := Option.some.inj H
    obtain ⟨Ao63, co63, eo63⟩ := Kd.R_slice HO_7.out
    subst eo63
    go_wp2
    go_ret
    exact ⟨_, by first | rfl | (simp [errW_none, errW_some] <;> rfl) | (simp [*, errW_none, errW_some] <;> rfl), by exact HO_8.out, by repeat (first | exact HB.out | apply below_alloc | apply pw_below_drewN | apply below_drew1)⟩

end Go.Proofs.Ytcnkmdonbpgjiaa.G

namespace Go.Proofs.Ytcnkmdonbpgjiaa.G
open Go.RowKit Go.Proofs.YtcnkmdonbpgjiaaW.PrintWords Go.Proofs.YtcnkmdonbpgjiaaW.PrintLast Go.Proofs.YtcnkmdonbpgjiaaW.PrintMore
attribute [local go_sem] max2_int min2_int max_two min_two max_three min_three max_four min_four   -- for this text's walks alone
set_option linter.unusedVariables false
set_option linter.unusedSimpArgs false

def papermillref04_both.f (k : Nat) (l0 : List (S37)) (l1 : List (S37)) (a2 : Int) : Option ((List (S37)) × Int) := (papermillref04_Check.f k l0).bind fun t69001 => (if t69001 = 0 then ((papermillref04_Check.f k l1).bind fun t69002 => (if t69002 = 0 then ((papermillref04_combine.f k l0 l1 a2).bind fun t69003 => (if (t69003.length : Int) > 256 then (some (([] : List (S37)), 8)) else (some (t69003, 0)))) else (some (([] : List (S37)), t69002)))) else (some (([] : List (S37)), t69001)))
theorem papermillref04_both.mono : ∀ a0 a1 a2 k, LeO (papermillref04_both.f k a0 a1 a2) (papermillref04_both.f (k + 1) a0 a1 a2) := by
 intro a0 a1 a2 k
 unfold papermillref04_both.f
 repeat' first
   | (with_reducible exact papermillref04_Check.mono _ _)
   | (with_reducible exact papermillref04_combine.mono _ _ _ _)
   | (with_reducible exact LeO.refl _)
   | (with_reducible exact LeO.none _)
   | (with_reducible refine LeO.ite ?_ ?_)
   | (with_reducible refine LeO.bind ?_ (fun _ => ?_))
   | exact papermillref04_Check.mono _ _
   | exact papermillref04_combine.mono _ _ _ _
   | exact LeO.none _
   | refine LeO.ite ?_ ?_
   | refine LeO.bind ?_ (fun _ => ?_)
set_option maxHeartbeats 8000000 in
set_option maxRecDepth 100000 in
theorem papermillref04_both.calls (k : Nat) (A0 : Option Addr) (c0 : Nat) (l0 : List (S37)) (A1 : Option Addr) (c1 : Nat) (l1 : List (S37)) (a2 : Int) (r1 : List (S37)) (r2 : Int) (w : World) (hr0 : Kd.C k37 w A0 l0.length l0) (hc0 : l0.length ≤ c0) (hr1 : Kd.C k37 w A1 l1.length l1) (hc1 : l1.length ≤ c1) (h : papermillref04_both.f k l0 l1 a2 = some (r1, r2)) :
  Calls Try.prog 68 #[.slice A0 l0.length c0, .slice A1 l1.length c1, .int .i64 a2] w fun e w' => ∃ v0_ : Value, e = .returned (.tuple #[v0_, .int .i64 r2]) ∧ Kd.R k37 37 w' w.heap.size (fun _ => True) v0_ r1 ∧ Below w.heap.size w w' := by
 have HR0 := Aside0.mk hr0
 have HC0 := Aside0.mk hc0
 clear hr0 hc0
 have HR1 := Aside0.mk hr1
 have HC1 := Aside0.mk hc1
 clear hr1 hc1
 have HB := Aside0.mk (Below.refl w.heap.size w)
 have H : ((papermillref04_Check.f k l0).bind fun t69001 => (if t69001 = 0 then ((papermillref04_Check.f k l1).bind fun t69002 => (if t69002 = 0 then ((papermillref04_combine.f k l0 l1 a2).bind fun t69003 => (if (t69003.length : Int) > 256 then (some (([] : List (S37)), 8)) else (some (t69003, 0)))) else (some (([] : List (S37)), t69002)))) else (some (([] : List (S37)), t69001)))) = some (r1, r2) := h
 clear h
 replace H := Option.bind_eq_some_iff.mp H
 obtain ⟨t69001, A40, H⟩ := H
 replace H : (if t69001 = 0 then ((papermillref04_Check.f k l1).bind fun t69002 => (if t69002 = 0 then ((papermillref04_combine.f k l0 l1 a2).bind fun t69003 => (if (t69003.length : Int) > 256 then (some (([] : List (S37)), 8)) else (some (t69003, 0)))) else (some (([] : List (S37)), t69002)))) else (some (([] : List (S37)), t69001))) = some (r1, r2) := H
 have A4 := Aside0.mk A40
 clear A40
 by_cases c5 : t69001 = 0
 ·rw [if_pos c5] at H
  have c5b0 : (t69001 == 0) = true := beq_iff_eq.mpr c5
  have c5b1 : (t69001 != 0) = false := bne_eq_false_iff_eq.mpr c5
  clear c5
  replace H := Option.bind_eq_some_iff.mp H
  obtain ⟨t69002, A60, H⟩ := H
  replace H : (if t69002 = 0 then ((papermillref04_combine.f k l0 l1 a2).bind fun t69003 => (if (t69003.length : Int) > 256 then (some (([] : List (S37)), 8)) else (some (t69003, 0)))) else (some (([] : List (S37)), t69002))) = some (r1, r2) := H
  have A6 := Aside0.mk A60
  clear A60
  by_cases c7 : t69002 = 0
  ·rw [if_pos c7] at H
   have c7b0 : (t69002 == 0) = true := beq_iff_eq.mpr c7
   have c7b1 : (t69002 != 0) = false := bne_eq_false_iff_eq.mpr c7
   clear c7
   replace H := Option.bind_eq_some_iff.mp H
   obtain ⟨t69003, A80, H⟩ := H
   replace H : (if (t69003.length : Int) > 256 then (some (([] : List (S37)), 8)) else (some (t69003, 0))) = some (r1, r2) := H
   have A8 := Aside0.mk A80
   clear A80
   by_cases c9 : (t69003.length : Int) > 256
   ·rw [if_pos c9] at H
    have c9b0 : decide (256 < (t69003.length : Int)) = true := decide_eq_true c9
    have c9b1 : decide (256 < t69003.length) = true := decide_eq_true (by omega)
    clear c9
    simp only [Option.some.injEq, Prod.mk.injEq] at H
    obtain ⟨rfl, rfl⟩ := H
    go_enter Try.func68, Try.ntmps68
    go_wp2_with (first | ((with_reducible refine gate_callee (f := 75) rfl ?_); refine goesL_ (some 12) rfl rfl Try.func75 (by kernel_rfl) rfl #[.slice A0 l0.length c0] rfl (by (try simp only [List.map_toArray, List.map_cons, List.map_nil]); first | done | rfl | (simp only [List.length_drop, List.length_take]; rfl)) ?_; (with_reducible refine (papermillref04_Check.calls k _ _ l0 t69001 _ ?side1 ?side2 A4.out).mono ?_); (case side1 => exact HR0.out); (case side2 => exact HC0.out); rintro e w' ⟨rfl, ⟨nd, rfl⟩⟩; refine ⟨_, rfl, ?_⟩) | ((with_reducible refine gate_callee (f := 75) rfl ?_); refine goesL_ (some 17) rfl rfl Try.func75 (by kernel_rfl) rfl #[.slice A1 l1.length c1] rfl (by (try simp only [List.map_toArray, List.map_cons, List.map_nil]); first | done | rfl | (simp only [List.length_drop, List.length_take]; rfl)) ?_; (with_reducible refine (papermillref04_Check.calls k _ _ l1 t69002 _ ?side1 ?side2 A6.out).mono ?_); (case side1 => exact HR1.out); (case side2 => exact HC1.out); rintro e w' ⟨rfl, ⟨nd, rfl⟩⟩; refine ⟨_, rfl, ?_⟩) | ((with_reducible refine gate_callee (f := 76) rfl ?_); refine goesL_ (some 24) rfl rfl Try.func76 (by kernel_rfl) rfl #[.slice A0 l0.length c0, .slice A1 l1.length c1, .int .i64 a2] rfl (by (try simp only [List.map_toArray, List.map_cons, List.map_nil]); first | done | rfl | (simp only [List.length_drop, List.length_take]; rfl)) ?_; (with_reducible refine (papermillref04_combine.calls k _ _ l0 _ _ l1 a2 t69003 _ ?side1 ?side2 ?side3 ?side4 A8.out).mono ?_); (case side1 => exact HR0.out); (case side2 => exact HC0.out); (case side3 => exact HR1.out); (case side4 => exact HC1.out); rintro e w10 ⟨v69004, rfl, ho0, hb⟩; refine ⟨_, rfl, ?_⟩; have n0_ := Aside0.mk (Kd.R_lower ho0 (below_size (by repeat (first | exact HB.out | apply below_alloc | apply pw_below_drewN | apply below_drew1)))); have n1_ := Aside0.mk (below_step (by repeat (first | exact HB.out | apply below_alloc | apply pw_below_drewN | apply below_drew1)) hb); clear HB; have HO69005 := n0_; have HB := n1_; clear n0_ n1_; (try clear hb); (try clear hb2); (try clear hk); (try clear hi); (try clear ho0); obtain ⟨Ao11, co11, eo11⟩ := Kd.R_slice HO69005.out; subst eo11))
    go_ret2
    exact ⟨_, by first | rfl | (simp [errW_none, errW_some] <;> rfl) | (simp [*, errW_none, errW_some] <;> rfl), by first | exact Kd.R_nil _ _ _ _ _ | exact Kd.N_nil _ _ _ _ _ | exact Kd.V_nil _ _ _ _ _ | exact Kd.Q_nil _ _ _ _ _ | exact Kd.S_nil _ _ _ _ _, by repeat (first | exact HB.out | apply below_alloc | apply pw_below_drewN | apply below_drew1)⟩
   ·rw [if_neg c9] at H
    have c9b0 : decide (256 < (t69003.length : Int)) = false := decide_eq_false c9
    have c9b1 : decide (256 < t69003.length) = false := decide_eq_false (by omega)
    clear c9
    simp only [Option.some.injEq, Prod.mk.injEq] at H
    obtain ⟨rfl, rfl⟩ := H
    go_enter Try.func68, Try.ntmps68
    go_wp2_with (first | ((with_reducible refine gate_callee (f := 75) rfl ?_); refine goesL_ (some 12) rfl rfl Try.func75 (by kernel_rfl) rfl #[.slice A0 l0.length c0] rfl (by (try simp only [List.map_toArray, List.map_cons, List.map_nil]); first | done | rfl | (simp only [List.length_drop, List.length_take]; rfl)) ?_; (with_reducible refine (papermillref04_Check.calls k _ _ l0 t69001 _ ?side1 ?side2 A4.out).mono ?_); (case side1 => exact HR0.out); (case side2 => exact HC0.out); rintro e w' ⟨rfl, ⟨nd, rfl⟩⟩; refine ⟨_, rfl, ?_⟩) | ((with_reducible refine gate_callee (f := 75) rfl ?_); refine goesL_ (some 17) rfl rfl Try.func75 (by kernel_rfl) rfl #[.slice A1 l1.length c1] rfl (by (try simp only [List.map_toArray, List.map_cons, List.map_nil]); first | done | rfl | (simp only [List.length_drop, List.length_take]; rfl)) ?_; (with_reducible refine (papermillref04_Check.calls k _ _ l1 t69002 _ ?side1 ?side2 A6.out).mono ?_); (case side1 => exact HR1.out); (case side2 => exact HC1.out); rintro e w' ⟨rfl, ⟨nd, rfl⟩⟩; refine ⟨_, rfl, ?_⟩) | ((with_reducible refine gate_callee (f := 76) rfl ?_); refine goesL_ (some 24) rfl rfl Try.func76 (by kernel_rfl) rfl #[.slice A0 l0.length c0, .slice A1 l1.length c1, .int .i64 a2] rfl (by (try simp only [List.map_toArray, List.map_cons, List.map_nil]); first | done | rfl | (simp only [List.length_drop, List.length_take]; rfl)) ?_; (with_reducible refine (papermillref04_combine.calls k _ _ l0 _ _ l1 a2 t69003 _ ?side1 ?side2 ?side3 ?side4 A8.out).mono ?_); (case side1 => exact HR0.out); (case side2 => exact HC0.out); (case side3 => exact HR1.out); (case side4 => exact HC1.out); rintro e w12 ⟨v69004, rfl, ho0, hb⟩; refine ⟨_, rfl, ?_⟩; have n0_ := Aside0.mk (Kd.R_lower ho0 (below_size (by repeat (first | exact HB.out | apply below_alloc | apply pw_below_drewN | apply below_drew1)))); have n1_ := Aside0.mk (below_step (by repeat (first | exact HB.out | apply below_alloc | apply pw_below_drewN | apply below_drew1)) hb); clear HB; have HO69005 := n0_; have HB := n1_; clear n0_ n1_; (try clear hb); (try clear hb2); (try clear hk); (try clear hi); (try clear ho0); obtain ⟨Ao13, co13, eo13⟩ := Kd.R_slice HO69005.out; subst eo13))
    go_ret2
    exact ⟨_, by first | rfl | (simp [errW_none, errW_some] <;> rfl) | (simp [*, errW_none, errW_some] <;> rfl), by exact HO69005.out, by repeat (first | exact HB.out | apply below_alloc | apply pw_below_drewN | apply below_drew1)⟩
  ·rw [if_neg c7] at H
   have c7b0 : (t69002 == 0) = false := beq_eq_false_iff_ne.mpr c7
   have c7b1 : (t69002 != 0) = true := bne_iff_ne.mpr c7
   simp only [Option.some.injEq, Prod.mk.injEq] at H
   obtain ⟨rfl, rfl⟩ := H
   go_enter Try.func68, Try.ntmps68
   go_wp2_with (first | ((with_reducible refine gate_callee (f := 75) rfl ?_); refine goesL_ (some 12) rfl rfl Try.func75 (by kernel_rfl) rfl #[.slice A0 l0.length c0] rfl (by (try simp only [List.map_toArray, List.map_cons, List.map_nil]); first | done | rfl | (simp only [List.length_drop, List.length_take]; rfl)) ?_; (with_reducible refine (papermillref04_Check.calls k _ _ l0 t69001 _ ?side1 ?side2 A4.out).mono ?_); (case side1 => exact HR0.out); (case side2 => exact HC0.out); rintro e w' ⟨rfl, ⟨nd, rfl⟩⟩; refine ⟨_, rfl, ?_⟩) | ((with_reducible refine gate_callee (f := 75) rfl ?_); refine goesL_ (some 17) rfl rfl Try.func75 (by kernel_rfl) rfl #[.slice A1 l1.length c1] rfl (by (try simp only [List.map_toArray, List.map_cons, List.map_nil]); first | done | rfl | (simp only [List.length_drop, List.length_take]; rfl)) ?_; (with_reducible refine (papermillref04_Check.calls k _ _ l1 t69002 _ ?side1 ?side2 A6.out).mono ?_); (case side1 => exact HR1.out); (case side2 => exact HC1.out); rintro e w' ⟨rfl, ⟨nd, rfl⟩⟩; refine ⟨_, rfl, ?_⟩))
   go_ret2
   exact ⟨_, by first | rfl | (simp [errW_none, errW_some] <;> rfl) | (simp [*, errW_none, errW_some] <;> rfl), by first | exact Kd.R_nil _ _ _ _ _ | exact Kd.N_nil _ _ _ _ _ | exact Kd.V_nil _ _ _ _ _ | exact Kd.Q_nil _ _ _ _ _ | exact Kd.S_nil _ _ _ _ _, by repeat (first | exact HB.out | apply below_alloc | apply pw_below_drewN | apply below_drew1)⟩
 ·rw [if_neg c5] at H
  have c5b0 : (t69001 == 0) = false := beq_eq_false_iff_ne.mpr c5
  have c5b1 : (t69001 != 0) = true := bne_iff_ne.mpr c5
  simp only [Option.some.injEq, Prod.mk.injEq] at H
  obtain ⟨rfl, rfl⟩ := H
  go_enter Try.func68, Try.ntmps68
  go_wp2_with (first | ((with_reducible refine gate_callee (f := 75) rfl ?_); refine goesL_ (some 12) rfl rfl Try.func75 (by kernel_rfl) rfl #[.slice A0 l0.length c0] rfl (by (try simp only [List.map_toArray, List.map_cons, List.map_nil]); first | done | rfl | (simp only [List.length_drop, List.length_take]; rfl)) ?_; (with_reducible refine (papermillref04_Check.calls k _ _ l0 t69001 _ ?side1 ?side2 A4.out).mono ?_); (case side1 => exact HR0.out); (case side2 => exact HC0.out); rintro e w' ⟨rfl, ⟨nd, rfl⟩⟩; refine ⟨_, rfl, ?_⟩))
  go_ret2
  exact ⟨_, by first | rfl | (simp [errW_none, errW_some] <;> rfl) | (simp [*, errW_none, errW_some] <;> rfl), by first | exact Kd.R_nil _ _ _ _ _ | exact Kd.N_nil _ _ _ _ _ | exact Kd.V_nil _ _ _ _ _ | exact Kd.Q_nil _ _ _ _ _ | exact Kd.S_nil _ _ _ _ _, by repeat (first | exact HB.out | apply below_alloc | apply pw_below_drewN | apply below_drew1)⟩

end Go.Proofs.Ytcnkmdonbpgjiaa.G

namespace Go.Proofs.Ytcnkmdonbpgjiaa.G
open Go.RowKit Go.Proofs.YtcnkmdonbpgjiaaW.PrintWords Go.Proofs.YtcnkmdonbpgjiaaW.PrintLast Go.Proofs.YtcnkmdonbpgjiaaW.PrintMore
set_option linter.unusedVariables false
set_option linter.unusedSimpArgs false
theorem with_l0 (l : List Int) (n : Int) (hl : l.length < 1000000) : ∀ (d i : Nat), l.length - i = d → i ≤ l.length → Ends (fun k => papermillref04_with.l0 k l n (i : Int)) (l.take i ++ withOf (l.drop i) n) := by
  intro d
  induction d with
  | zero =>
    intro i hd hi
    rw [List.drop_of_length_le (by omega)]
    refine Ends.succ ?_
    simp only [papermillref04_with.l0, Option.bind_some, Int.toNat_natCast, List.nil_append]
    refine Ends.neg (by omega) (Ends.pos (by omega) (Ends.pos (by omega) (Ends.pos (by simp only [List.length_nil, List.length_take]; omega) (Ends.pos (by simp only [List.length_append, List.length_take]; omega) (Ends.pos (by simp only [List.length_append, List.length_take, List.length_drop, List.length_cons, List.length_nil]; omega) ?_)))))
    rw [List.drop_of_length_le (l := l) (i := i) (by omega)]
    simpa [withOf] using Ends.ret _
  | succ d ih =>
    intro i hd hi
    have hlen := List.length_drop (i := i) (l := l)
    rw [dropI l i (by omega)] at hlen
    rw [dropI l i (by omega)]
    refine Ends.succ ?_
    simp only [papermillref04_with.l0, Option.bind_some, Int.toNat_natCast, List.nil_append, wrap_nat i (by omega)]
    refine Ends.pos (by omega) (Ends.pos (by omega) ?_)
    by_cases h1 : rd l i < n
    · refine Ends.pos h1 ?_
      have := ih (i + 1) (by omega) (by omega)
      rw [List.take_succ_eq_append_getElem (by omega), ← rdI l i (by omega)] at this
      simpa [withOf, h1] using this
    · refine Ends.neg h1 ?_
      by_cases h2 : rd l i = n
      · refine Ends.pos h2 ?_
        have e : l.take i ++ withOf (rd l i :: l.drop (i + 1)) n = l := by
          rw [withOf, if_neg h1, if_pos h2, ← dropI l i (by omega), List.take_append_drop]
        rw [e]; exact Ends.ret _
      · refine Ends.neg h2 (Ends.pos (by omega) (Ends.pos (by simp only [List.length_nil, List.length_take]; omega) (Ends.pos (by simp only [List.length_take]; omega) (Ends.pos (by simp only [List.length_append, List.length_take, List.length_drop, List.length_cons, List.length_nil]; omega) ?_))))
        rw [withOf, if_neg h1, if_neg h2, ← dropI l i (by omega)]
        simpa using Ends.ret _
theorem with_ends (l : List Int) (n : Int) (hl : l.length < 1000000) : Ends (fun k => papermillref04_with.f k l n) (withOf l n) := by
  simpa [papermillref04_with.f] using with_l0 l n hl l.length 0 rfl (Nat.zero_le _)
theorem ends_l1 (b : List S37) (hb : b.length ≤ 256) : ∀ (d i : Nat) (o : List Int), b.length - i = d → i ≤ b.length → o.length + 2 * d < 1000000 → Ends (fun k => papermillref04_ends.l1 k b o (i : Int)) ((b.drop i).foldl endStep o) := by
  intro d
  induction d with
  | zero =>
    intro i o hd hi ho
    rw [List.drop_of_length_le (by omega)]
    refine Ends.succ ?_
    simp only [papermillref04_ends.l1]
    exact Ends.neg (by omega) (Ends.ret _)
  | succ d ih =>
    intro i o hd hi ho
    rw [drop36 b i (by omega), List.foldl_cons]
    refine Ends.succ ?_
    simp only [papermillref04_ends.l1, wrap_nat i (by omega)]
    have h1 := withOf_len o (rd_T37 b i).f0
    have h2 := endStep_len o (rd_T37 b i)
    exact Ends.pos (by omega) (Ends.pos (by omega) (Ends.bind (with_ends _ _ (by omega)) (Ends.bind (with_ends _ _ (by omega)) (ih (i + 1) _ (by omega) (by omega) (by show (endStep o (rd_T37 b i)).length + _ < _; omega)))))
theorem ends_l0 (a b : List S37) (ha : a.length ≤ 256) (hb : b.length ≤ 256) : ∀ (d i : Nat) (o : List Int), a.length - i = d → i ≤ a.length → o.length + 2 * d < 900000 → Ends (fun k => papermillref04_ends.l0 k a b o (i : Int)) (b.foldl endStep ((a.drop i).foldl endStep o)) := by
  intro d
  induction d with
  | zero =>
    intro i o hd hi ho
    rw [List.drop_of_length_le (by omega)]
    refine Ends.succ ?_
    simp only [papermillref04_ends.l0]
    exact Ends.neg (by omega) (by simpa using ends_l1 b hb b.length 0 o rfl (Nat.zero_le _) (by omega))
  | succ d ih =>
    intro i o hd hi ho
    rw [drop36 a i (by omega), List.foldl_cons]
    refine Ends.succ ?_
    simp only [papermillref04_ends.l0, wrap_nat i (by omega)]
    have h1 := withOf_len o (rd_T37 a i).f0
    have h2 := endStep_len o (rd_T37 a i)
    exact Ends.pos (by omega) (Ends.pos (by omega) (Ends.bind (with_ends _ _ (by omega)) (Ends.bind (with_ends _ _ (by omega)) (ih (i + 1) _ (by omega) (by omega) (by show (endStep o (rd_T37 a i)).length + _ < _; omega)))))
theorem ends_ends (a b : List S37) (ha : a.length ≤ 256) (hb : b.length ≤ 256) : Ends (fun k => papermillref04_ends.f k a b) (endsOf a b) := by
  simpa [papermillref04_ends.f, endsOf] using ends_l0 a b ha hb a.length 0 [] rfl (Nat.zero_le _) (by simp; omega)
theorem has_l0 (l : List S37) (x : Int) (hl : l.length < 1000000) : ∀ (d i : Nat), l.length - i = d → i ≤ l.length → Ends (fun k => papermillref04_Has.l0 k l x (i : Int)) (hasOf (l.drop i) x) := by
  intro d
  induction d with
  | zero =>
    intro i hd hi
    rw [List.drop_of_length_le (by omega)]
    refine Ends.succ ?_
    simp only [papermillref04_Has.l0]
    exact Ends.neg (by omega) (Ends.ret _)
  | succ d ih =>
    intro i hd hi
    have := ih (i + 1) (by omega) (by omega)
    rw [drop36 l i (by omega)]
    refine Ends.succ ?_
    simp only [papermillref04_Has.l0, wrap_nat i (by omega)]
    refine Ends.pos (by omega) (Ends.pos (by omega) ?_)
    by_cases h1 : (rd_T37 l i).f0 ≤ x
    · refine Ends.pos h1 ?_
      by_cases h2 : x < (rd_T37 l i).f1
      · refine Ends.pos h2 ?_
        simpa [hasOf, h1, h2] using Ends.ret true
      · refine Ends.neg h2 ?_
        simpa [hasOf, h1, h2] using this
    · refine Ends.neg h1 ?_
      simpa [hasOf, h1] using this
theorem has_ends (l : List S37) (x : Int) (hl : l.length < 1000000) : Ends (fun k => papermillref04_Has.f k l x) (hasOf l x) := by
  simpa [papermillref04_Has.f] using has_l0 l x hl l.length 0 rfl (Nat.zero_le _)

theorem getLast_rd (out : List S37) (h : out.length ≠ 0) : out.getLast? = some (rd_T37 out ((out.length - 1 : Nat) : Int)) := by
  rw [List.getLast?_eq_getElem?, rd36 _ _ (by omega), List.getElem?_eq_getElem (by omega)]
theorem dropLast_set (out : List S37) (h : out.length ≠ 0) (y : S37) : out.set (out.length - 1) y = out.dropLast ++ [y] := by
  obtain ⟨d, x, rfl⟩ : ∃ d x, out = d ++ [x] := ⟨out.dropLast, out.getLast (fun e => h (by rw [e]; rfl)), (List.dropLast_concat_getLast _).symm⟩
  rw [List.dropLast_concat, List.length_append]
  simp
theorem comb_j1 (a b : List S37) (w : Int) (cuts : List Int) (i : Nat) (out : List S37) (hi : i + 1 < cuts.length) (hc : cuts.length < 1000000) (ho : out.length < 1000000) (sk : Bool) (r : List S37)
    (h : Ends (fun k => papermillref04_combine.l0 k a b w cuts (if sk = true then out else push out (rd cuts i) (rd cuts (i + 1 : Nat))) ((i + 1 : Nat) : Int)) r) :
    Ends (fun k => papermillref04_combine.j1 k a b w cuts out (i : Int) sk) r := by
  refine Ends.succ ?_
  simp only [papermillref04_combine.j1, wrap_nat i (by omega)]
  cases sk with
  | true => exact Ends.pos rfl (by simpa using h)
  | false =>
    refine Ends.neg (by simp) ?_
    simp only [Bool.false_eq_true, if_false] at h
    by_cases h0 : out.length = 0
    · have e : out = [] := List.length_eq_zero_iff.1 h0
      subst e
      have e2 : push [] (rd cuts i) (rd cuts (i + 1 : Nat)) = [⟨rd cuts i, rd cuts (i + 1 : Nat)⟩] := rfl
      rw [e2] at h
      exact Ends.neg (by simp [wrap64]) (Ends.pos (by omega) (Ends.pos (by omega) (Ends.pos (by omega) (Ends.pos (by omega) (Ends.pos (by omega) h)))))
    · have hw : wrap64 ((out.length : Int) - 1) = ((out.length - 1 : Nat) : Int) := by unfold wrap64; omega
      have hl := getLast_rd out h0
      simp only [hw, Int.toNat_natCast]
      refine Ends.pos (by omega) (Ends.pos (by omega) (Ends.pos (by omega) (Ends.pos (by omega) (Ends.pos (by omega) ?_))))
      by_cases h1 : (rd_T37 out ((out.length - 1 : Nat) : Int)).f1 = rd cuts i
      · refine Ends.pos h1 (Ends.pos (by omega) (Ends.pos (by omega) ?_))
        rw [dropLast_set out h0]
        simpa [push, hl, h1] using h
      · refine Ends.neg h1 (Ends.pos (by omega) (Ends.pos (by omega) (Ends.pos (by omega) ?_)))
        simpa [push, hl, h1] using h
theorem comb_l0 (a b : List S37) (ha : a.length ≤ 256) (hb : b.length ≤ 256) (w : Int) (hw : w = 0 ∨ w = 1 ∨ w = 2) (cuts : List Int) (hc : cuts.length < 10000) : ∀ (d i : Nat) (out : List S37), cuts.length - i = d → i ≤ cuts.length → out.length + d < 900000 → Ends (fun k => papermillref04_combine.l0 k a b w cuts out (i : Int)) (combGo a b w out (cuts.drop i)) := by
  intro d
  induction d with
  | zero =>
    intro i out hd hi ho
    rw [List.drop_of_length_le (by omega)]
    refine Ends.succ ?_
    simp only [papermillref04_combine.l0, wrap_nat i (by omega)]
    exact Ends.neg (by omega) (Ends.ret _)
  | succ d ih =>
    intro i out hd hi ho
    by_cases h1 : i + 1 < cuts.length
    · rw [dropI cuts i (by omega), dropI cuts (i + 1) h1]
      refine Ends.succ ?_
      simp only [papermillref04_combine.l0, wrap_nat i (by omega)]
      refine Ends.pos (by omega) (Ends.pos (by omega) (Ends.pos (by omega) (Ends.bind (has_ends a _ (by omega)) (Ends.bind (has_ends b _ (by omega)) ?_))))
      have hp := push_len out (rd cuts i) (rd cuts (i + 1 : Nat))
      have hj := comb_j1 a b w cuts i out h1 (by omega) (by omega) (skips w (hasOf a (rd cuts i)) (hasOf b (rd cuts i))) _ (ih (i + 1) _ (by omega) (by omega) (by split <;> omega))
      rw [dropI cuts (i + 1) h1] at hj
      rw [combGo]
      revert hj
      generalize hasOf a (rd cuts i) = p
      generalize hasOf b (rd cuts i) = q
      intro hj
      rcases hw with rfl | rfl | rfl <;> cases p <;> cases q <;> simpa [skips] using hj
    · refine Ends.succ ?_
      simp only [papermillref04_combine.l0, wrap_nat i (by omega)]
      rw [dropI cuts i (by omega), List.drop_of_length_le (l := cuts) (i := i + 1) (by omega)]
      exact Ends.neg (by omega) (Ends.ret _)
theorem comb_ends (a b : List S37) (ha : a.length ≤ 256) (hb : b.length ≤ 256) (w : Int) (hw : w = 0 ∨ w = 1 ∨ w = 2) : Ends (fun k => papermillref04_combine.f k a b w) (combOf a b w) := by
  have h := endsOf_len a b
  unfold papermillref04_combine.f combOf
  exact Ends.bind (ends_ends a b ha hb) (by simpa using comb_l0 a b ha hb w hw (endsOf a b) (by omega) (endsOf a b).length 0 [] rfl (Nat.zero_le _) (by simp; omega))
theorem check_l0 (l : List S37) (hl : l.length ≤ 256) : ∀ (d i : Nat), l.length - i = d → i ≤ l.length → Ends (fun k => papermillref04_Check.l0 k l (i : Int)) (if ∃ s ∈ l.drop i, badS s then 1 else 0) := by
  intro d
  induction d with
  | zero =>
    intro i hd hi
    rw [List.drop_of_length_le (by omega)]
    refine Ends.succ ?_
    simp only [papermillref04_Check.l0]
    exact Ends.neg (by omega) (by simpa using Ends.ret (0 : Int))
  | succ d ih =>
    intro i hd hi
    have := ih (i + 1) (by omega) (by omega)
    rw [drop36 l i (by omega)]
    refine Ends.succ ?_
    simp only [papermillref04_Check.l0, wrap_nat i (by omega)]
    refine Ends.pos (by omega) (Ends.pos (by omega) ?_)
    by_cases hb : badS (rd_T37 l i)
    · rw [if_pos ⟨_, by simp, hb⟩]
      unfold badS at hb
      by_cases h1 : (rd_T37 l i).f0 < 0
      · exact Ends.pos h1 (Ends.ret _)
      · refine Ends.neg h1 ?_
        by_cases h2 : (rd_T37 l i).f0 > (rd_T37 l i).f1
        · exact Ends.pos h2 (Ends.ret _)
        · exact Ends.neg h2 (Ends.pos (by omega) (Ends.ret _))
    · have e : (∃ s ∈ rd_T37 l i :: l.drop (i + 1), badS s) ↔ ∃ s ∈ l.drop (i + 1), badS s := by
        constructor
        · rintro ⟨s, hs, k⟩
          rcases List.mem_cons.1 hs with rfl | hs
          · exact absurd k hb
          · exact ⟨s, hs, k⟩
        · rintro ⟨s, hs, k⟩; exact ⟨s, by simp [hs], k⟩
      simp only [e]
      unfold badS at hb
      exact Ends.neg (by omega) (Ends.neg (by omega) (Ends.neg (by omega) this))
theorem check04_ends (l : List S37) : Ends (fun k => papermillref04_Check.f k l) (check04 l) := by
  simp only [papermillref04_Check.f, check04]
  by_cases h : l.length > 256
  · rw [if_pos h]; exact Ends.pos (by omega) (Ends.ret _)
  · rw [if_neg h]; exact Ends.neg (by omega) (by simpa using check_l0 l (by omega) l.length 0 rfl (Nat.zero_le _))
theorem both_ends (a b : List S37) (w : Int) (hw : w = 0 ∨ w = 1 ∨ w = 2) : Ends (fun k => papermillref04_both.f k a b w) (bothOf a b w) := by
  unfold papermillref04_both.f bothOf
  refine Ends.bind (check04_ends a) ?_
  by_cases h1 : check04 a = 0
  · rw [if_pos h1]; refine Ends.pos h1 (Ends.bind (check04_ends b) ?_)
    by_cases h2 : check04 b = 0
    · rw [if_pos h2]; refine Ends.pos h2 (Ends.bind (comb_ends a b (check04_zero h1).1 (check04_zero h2).1 w hw) ?_)
      by_cases h3 : (combOf a b w).length > 256
      · rw [if_pos h3]; exact Ends.pos (by omega) (Ends.ret _)
      · rw [if_neg h3]; exact Ends.neg (by omega) (Ends.ret _)
    · rw [if_neg h2]; exact Ends.neg h2 (Ends.ret _)
  · rw [if_neg h1]; exact Ends.neg h1 (Ends.ret _)
end Go.Proofs.Ytcnkmdonbpgjiaa.G

namespace Go.Proofs.Ytcnkmdonbpgjiaa.G
open Go.RowKit Go.Proofs.YtcnkmdonbpgjiaaW.PrintWords Go.Proofs.YtcnkmdonbpgjiaaW.PrintLast Go.Proofs.YtcnkmdonbpgjiaaW.PrintMore
attribute [local go_sem] max2_int min2_int max_two min_two max_three min_three max_four min_four   -- for this text's walks alone
set_option linter.unusedVariables false
set_option linter.unusedSimpArgs false

def papermillref04_Norm.f (k : Nat) (l0 : List (S37)) : Option ((List (S37)) × Int) := (papermillref04_both.f k l0 ([] : List (S37)) 0).bind fun bt60001 => (some (bt60001.1, bt60001.2))
theorem papermillref04_Norm.mono : ∀ a0 k, LeO (papermillref04_Norm.f k a0) (papermillref04_Norm.f (k + 1) a0) := by
  intro a0 k
  unfold papermillref04_Norm.f
  repeat' first
      | (with_reducible exact papermillref04_both.mono _ _ _ _)
      | (with_reducible exact LeO.refl _)
      | (with_reducible exact LeO.none _)
      | (with_reducible refine LeO.ite ?_ ?_)
      | (with_reducible refine LeO.bind ?_ (fun _ => ?_))
      | exact papermillref04_both.mono _ _ _ _
      | exact LeO.none _
      | refine LeO.ite ?_ ?_
      | refine LeO.bind ?_ (fun _ => ?_)
set_option maxHeartbeats 8000000 in
set_option maxRecDepth 100000 in
theorem papermillref04_Norm.calls (k : Nat) (A0 : Option Addr) (c0 : Nat) (l0 : List (S37)) (r1 : List (S37)) (r2 : Int) (w : World) (hr0 : Kd.C k37 w A0 l0.length l0) (hc0 : l0.length ≤ c0) (h : papermillref04_Norm.f k l0 = some (r1, r2)) :
    Calls Try.prog 59 #[.slice A0 l0.length c0] w fun e w' => ∃ v0_ : Value, e = .returned (.tuple #[v0_, .int .i64 r2]) ∧ Kd.R k37 37 w' w.heap.size (fun _ => True) v0_ r1 ∧ Below w.heap.size w w' := by
  have HR0 := Aside0.mk hr0
  have HC0 := Aside0.mk hc0
  clear hr0 hc0
  have HB := Aside0.mk (Below.refl w.heap.size w)
  have H : ((papermillref04_both.f k l0 ([] : List (S37)) 0).bind fun bt60001 => (some (bt60001.1, bt60001.2))) = some (r1, r2) := h
  clear h
  replace H := Option.bind_eq_some_iff.mp H
  obtain ⟨⟨t60001, t60002⟩, A20, H⟩ := H
  replace H : (some (t60001, t60002)) = some (r1, r2) := H
  have A2 := Aside0.mk A20
  clear A20
  simp only [Option.some.injEq, Prod.mk.injEq] at H
  obtain ⟨rfl, rfl⟩ := H
  go_enter Try.func59, Try.ntmps59
  go_wp2_with (first | ((with_reducible refine gate_callee (f := 68) rfl ?_); refine goesL_ (some 5) rfl rfl Try.func68 (by kernel_rfl) rfl #[.slice A0 l0.length c0, .slice none 0 0, .int .i64 0] rfl (by (try simp only [List.map_toArray, List.map_cons, List.map_nil]); first | done | rfl | (simp only [List.length_drop, List.length_take]; rfl)) ?_; (refine (papermillref04_both.calls k _ _ l0 _ _ ([] : List (S37)) 0 t60001 t60002 _ ?side1 ?side2 ?side3 ?side4 A2.out).mono ?_); (case side1 => exact HR0.out); (case side2 => exact HC0.out); (case side3 => exact Kd.C_nil _ _); (case side4 => exact Nat.le_refl _); rintro e w3 ⟨v60003, rfl, ho0, hb⟩; refine ⟨_, rfl, ?_⟩; have n0_ := Aside0.mk (Kd.R_lower ho0 (below_size (by repeat (first | exact HB.out | apply below_alloc | apply pw_below_drewN | apply below_drew1)))); have n1_ := Aside0.mk (below_step (by repeat (first | exact HB.out | apply below_alloc | apply pw_below_drewN | apply below_drew1)) hb); clear HB; have HO60004 := n0_; have HB := n1_; clear n0_ n1_; (try clear hb); (try clear hb2); (try clear hk); (try clear hi); (try clear ho0)))
  go_ret2
  exact ⟨_, by first | rfl | (simp [errW_none, errW_some] <;> rfl) | (simp [*, errW_none, errW_some] <;> rfl), by exact HO60004.out, by repeat (first | exact HB.out | apply below_alloc | apply pw_below_drewN | apply below_drew1)⟩

end Go.Proofs.Ytcnkmdonbpgjiaa.G

namespace Go.Proofs.Ytcnkmdonbpgjiaa.G
open Go.RowKit Go.Proofs.YtcnkmdonbpgjiaaW.PrintWords Go.Proofs.YtcnkmdonbpgjiaaW.PrintLast Go.Proofs.YtcnkmdonbpgjiaaW.PrintMore
attribute [local go_sem] max2_int min2_int max_two min_two max_three min_three max_four min_four   -- for this text's walks alone
set_option linter.unusedVariables false
set_option linter.unusedSimpArgs false

def papermillref04_Total.l0 : Nat → List (S37) → Int → Int → Int → Option (Int × Int)
 | 0, _, _, _, _ => none
 | k + 1, x4, x5, x6, x7 => if x7 < (x4.length : Int) then (if 0 ≤ x7 then (papermillref04_Total.l0 k x4 x5 (wrap64 ((wrap64 (x6 + ((rd_T37 x4 x7).f1))) - ((rd_T37 x4 x7).f0))) (wrap64 (x7 + 1))) else (none)) else (some (x6, x5))
def papermillref04_Total.f (k : Nat) (l0 : List (S37)) : Option (Int × Int) := (papermillref04_Norm.f k l0).bind fun bt45001 => (papermillref04_Total.l0 k bt45001.1 bt45001.2 0 0)
theorem papermillref04_Total.mono_l : ∀ k, (∀ y0 y1 y2 y3, LeO (papermillref04_Total.l0 k y0 y1 y2 y3) (papermillref04_Total.l0 (k + 1) y0 y1 y2 y3))
 | 0 => fun _ _ _ _ r h => by simp [papermillref04_Total.l0] at h
 | k + 1 => by
  have ih0 := papermillref04_Total.mono_l k
  ·intro y0 y1 y2 y3
   unfold papermillref04_Total.l0
   repeat' first
   | (with_reducible exact ih0 _ _ _ _)
   | (with_reducible exact papermillref04_Norm.mono _ _)
   | (with_reducible exact LeO.refl _)
   | (with_reducible exact LeO.none _)
   | (with_reducible refine LeO.ite ?_ ?_)
   | (with_reducible refine LeO.bind ?_ (fun _ => ?_))
   | exact ih0 _ _ _ _
   | exact papermillref04_Norm.mono _ _
   | exact LeO.none _
   | refine LeO.ite ?_ ?_
   | refine LeO.bind ?_ (fun _ => ?_)
theorem papermillref04_Total.mono : ∀ a0 k, LeO (papermillref04_Total.f k a0) (papermillref04_Total.f (k + 1) a0) := by
 intro a0 k
 have ih0 := papermillref04_Total.mono_l k
 unfold papermillref04_Total.f
 repeat' first
   | (with_reducible exact ih0 _ _ _ _)
   | (with_reducible exact papermillref04_Norm.mono _ _)
   | (with_reducible exact LeO.refl _)
   | (with_reducible exact LeO.none _)
   | (with_reducible refine LeO.ite ?_ ?_)
   | (with_reducible refine LeO.bind ?_ (fun _ => ?_))
   | exact ih0 _ _ _ _
   | exact papermillref04_Norm.mono _ _
   | exact LeO.none _
   | refine LeO.ite ?_ ?_
   | refine LeO.bind ?_ (fun _ => ?_)
set_option maxHeartbeats 8000000 in
set_option maxRecDepth 100000 in
theorem papermillref04_Total.calls (k : Nat) (A0 : Option Addr) (c0 : Nat) (l0 : List (S37)) (r1 : Int) (r2 : Int) (w : World) (hr0 : Kd.C k37 w A0 l0.length l0) (hc0 : l0.length ≤ c0) (h : papermillref04_Total.f k l0 = some (r1, r2)) :
  Calls Try.prog 44 #[.slice A0 l0.length c0] w fun e w' => e = .returned (.tuple #[.int .i64 r1, .int .i64 r2]) ∧ Below w.heap.size w w' := by
 have HR0 := Aside0.mk hr0
 have HC0 := Aside0.mk hc0
 clear hr0 hc0
 have HB := Aside0.mk (Below.refl w.heap.size w)
 have H : ((papermillref04_Norm.f k l0).bind fun bt45001 => (papermillref04_Total.l0 k bt45001.1 bt45001.2 0 0)) = some (r1, r2) := h
 clear h
 replace H := Option.bind_eq_some_iff.mp H
 obtain ⟨⟨t45001, t45002⟩, A20, H⟩ := H
 replace H : (papermillref04_Total.l0 k t45001 t45002 0 0) = some (r1, r2) := H
 have A2 := Aside0.mk A20
 clear A20
 have H' := Aside0.mk H
 clear H
 go_enter Try.func44, Try.ntmps44
 go_wp2_with (first | (go_at_call 59; (with_reducible refine (papermillref04_Norm.calls k _ _ l0 t45001 t45002 _ ?side1 ?side2 A2.out).mono ?_); (case side1 => exact HR0.out); (case side2 => exact HC0.out); rintro e w3 ⟨v45003, rfl, ho0, hb⟩; have n0_ := Aside0.mk (Kd.R_lower ho0 (below_size (by repeat (first | exact HB.out | apply below_alloc | apply pw_below_drewN | apply below_drew1)))); have n1_ := Aside0.mk (below_step (by repeat (first | exact HB.out | apply below_alloc | apply pw_below_drewN | apply below_drew1)) hb); clear HB; have HO45004 := n0_; have HB := n1_; clear n0_ n1_; (try clear hb); (try clear hb2); (try clear hk); (try clear hi); (try clear ho0)))
 repeat (go_quiet (first | (go_at_call 59; (with_reducible refine (papermillref04_Norm.calls k _ _ l0 t45001 t45002 _ ?side1 ?side2 A2.out).mono ?_); (case side1 => exact HR0.out); (case side2 => exact HC0.out); rintro e w3 ⟨v45003, rfl, ho0, hb⟩; have n0_ := Aside0.mk (Kd.R_lower ho0 (below_size (by repeat (first | exact HB.out | apply below_alloc | apply pw_below_drewN | apply below_drew1)))); have n1_ := Aside0.mk (below_step (by repeat (first | exact HB.out | apply below_alloc | apply pw_below_drewN | apply below_drew1)) hb); clear HB; have HO45004 := n0_; have HB := n1_; clear n0_ n1_; (try clear hb); (try clear hb2); (try clear hk); (try clear hi); (try clear ho0))); try go_wp2_with (first | (go_at_call 59; (with_reducible refine (papermillref04_Norm.calls k _ _ l0 t45001 t45002 _ ?side1 ?side2 A2.out).mono ?_); (case side1 => exact HR0.out); (case side2 => exact HC0.out); rintro e w3 ⟨v45003, rfl, ho0, hb⟩; have n0_ := Aside0.mk (Kd.R_lower ho0 (below_size (by repeat (first | exact HB.out | apply below_alloc | apply pw_below_drewN | apply below_drew1)))); have n1_ := Aside0.mk (below_step (by repeat (first | exact HB.out | apply below_alloc | apply pw_below_drewN | apply below_drew1)) hb); clear HB; have HO45004 := n0_; have HB := n1_; clear n0_ n1_; (try clear hb); (try clear hb2); (try clear hk); (try clear hi); (try clear ho0))))
 go_loopg [6, 7] k (fun kq v6 v7 w' => ∃ (x6_1 : Int) (x7_1 : Int), v6 = .int .i64 x6_1 ∧ v7 = .int .i64 x7_1 ∧ Aside0 (papermillref04_Total.l0 kq t45001 t45002 x6_1 x7_1 = some (r1, r2)) ∧ Aside0 (kq ≤ k) ∧ Aside0 (Kd.R k37 37 w' w.heap.size (fun _ => True) v45003 t45001) ∧ Aside0 (Below w.heap.size w w'))
 case atStart => exact ⟨(0), (0), (by first | rfl | (simp; done) | (simp [*]; done)), (by first | rfl | (simp; done) | (simp [*]; done)), H', ⟨Nat.le_refl _⟩, ⟨HO45004.out⟩, ⟨by repeat (first | exact HB.out | apply below_alloc | apply pw_below_drewN | apply below_drew1)⟩⟩
 case round =>
  clear H'
  try clear p2
  obtain ⟨x6_1, x7_1, rfl, rfl, HA, HK1, HO_4, HB⟩ := hrel
  cases gk with
  | zero => exact absurd HA.out (by simp [papermillref04_Total.l0])
  | succ k1 =>
   have H := HA.out
   clear HA
   simp only [papermillref04_Total.l0] at H
   by_cases c4 : x7_1 < (t45001.length : Int)
   ·rw [if_pos c4] at H
    have c4b0 : decide (x7_1 < (t45001.length : Int)) = true := decide_eq_true c4
    clear c4
    by_cases c5 : 0 ≤ x7_1
    ·rw [if_pos c5] at H
     have c5b0 : decide (0 ≤ x7_1) = true := decide_eq_true c5
     clear c5
     have H' := Aside0.mk H
     clear H
     obtain ⟨Ao6, co6, eo6⟩ := Kd.R_slice HO_4.out
     subst eo6
     have p45005 : 0 ≤ (x7_1 : Int) := of_decide_eq_true (by assumption)
     have q45005 : x7_1 < (t45001.length : Int) := of_decide_eq_true (by assumption)
     obtain ⟨ad45005, e45005, hx45005_0, hx45005_1⟩ := at_T37 (Kd.R_reads' HO_4.out).2.2 x7_1 p45005 q45005
     cases e45005
     replace p45005 := eq_true p45005
     replace q45005 := eq_true q45005
     have p45006 : 0 ≤ (x7_1 : Int) := of_decide_eq_true (by assumption)
     have q45006 : x7_1 < (t45001.length : Int) := of_decide_eq_true (by assumption)
     obtain ⟨ad45006, e45006, hx45006_0, hx45006_1⟩ := at_T37 (Kd.R_reads' HO_4.out).2.2 x7_1 p45006 q45006
     obtain rfl : ad45005 = ad45006 := (by injection e45006)
     replace p45006 := eq_true p45006
     replace q45006 := eq_true q45006
     go_wp2
     repeat (go_quiet (fail); try go_wp2)
     go_roundg k1
     case measure => have := HK1.out; omega
     case rel => exact ⟨(wrap64 ((wrap64 (x6_1 + ((rd_T37 t45001 x7_1).f1))) - ((rd_T37 t45001 x7_1).f0))), (wrap64 (x7_1 + 1)), (by first | rfl | (simp; done) | (simp [*]; done)), (by first | rfl | (simp; done) | (simp [*]; done)), H', ⟨by have := HK1.out; omega⟩, ⟨HO_4.out⟩, ⟨by repeat (first | exact HB.out | apply below_alloc | apply pw_below_drewN | apply below_drew1)⟩⟩
    ·rw [if_neg c5] at H
     exact absurd H (by simp)
   ·rw [if_neg c4] at H
    have c4b0 : decide (x7_1 < (t45001.length : Int)) = false := decide_eq_false c4
    clear c4
    simp only [Option.some.injEq, Prod.mk.injEq] at H
    obtain ⟨rfl, rfl⟩ := H
    obtain ⟨Ao7, co7, eo7⟩ := Kd.R_slice HO_4.out
    subst eo7
    go_wp2
    repeat (go_quiet (fail); try go_wp2)
    go_ret2
    exact ⟨by first | rfl | (simp [errW_none, errW_some] <;> rfl) | (simp [*, errW_none, errW_some] <;> rfl), by repeat (first | exact HB.out | apply below_alloc | apply pw_below_drewN | apply below_drew1)⟩

end Go.Proofs.Ytcnkmdonbpgjiaa.G

namespace Go.Proofs.Ytcnkmdonbpgjiaa.G
open Go.RowKit Go.Proofs.YtcnkmdonbpgjiaaW.PrintWords Go.Proofs.YtcnkmdonbpgjiaaW.PrintLast Go.Proofs.YtcnkmdonbpgjiaaW.PrintMore
set_option linter.unusedVariables false
set_option linter.unusedSimpArgs false
theorem rnorm_ends (l : List S37) : Ends (fun k => papermillref04_Norm.f k l) (bothOf l [] 0) := by
  unfold papermillref04_Norm.f
  exact Ends.bind (both_ends l [] 0 (.inl rfl)) (Ends.ret _)
theorem rtotal_l0 (l : List S37) (e : Int) (hl : l.length ≤ 1000) (hv : ∀ s ∈ l, 0 ≤ s.f0 ∧ s.f0 ≤ s.f1 ∧ s.f1 ≤ 17179869184) : ∀ (d i : Nat) (n : Int), l.length - i = d → i ≤ l.length → 0 ≤ n → n ≤ i * 17179869184 → Ends (fun k => papermillref04_Total.l0 k l e n (i : Int)) (n + tot (l.drop i), e) := by
  intro d
  induction d with
  | zero =>
    intro i n hd hi h0 h1
    refine Ends.succ ?_
    simp only [papermillref04_Total.l0]
    rw [List.drop_of_length_le (by omega)]
    exact Ends.neg (by omega) ((Ends.ret _).congr (by simp [tot]))
  | succ d ih =>
    intro i n hd hi h0 h1
    refine Ends.succ ?_
    have hx := hv (rd_T37 l (i : Int)) (by rw [rd36 l i (by omega)]; exact List.getElem_mem _)
    rw [drop36 l i (by omega), tot_cons]
    simp only [papermillref04_Total.l0, wrap_nat i (by omega)]
    generalize rd_T37 l (i : Int) = s at *
    have e1 : wrap64 (n + s.f1) = n + s.f1 := by unfold wrap64; omega
    have e2 : wrap64 (n + s.f1 - s.f0) = n + (s.f1 - s.f0) := by unfold wrap64; omega
    simp only [e1, e2]
    exact Ends.pos (by omega) (Ends.pos (by omega) ((ih (i + 1) (n + (s.f1 - s.f0)) (by omega) (by omega) (by omega) (by omega)).congr (by rw [Int.add_assoc])))
theorem rtotal_ends (l : List S37) : Ends (fun k => papermillref04_Total.f k l) (totalOf l) := by
  unfold papermillref04_Total.f totalOf
  refine Ends.bind (rnorm_ends l) ?_
  by_cases h0 : check04 l = 0
  · rw [norm_fits h0, if_pos h0]
    obtain ⟨g0, v0⟩ := good04 h0
    have n0 := joinOf_len l (-1) (fun s hs => by have := v0 s hs; omega)
    have b0 := joinOf_bound l (-1) 17179869184 (fun s hs => by have := v0 s hs; omega)
    exact (rtotal_l0 (joinOf l) 0 (by omega) (fun s hs => by have := b0 s hs; omega) _ 0 0 rfl (by omega) (by omega) (by omega)).congr (by simp)
  · have e : bothOf l [] 0 = ([], check04 l) := by unfold bothOf; rw [if_neg h0]
    rw [e, if_neg h0]
    exact (rtotal_l0 [] (check04 l) (by simp) (by simp) _ 0 0 rfl (by simp) (by omega) (by omega)).congr (by simp [tot])
theorem same_l0 (l : List S37) (hl : l.length ≤ 1000000) : ∀ (d i : Nat), l.length - i = d → i ≤ l.length → Ends (fun k => papermillref04_Same.l0 k l l (i : Int)) true := by
  intro d
  induction d with
  | zero =>
    intro i hd hi
    refine Ends.succ ?_
    simp only [papermillref04_Same.l0]
    exact Ends.neg (by omega) (Ends.ret _)
  | succ d ih =>
    intro i hd hi
    refine Ends.succ ?_
    simp only [papermillref04_Same.l0, wrap_nat i (by omega)]
    exact Ends.pos (by omega) (Ends.pos (by omega) (Ends.pos (by omega) (Ends.neg (by simp) (ih (i + 1) (by omega) (by omega)))))
theorem same_ends (l : List S37) (hl : l.length ≤ 1000000) : Ends (fun k => papermillref04_Same.f k l l) true := by
  unfold papermillref04_Same.f
  exact Ends.pos rfl (same_l0 l hl _ 0 rfl (by omega))
end Go.Proofs.Ytcnkmdonbpgjiaa.G

namespace Go.Proofs.Ytcnkmdonbpgjiaa.G
open Go.RowKit Go.Proofs.YtcnkmdonbpgjiaaW.PrintWords Go.Proofs.YtcnkmdonbpgjiaaW.PrintLast Go.Proofs.YtcnkmdonbpgjiaaW.PrintMore
set_option linter.unusedVariables false
set_option linter.unusedSimpArgs false
def fitX (xs : List Int) : Prop := ∀ x ∈ xs, 0 ≤ x ∧ x < 17179869184
theorem img_in {r : S32} (h : ¬ badR r) (i : Int) (h0 : 0 ≤ i) (h1 : i < r.f1) : 0 ≤ img r i ∧ img r i < 17179869184 := by
  unfold badR at h
  unfold img
  cases hb : r.f2 <;> simp [hb] at h ⊢ <;> omega
theorem sem_fit {l : List S32} (h : ∀ r ∈ l, ¬ badR r) : fitX (sem l) := by
  intro x hx
  obtain ⟨r, hr, hx⟩ := List.mem_flatMap.mp hx
  simp only [imgs, List.mem_map, List.mem_range] at hx
  obtain ⟨i, hi, rfl⟩ := hx
  exact img_in (h r hr) i (by omega) (by omega)
theorem mem_sem {l : List S32} {t : S32} (h : t ∈ l) (i : Nat) (hi : (i : Int) < t.f1) : img t i ∈ sem l := by
  refine List.mem_flatMap.mpr ⟨t, h, ?_⟩
  exact List.mem_iff_getElem?.mpr ⟨i, imgs_get t i hi⟩
theorem len_sem_mem {l : List S32} {t : S32} (h : t ∈ l) : t.f1.toNat ≤ (sem l).length := by
  induction l with
  | nil => simp at h
  | cons r l ih =>
    rw [sem_cons, List.length_append, imgs_len]
    rcases List.mem_cons.mp h with rfl | h
    · omega
    · have := ih h; omega
theorem check_nrm (xs : List Int) (h : fitX xs) (hl : xs.length ≤ 17179869184) (hn : (nrm xs).length ≤ 256) : check13 (nrm xs) = 0 := by
  have hok := nrm_ok xs
  have hg : ∀ t ∈ nrm xs, ¬ badR t := by
    intro t ht
    have h1 := (hok t ht).1
    have m0 := mem_sem ht 0 (by omega)
    have m1 := mem_sem ht (t.f1 - 1).toNat (by omega)
    have hlen := len_sem_mem ht
    rw [sem_nrm] at m0 m1 hlen
    have b0 := h _ m0
    have b1 := h _ m1
    rw [show (((t.f1 - 1).toNat : Nat) : Int) = t.f1 - 1 by omega] at b1
    unfold img at b0 b1
    unfold badR
    cases hb : t.f2 <;> simp [hb] at b0 b1 ⊢ <;> omega
  have ht := sem_len (nrm xs) (fun r hr => by have := (hok r hr).1; omega)
  rw [sem_nrm] at ht
  unfold check13
  rw [if_neg (by omega), if_neg, if_neg (by omega)]
  intro hb
  obtain ⟨t, ht2, hb⟩ := List.any_eq_true.mp hb
  exact hg t ht2 (by simpa using hb)
theorem tot_nrm (xs : List Int) : tot13 (nrm xs) = xs.length := by
  rw [← sem_len (nrm xs) (fun r hr => by have := (nrm_ok xs r hr).1; omega), sem_nrm]
theorem sem_small {l : List S32} (h : check13 l = 0) : (sem l).length ≤ 17179869184 := by
  have h1 := sem_tot h
  have h2 := (check13_zero h).2.2
  omega
theorem nrm_few {l : List S32} (h : check13 l = 0) : (nrm (sem l)).length ≤ l.length :=
  nrm_len l (fun r hr => (fit_of ((check13_zero h).2.1 r hr)).2.2.1)
theorem nrm_fair {l : List S32} (h : check13 l = 0) : check13 (nrm (sem l)) = 0 :=
  check_nrm _ (sem_fit (check13_zero h).2.1) (sem_small h) (by have := nrm_few h; have := (check13_zero h).1; omega)
theorem rev_few {l : List S32} (h : check13 l = 0) : (nrm (sem l).reverse).length ≤ l.length := by
  have hp : ∀ r ∈ l, 1 ≤ r.f1 := fun r hr => (fit_of ((check13_zero h).2.1 r hr)).2.2.1
  have := nrm_len (revL l) (revL_pos l hp)
  rw [sem_rev l hp, revL_len] at this
  exact this
theorem rev_fair {l : List S32} (h : check13 l = 0) : check13 (nrm (sem l).reverse) = 0 :=
  check_nrm _ (fun x hx => sem_fit (check13_zero h).2.1 x (List.mem_reverse.mp hx)) (by rw [List.length_reverse]; exact sem_small h) (by have := rev_few h; have := (check13_zero h).1; omega)
theorem normOf_nrm {l : List S32} (h : check13 l = 0) : normOf (nrm (sem l)) = (nrm (sem l), 0) := by unfold normOf; rw [if_pos (nrm_fair h), sem_nrm]
theorem at_nrm {l : List S32} (h : check13 l = 0) (x : Int) : atOf13 (nrm (sem l)) x = atOf13 l x := by
  unfold atOf13
  rw [if_pos (nrm_fair h), if_pos h, tot_nrm, ← sem_tot h, sem_nrm]
theorem rsame13_l0 (l : List S32) (hl : l.length ≤ 1000000) : ∀ (d i : Nat), l.length - i = d → i ≤ l.length → Ends (fun k => papermillref13_Same.l0 k l l (i : Int)) true := by
  intro d
  induction d with
  | zero =>
    intro i hd hi
    refine Ends.succ ?_
    simp only [papermillref13_Same.l0]
    exact Ends.neg (by omega) (Ends.ret _)
  | succ d ih =>
    intro i hd hi
    refine Ends.succ ?_
    simp only [papermillref13_Same.l0, wrap_nat i (by omega)]
    exact Ends.pos (by omega) (Ends.pos (by omega) (Ends.pos (by omega) (Ends.neg (by simp) (ih (i + 1) (by omega) (by omega)))))
theorem rsame13_ends (l : List S32) (hl : l.length ≤ 1000000) : Ends (fun k => papermillref13_Same.f k l l) true := by
  unfold papermillref13_Same.f
  exact Ends.pos rfl (rsame13_l0 l hl _ 0 rfl (by omega))
end Go.Proofs.Ytcnkmdonbpgjiaa.G

namespace Go.Proofs.Ytcnkmdonbpgjiaa.G
open Go.RowKit Go.Proofs.YtcnkmdonbpgjiaaW.PrintWords Go.Proofs.YtcnkmdonbpgjiaaW.PrintLast Go.Proofs.YtcnkmdonbpgjiaaW.PrintMore
set_option linter.unusedVariables false
set_option linter.unusedSimpArgs false
def expS (s : S37) : List Int := (List.range (s.f1 - s.f0).toNat).map fun (i : Nat) => s.f0 + i
def expL (l : List S37) : List Int := l.flatMap expS
theorem mem_expS (s : S37) (x : Int) : x ∈ expS s ↔ s.f0 ≤ x ∧ x < s.f1 := by
  unfold expS
  rw [List.mem_map]
  constructor
  · rintro ⟨i, hi, rfl⟩
    rw [List.mem_range] at hi
    omega
  · rintro ⟨h0, h1⟩
    exact ⟨(x - s.f0).toNat, List.mem_range.mpr (by omega), by omega⟩
theorem mem_expL (l : List S37) (x : Int) : x ∈ expL l ↔ Mem l x := by
  unfold expL Mem
  rw [List.mem_flatMap]
  simp only [mem_expS]
theorem expS_up (s : S37) : (expS s).Pairwise (· < ·) := by
  unfold expS
  rw [List.pairwise_map]
  exact List.pairwise_lt_range.imp (by intro a b h; omega)
theorem expL_up : ∀ (l : List S37) (e : Int), sep e l → (expL l).Pairwise (· < ·)
  | [], _, _ => by simp [expL]
  | s :: l, e, h => by
    have ih := expL_up l s.f1 h.2.2
    have e1 : expL (s :: l) = expS s ++ expL l := by simp [expL]
    rw [e1, List.pairwise_append]
    refine ⟨expS_up s, ih, fun a ha b hb => ?_⟩
    have h1 := (mem_expS s a).mp ha
    have h2 := sep_mem h.2.2 ((mem_expL l b).mp hb)
    omega
theorem expL_len : ∀ (l : List S37) (e : Int), sep e l → ((expL l).length : Int) = tot l
  | [], _, _ => by simp [expL, tot]
  | s :: l, e, h => by
    have ih := expL_len l s.f1 h.2.2
    have e1 : expL (s :: l) = expS s ++ expL l := by simp [expL]
    have e2 : (expS s).length = (s.f1 - s.f0).toNat := by simp [expS]
    have := h.2.1
    rw [e1, List.length_append, tot_cons, e2]
    omega
theorem join_twice {l : List S37} (h0 : check04 l = 0) : check04 (joinOf l) = 0 ∧ joinOf (joinOf l) = joinOf l ∧ sep (-1) (joinOf l) ∧ ∀ x, Mem (joinOf l) x ↔ Mem l x := by
  obtain ⟨g0, v0⟩ := good04 h0
  have u0 : ∀ s ∈ l, -1 < s.f0 ∧ s.f0 ≤ s.f1 := fun s hs => by have := v0 s hs; omega
  have n0 := joinOf_len l (-1) u0
  have b0 := joinOf_bound l (-1) 17179869184 (fun s hs => by have := v0 s hs; omega)
  obtain ⟨k1, k2⟩ := joinOf_ok l (-1) u0
  obtain ⟨k3, k4⟩ := joinOf_ok (joinOf l) (-1) (fun s hs => by have := b0 s hs; omega)
  refine ⟨?_, sep_unique k3 k1 k4, k1, k2⟩
  unfold check04
  rw [if_neg (by omega), if_neg]
  rintro ⟨s, hs, hb⟩
  have := b0 s hs
  unfold badS at hb
  omega
theorem mem_imgS {r : S32} (h : ¬ badR r) (y : Int) : ((imgS r).f0 ≤ y ∧ y < (imgS r).f1) ↔ y ∈ imgs r := by
  have hf := fit_of h
  unfold fitR at hf
  unfold imgs
  rw [List.mem_map]
  unfold imgS
  dsimp only
  cases hb : r.f2 with
  | true =>
    have e : ∀ i, img r i = r.f0 - i := fun i => by unfold img; rw [if_pos hb]
    have e0 : mn r.f0 (img r (r.f1 - 1)) = r.f0 - (r.f1 - 1) := by rw [e]; unfold mn; split <;> omega
    have e1 : mx r.f0 (img r (r.f1 - 1)) = r.f0 := by rw [e]; unfold mx; split <;> omega
    rw [e0, e1]
    constructor
    · rintro ⟨h0, h1⟩
      exact ⟨(r.f0 - y).toNat, List.mem_range.mpr (by omega), by rw [e]; omega⟩
    · rintro ⟨i, hi, rfl⟩
      rw [List.mem_range] at hi
      rw [e]
      omega
  | false =>
    have e : ∀ i, img r i = r.f0 + i := fun i => by unfold img; rw [if_neg (by simp [hb])]
    have e0 : mn r.f0 (img r (r.f1 - 1)) = r.f0 := by rw [e]; unfold mn; split <;> omega
    have e1 : mx r.f0 (img r (r.f1 - 1)) = r.f0 + (r.f1 - 1) := by rw [e]; unfold mx; split <;> omega
    rw [e0, e1]
    constructor
    · rintro ⟨h0, h1⟩
      exact ⟨(y - r.f0).toNat, List.mem_range.mpr (by omega), by rw [e]; omega⟩
    · rintro ⟨i, hi, rfl⟩
      rw [List.mem_range] at hi
      rw [e]
      omega
theorem mem_images {l : List S32} (hg : ∀ r ∈ l, ¬ badR r) (y : Int) : Mem (l.map imgS) y ↔ y ∈ sem l := by
  unfold Mem sem
  rw [List.mem_flatMap]
  constructor
  · rintro ⟨s, hs, h⟩
    obtain ⟨r, hr, rfl⟩ := List.mem_map.mp hs
    exact ⟨r, hr, (mem_imgS (hg r hr) y).mp h⟩
  · rintro ⟨r, hr, h⟩
    exact ⟨imgS r, List.mem_map_of_mem hr, (mem_imgS (hg r hr) y).mpr h⟩
theorem images_check {l : List S32} (h : check13 l = 0) : check04 (l.map imgS) = 0 := by
  obtain ⟨hl, hg, _⟩ := check13_zero h
  unfold check04
  rw [if_neg (by rw [List.length_map]; omega), if_neg]
  rintro ⟨s, hs, hb⟩
  obtain ⟨r, hr, rfl⟩ := List.mem_map.mp hs
  have := imgS_in (hg r hr)
  unfold badS at hb
  omega
theorem image_is13 {l : List S32} (h : check13 l = 0) : image13 l = (joinOf (l.map imgS), 0) := by
  unfold image13
  rw [if_pos h, norm_fits (images_check h)]
theorem total_is13 {l : List S32} (h : check13 l = 0) : totalOf (joinOf (l.map imgS)) = (tot (joinOf (l.map imgS)), 0) := by
  obtain ⟨h1, h2, _⟩ := join_twice (images_check h)
  unfold totalOf
  rw [if_pos h1, h2]
theorem single_is13 {l : List S32} (h : check13 l = 0) : single13 l = (tot (joinOf (l.map imgS)) == tot13 l) := by
  unfold single13
  rw [image_is13 h, if_pos rfl, total_is13 h, if_pos rfl]
theorem images_few {l : List S32} (h : check13 l = 0) : tot (joinOf (l.map imgS)) ≤ tot13 l := by
  obtain ⟨hl, hg, _⟩ := check13_zero h
  obtain ⟨_, _, h3, h4⟩ := join_twice (images_check h)
  have h5 := sub_len _ (sem l) (expL_up _ _ h3) (fun x hx => (mem_images hg x).mp ((h4 x).mp ((mem_expL _ x).mp hx)))
  have h6 := expL_len _ _ h3
  have h7 := sem_len l (fun r hr => by have := fit_of (hg r hr); unfold fitR at this; omega)
  omega
theorem images_once {l : List S32} (h : check13 l = 0) (he : tot (joinOf (l.map imgS)) = tot13 l) (i j : Nat) (y : Int) (hi : (sem l)[i]? = some y) (hj : (sem l)[j]? = some y) : i = j := by
  obtain ⟨hl, hg, _⟩ := check13_zero h
  obtain ⟨_, _, h3, h4⟩ := join_twice (images_check h)
  have h6 := expL_len _ _ h3
  have h7 := sem_len l (fun r hr => by have := fit_of (hg r hr); unfold fitR at this; omega)
  rcases Nat.decEq i j with hne | heq
  · have hlt : i < (sem l).length := by
      rcases Nat.lt_or_ge i (sem l).length with h | h
      · exact h
      · rw [List.getElem?_eq_none h] at hi; cases hi
    have h5 := sub_len _ ((sem l).eraseIdx i) (expL_up _ _ h3) (fun x hx => by
      have hx2 := (mem_images hg x).mp ((h4 x).mp ((mem_expL _ x).mp hx))
      obtain ⟨t, ht⟩ := List.mem_iff_getElem?.mp hx2
      rw [List.mem_eraseIdx_iff_getElem?]
      by_cases hti : t = i
      · subst hti
        rw [hi] at ht
        exact ⟨j, fun hh => hne hh.symm, by rw [hj, ht]⟩
      · exact ⟨t, hti, ht⟩)
    rw [List.length_eraseIdx_of_lt hlt] at h5
    omega
  · exact heq
theorem mem_findS {r : S32} (h : ¬ badR r) (p y q : Int) : Mem (findS p r y (y + 1)) q ↔ p ≤ q ∧ q < p + r.f1 ∧ img r (q - p) = y := by
  have hf := fit_of h
  unfold fitR at hf
  unfold findS imgS
  dsimp only
  cases hb : r.f2 with
  | true =>
    have e : ∀ i, img r i = r.f0 - i := fun i => by unfold img; rw [if_pos hb]
    have e0 : mn r.f0 (img r (r.f1 - 1)) = r.f0 - (r.f1 - 1) := by rw [e]; unfold mn; split <;> omega
    have e1 : mx r.f0 (img r (r.f1 - 1)) = r.f0 := by rw [e]; unfold mx; split <;> omega
    rw [e0, e1, e, if_pos rfl]
    by_cases hc : r.f0 - (r.f1 - 1) ≤ y ∧ y ≤ r.f0
    · have e2 : mx (r.f0 - (r.f1 - 1)) y = y := by unfold mx; split <;> omega
      have e3 : mn (r.f0 + 1) (y + 1) = y + 1 := by unfold mn; split <;> omega
      rw [e2, e3, if_pos (by omega)]
      unfold Mem
      constructor
      · rintro ⟨s, hs, h1, h2⟩
        rw [List.mem_singleton] at hs
        subst hs
        dsimp only at h1 h2
        omega
      · intro h1
        exact ⟨_, List.mem_singleton.mpr rfl, by dsimp only; omega, by dsimp only; omega⟩
    · rw [if_neg (by unfold mn mx; (repeat' split) <;> omega)]
      constructor
      · rintro ⟨s, hs, _⟩; simp at hs
      · intro h1; omega
  | false =>
    have e : ∀ i, img r i = r.f0 + i := fun i => by unfold img; rw [if_neg (by simp [hb])]
    have e0 : mn r.f0 (img r (r.f1 - 1)) = r.f0 := by rw [e]; unfold mn; split <;> omega
    have e1 : mx r.f0 (img r (r.f1 - 1)) = r.f0 + (r.f1 - 1) := by rw [e]; unfold mx; split <;> omega
    rw [e0, e1, e]
    simp only [Bool.false_eq_true, if_false]
    by_cases hc : r.f0 ≤ y ∧ y ≤ r.f0 + (r.f1 - 1)
    · have e2 : mx r.f0 y = y := by unfold mx; split <;> omega
      have e3 : mn (r.f0 + (r.f1 - 1) + 1) (y + 1) = y + 1 := by unfold mn; split <;> omega
      rw [e2, e3, if_pos (by omega)]
      unfold Mem
      constructor
      · rintro ⟨s, hs, h1, h2⟩
        rw [List.mem_singleton] at hs
        subst hs
        dsimp only at h1 h2
        omega
      · intro h1
        exact ⟨_, List.mem_singleton.mpr rfl, by dsimp only; omega, by dsimp only; omega⟩
    · rw [if_neg (by unfold mn mx; (repeat' split) <;> omega)]
      constructor
      · rintro ⟨s, hs, _⟩; simp at hs
      · intro h1; omega
theorem mem_findL : ∀ (l : List S32) (p y q : Int), (∀ r ∈ l, ¬ badR r) → (Mem (findL p y (y + 1) l) q ↔ p ≤ q ∧ (sem l)[(q - p).toNat]? = some y)
  | [], p, y, q, _ => by simp [findL, sem_nil, mem_nil]
  | r :: l, p, y, q, hg => by
    have hr := hg r (by simp)
    have hf := fit_of hr
    unfold fitR at hf
    rw [findL, mem_append, mem_findS hr, mem_findL l (p + r.f1) y q (fun r hr => hg r (by simp [hr])), sem_cons]
    by_cases hq : p ≤ q
    · by_cases h2 : q < p + r.f1
      · rw [List.getElem?_append_left (by rw [imgs_len]; omega), imgs_get r _ (by omega), show (((q - p).toNat : Nat) : Int) = q - p by omega]
        constructor
        · rintro (h | h)
          · exact ⟨hq, by rw [h.2.2]⟩
          · omega
        · rintro ⟨_, h⟩
          exact .inl ⟨hq, h2, Option.some.inj h⟩
      · rw [List.getElem?_append_right (by rw [imgs_len]; omega), imgs_len, show (q - p).toNat - r.f1.toNat = (q - (p + r.f1)).toNat by omega]
        constructor
        · rintro (h | h)
          · omega
          · exact ⟨hq, h.2⟩
        · rintro ⟨_, h⟩
          exact .inr ⟨by omega, h⟩
    · constructor
      · rintro (h | h) <;> omega
      · rintro ⟨h, _⟩; omega
theorem findS_in {r : S32} (h : ¬ badR r) (p a b : Int) : ∀ s ∈ findS p r a b, p ≤ s.f0 ∧ s.f0 ≤ s.f1 ∧ s.f1 ≤ p + r.f1 := by
  have hi := imgS_in h
  intro s hs
  unfold findS at hs
  split at hs
  · rename_i hc
    rw [List.mem_singleton] at hs
    subst hs
    dsimp only
    generalize (imgS r).f0 = u at *
    generalize (imgS r).f1 = v at *
    unfold mn mx at *
    cases r.f2 <;> simp only [if_true, Bool.false_eq_true, if_false] <;> (repeat' split) <;> (repeat' split at hc) <;> omega
  · simp at hs
theorem findL_in : ∀ (l : List S32) (p a b : Int), (∀ r ∈ l, ¬ badR r) → ∀ s ∈ findL p a b l, p ≤ s.f0 ∧ s.f0 ≤ s.f1 ∧ s.f1 ≤ p + tot13 l
  | [], p, a, b, _ => by simp [findL]
  | r :: l, p, a, b, hg => by
    intro s hs
    have hr := hg r (by simp)
    have hf := fit_of hr
    unfold fitR at hf
    have hT : 0 ≤ tot13 l := by rw [← sem_len l (fun x hx => by have := fit_of (hg x (by simp [hx])); unfold fitR at this; omega)]; omega
    rw [findL] at hs
    rw [tot13_cons]
    rcases List.mem_append.mp hs with hs | hs
    · have := findS_in hr p a b s hs
      omega
    · have := findL_in l (p + r.f1) a b (fun r hr => hg r (by simp [hr])) s hs
      omega
theorem findL_len : ∀ (l : List S32) (p a b : Int), (findL p a b l).length ≤ l.length
  | [], p, a, b => by simp [findL]
  | r :: l, p, a, b => by
    rw [findL, List.length_append, List.length_cons]
    have h1 := findS_len p r a b
    have h2 := findL_len l (p + r.f1) a b
    omega
theorem find_check {l : List S32} (h : check13 l = 0) (a b : Int) : check04 (findL 0 a b l) = 0 := by
  obtain ⟨hl, hg, ht⟩ := check13_zero h
  have h1 := findL_len l 0 a b
  unfold check04
  rw [if_neg (by omega), if_neg]
  rintro ⟨s, hs, hb⟩
  have := findL_in l 0 a b hg s hs
  unfold badS at hb
  omega
theorem iLen_ends (l : List S32) : Ends (fun k => iso_Length.f k l) (if check13 l = 0 then (tot13 l, 0) else (0, check13 l)) := by
  unfold iso_Length.f
  refine Ends.bind (icheck_ends l) ?_
  by_cases h : check13 l = 0
  · rw [if_pos h]
    obtain ⟨hl, hg, _⟩ := check13_zero h
    exact Ends.pos h (Ends.bind (ilength_ends l (by omega) (fun r hr => by have := fit_of (hg r hr); unfold fitR at this; omega)) (Ends.ret _))
  · rw [if_neg h]
    exact Ends.neg h (Ends.ret _)
end Go.Proofs.Ytcnkmdonbpgjiaa.G
