import Derived.Test.YtnfcpcgbdoiiiaaQ1
import Derived.Test.YtnfcpcgbdoiiiaaQ4
import Derived.Test.YtnfcpcgbdoiiiaaQ6
import Derived.Test.YtnfcpcgbdoiiiaaQ5
import Derived.RangeFuncRecord
import Derived.Test.YtnfcpcgbdoiiiaaQ3
namespace Go.Proofs.Ytnfcpcgbdoiiiaa.G
open Go.RowKit Go.Proofs.YtnfcpcgbdoiiiaaW.PrintWords Go.Proofs.YtnfcpcgbdoiiiaaW.PrintLast Go.Proofs.YtnfcpcgbdoiiiaaW.PrintMore
attribute [local go_sem] max2_int min2_int max_two min_two max_three min_three max_four min_four   -- for this text's walks alone
set_option linter.unusedVariables false
set_option linter.unusedSimpArgs false

def papermillref52_one.j0 : Nat → Bool → Int → List (S50) → Int → Option (Int)
 | 0, _, _, _, _ => none
 | k + 1, x13, x42002000, x42002001, x42002002 => if x13 = true then (some 1) else ((papermillref04_Check.f k x42002001).bind fun t42002 => (if t42002 = 0 then ((papermillref04_Norm.f k x42002001).bind fun bt42003 => ((papermillref52_Spans.f k bt42003.1 x42002001).bind fun t42007 => (if t42007 = true then (if (bt42003.1.length : Int) > 0 then (if 0 ≤ (wrap64 ((bt42003.1.length : Int) - 1)) then (if (wrap64 ((bt42003.1.length : Int) - 1)) < (bt42003.1.length : Int) then (if ((rd_T50 bt42003.1 (wrap64 ((bt42003.1.length : Int) - 1))).f1) > x42002000 then (some 1) else (some 0)) else (none)) else (none)) else (some 0)) else (some 9)))) else (some t42002)))
def papermillref52_one.f (k : Nat) (a0_0 : Int) (l0_1 : List (S50)) (a0_2 : Int) : Option (Int) := if a0_0 < 0 then (papermillref52_one.j0 k true a0_0 l0_1 a0_2) else (papermillref52_one.j0 k (decide (a0_0 > 17179869184)) a0_0 l0_1 a0_2)
theorem papermillref52_one.mono_l : ∀ k, (∀ y0 y1 y2 y3, LeO (papermillref52_one.j0 k y0 y1 y2 y3) (papermillref52_one.j0 (k + 1) y0 y1 y2 y3))
 | 0 => fun _ _ _ _ r h => by simp [papermillref52_one.j0] at h
 | k + 1 => by
  have ih0 := papermillref52_one.mono_l k
  ·intro y0 y1 y2 y3
   unfold papermillref52_one.j0
   repeat' first
   | (with_reducible exact ih0 _ _ _ _)
   | (with_reducible exact papermillref04_Check.mono _ _)
   | (with_reducible exact papermillref04_Norm.mono _ _)
   | (with_reducible exact papermillref52_Spans.mono _ _ _)
   | (with_reducible exact LeO.refl _)
   | (with_reducible exact LeO.none _)
   | (with_reducible refine LeO.ite ?_ ?_)
   | (with_reducible refine LeO.bind ?_ (fun _ => ?_))
   | exact ih0 _ _ _ _
   | exact papermillref04_Check.mono _ _
   | exact papermillref04_Norm.mono _ _
   | exact papermillref52_Spans.mono _ _ _
   | exact LeO.none _
   | refine LeO.ite ?_ ?_
   | refine LeO.bind ?_ (fun _ => ?_)
theorem papermillref52_one.mono : ∀ a0 a1 a2 k, LeO (papermillref52_one.f k a0 a1 a2) (papermillref52_one.f (k + 1) a0 a1 a2) := by
 intro a0 a1 a2 k
 have ih0 := papermillref52_one.mono_l k
 unfold papermillref52_one.f
 repeat' first
   | (with_reducible exact ih0 _ _ _ _)
   | (with_reducible exact papermillref04_Check.mono _ _)
   | (with_reducible exact papermillref04_Norm.mono _ _)
   | (with_reducible exact papermillref52_Spans.mono _ _ _)
   | (with_reducible exact LeO.refl _)
   | (with_reducible exact LeO.none _)
   | (with_reducible refine LeO.ite ?_ ?_)
   | (with_reducible refine LeO.bind ?_ (fun _ => ?_))
   | exact ih0 _ _ _ _
   | exact papermillref04_Check.mono _ _
   | exact papermillref04_Norm.mono _ _
   | exact papermillref52_Spans.mono _ _ _
   | exact LeO.none _
   | refine LeO.ite ?_ ?_
   | refine LeO.bind ?_ (fun _ => ?_)
set_option maxHeartbeats 8000000 in
set_option maxRecDepth 100000 in
theorem papermillref52_one.calls (k : Nat) (a0_0 : Int) (A0_1 : Option Addr) (c0_1 : Nat) (l0_1 : List (S50)) (a0_2 : Int) (r : Int) (w : World) (hr0_1 : Kd.C k50 w A0_1 l0_1.length l0_1) (hc0_1 : l0_1.length ≤ c0_1) (h : papermillref52_one.f k a0_0 l0_1 a0_2 = some r) :
  Calls Try.prog 41 #[.agg #[.int .i64 a0_0, .slice A0_1 l0_1.length c0_1, .int .i64 a0_2]] w fun e w' => e = .returned (.int .i64 r) ∧ Below w.heap.size w w' := by
 have hu25 := Try.underlying25
 have HR0_1 := Aside0.mk hr0_1
 have HC0_1 := Aside0.mk hc0_1
 clear hr0_1 hc0_1
 have HB := Aside0.mk (Below.refl w.heap.size w)
 have H : (if a0_0 < 0 then (papermillref52_one.j0 k true a0_0 l0_1 a0_2) else (papermillref52_one.j0 k (decide (a0_0 > 17179869184)) a0_0 l0_1 a0_2)) = some r := h
 clear h
 have HC2 := Aside0.mk H
 clear H
 go_enter Try.func41, Try.ntmps41
 go_upto_region 1 with (first | ((with_reducible refine gate_dst (N := 1) rfl ?_); (try (refine gate_guard (by rfl) ?_; dsimp only)); refine box_event ?hg (N := 1) ?hd (cs := #[.int .i64 a0_0, .slice A0_1 l0_1.length c0_1, .int .i64 a0_2]) (t := 25) ?hr ?_; (case hd => rfl); (case hg => rfl); (case hr => first | (go_simp; done) | (go_simp; rfl)); intro gb42001 hg w3 hbox hb; have n0_ := Aside0.mk (below_step (by repeat (first | exact HB.out | apply below_alloc | apply pw_below_drewN | apply below_drew1)) hb); have n1_ := Aside0.mk (hbox); have n2_ := Aside0.mk ((by rw [hg]; exact (below_size (by repeat (first | exact HB.out | apply below_alloc | apply pw_below_drewN | apply below_drew1))) : w.heap.size ≤ gb42001)); have n3_ := Aside0.mk ((by rw [hg]; exact (below_size (by repeat (first | exact HB.out | apply below_alloc | apply pw_below_drewN | apply below_drew1))) : w.heap.size ≤ gb42001)); clear HB; have HB := n0_; have BK42001 := n1_; have GW42001 := n2_; have GE42001 := n3_; clear n0_ n1_ n2_ n3_; clear hb hbox hg))
 repeat (go_quiet (first | ((with_reducible refine gate_dst (N := 1) rfl ?_); (try (refine gate_guard (by rfl) ?_; dsimp only)); refine box_event ?hg (N := 1) ?hd (cs := #[.int .i64 a0_0, .slice A0_1 l0_1.length c0_1, .int .i64 a0_2]) (t := 25) ?hr ?_; (case hd => rfl); (case hg => rfl); (case hr => first | (go_simp; done) | (go_simp; rfl)); intro gb42001 hg w3 hbox hb; have n0_ := Aside0.mk (below_step (by repeat (first | exact HB.out | apply below_alloc | apply pw_below_drewN | apply below_drew1)) hb); have n1_ := Aside0.mk (hbox); have n2_ := Aside0.mk ((by rw [hg]; exact (below_size (by repeat (first | exact HB.out | apply below_alloc | apply pw_below_drewN | apply below_drew1))) : w.heap.size ≤ gb42001)); have n3_ := Aside0.mk ((by rw [hg]; exact (below_size (by repeat (first | exact HB.out | apply below_alloc | apply pw_below_drewN | apply below_drew1))) : w.heap.size ≤ gb42001)); clear HB; have HB := n0_; have BK42001 := n1_; have GW42001 := n2_; have GE42001 := n3_; clear n0_ n1_ n2_ n3_; clear hb hbox hg)); go_upto_region 1 with (first | ((with_reducible refine gate_dst (N := 1) rfl ?_); (try (refine gate_guard (by rfl) ?_; dsimp only)); refine box_event ?hg (N := 1) ?hd (cs := #[.int .i64 a0_0, .slice A0_1 l0_1.length c0_1, .int .i64 a0_2]) (t := 25) ?hr ?_; (case hd => rfl); (case hg => rfl); (case hr => first | (go_simp; done) | (go_simp; rfl)); intro gb42001 hg w3 hbox hb; have n0_ := Aside0.mk (below_step (by repeat (first | exact HB.out | apply below_alloc | apply pw_below_drewN | apply below_drew1)) hb); have n1_ := Aside0.mk (hbox); have n2_ := Aside0.mk ((by rw [hg]; exact (below_size (by repeat (first | exact HB.out | apply below_alloc | apply pw_below_drewN | apply below_drew1))) : w.heap.size ≤ gb42001)); have n3_ := Aside0.mk ((by rw [hg]; exact (below_size (by repeat (first | exact HB.out | apply below_alloc | apply pw_below_drewN | apply below_drew1))) : w.heap.size ≤ gb42001)); clear HB; have HB := n0_; have BK42001 := n1_; have GW42001 := n2_; have GE42001 := n3_; clear n0_ n1_ n2_ n3_; clear hb hbox hg)))
 (try simp only [Act.put, List.setIfInBounds_toArray, List.set_cons_zero, List.set_cons_succ])
 go_cut [13] (fun v13 wc => ∃ (kq : Nat) (x13_1 : Bool), v13 = .bool x13_1 ∧ Aside0 (papermillref52_one.j0 kq x13_1 a0_0 l0_1 a0_2 = some r) ∧ Aside0 (kq ≤ k) ∧ Aside0 (wc.heap[gb42001]? = some (.cells #[.int .i64 a0_0, (.slice A0_1 l0_1.length c0_1), .int .i64 a0_2] 25 (0, 0))) ∧ Aside0 (Below w.heap.size w wc))
 case first =>
  have H := HC2.out
  clear HC2
  by_cases c4 : a0_0 < 0
  ·rw [if_pos c4] at H
   have c4b0 : decide (a0_0 < 0) = true := decide_eq_true c4
   clear c4
   (first | rw [c4b0] | (simp only [i64_w, i32_w]; rw [c4b0]) | skip)
   have H' := Aside0.mk H
   clear H
   have hcz5_0 : w3.cell? ⟨gb42001, 0, none⟩ = some (.int .i64 a0_0) := (blk_cell BK42001.out 0).trans rfl
   have hcz5_1 : w3.cell? ⟨gb42001, 1, none⟩ = some (.slice A0_1 l0_1.length c0_1) := (blk_cell BK42001.out 1).trans rfl
   have hcz5_2 : w3.cell? ⟨gb42001, 2, none⟩ = some (.int .i64 a0_2) := (blk_cell BK42001.out 2).trans rfl
   have hfz5_0 := blk_frozen BK42001.out 0
   have hfz5_1 := blk_frozen BK42001.out 1
   have hfz5_2 := blk_frozen BK42001.out 2
   go_wp2
   repeat (go_quiet (fail); try go_wp2)
   go_meet
   case rel => exact ⟨_, (true), (by first | rfl | (simp; done) | (simp [*]; done)), H', ⟨by first | omega | exact Nat.le_refl _⟩, ⟨by exact BK42001.out⟩, ⟨by repeat (first | exact HB.out | apply below_alloc | apply pw_below_drewN | apply below_drew1 | refine below_set ?_ GE42001.out)⟩⟩
  ·rw [if_neg c4] at H
   have c4b0 : decide (a0_0 < 0) = false := decide_eq_false c4
   clear c4
   (first | rw [c4b0] | (simp only [i64_w, i32_w]; rw [c4b0]) | skip)
   have H' := Aside0.mk H
   clear H
   have hcz6_0 : w3.cell? ⟨gb42001, 0, none⟩ = some (.int .i64 a0_0) := (blk_cell BK42001.out 0).trans rfl
   have hcz6_1 : w3.cell? ⟨gb42001, 1, none⟩ = some (.slice A0_1 l0_1.length c0_1) := (blk_cell BK42001.out 1).trans rfl
   have hcz6_2 : w3.cell? ⟨gb42001, 2, none⟩ = some (.int .i64 a0_2) := (blk_cell BK42001.out 2).trans rfl
   have hfz6_0 := blk_frozen BK42001.out 0
   have hfz6_1 := blk_frozen BK42001.out 1
   have hfz6_2 := blk_frozen BK42001.out 2
   go_wp2
   repeat (go_quiet (fail); try go_wp2)
   go_meet
   case rel => exact ⟨_, (decide (a0_0 > 17179869184)), (by first | rfl | (simp; done) | (simp [*]; done)), H', ⟨by first | omega | exact Nat.le_refl _⟩, ⟨by exact BK42001.out⟩, ⟨by repeat (first | exact HB.out | apply below_alloc | apply pw_below_drewN | apply below_drew1 | refine below_set ?_ GE42001.out)⟩⟩
 case rest =>
  clear HC2
  try clear p2
  try clear c4
  try clear c4b0
  try clear hcz5_0
  try clear hcz5_1
  try clear hcz5_2
  try clear hcz6_0
  try clear hcz6_1
  try clear hcz6_2
  try clear hfz5_0
  try clear hfz5_1
  try clear hfz5_2
  try clear hfz6_0
  try clear hfz6_1
  try clear hfz6_2
  obtain ⟨kq, x13_1, rfl, HA, HJ1, BK42001, HB⟩ := hcut
  cases kq with
  | zero => exact absurd HA.out (by simp [papermillref52_one.j0])
  | succ kj1 =>
   have H := HA.out
   clear HA
   simp only [papermillref52_one.j0] at H
   by_cases c7 : x13_1 = true
   ·subst c7
    have H1 : (some 1) = some r := by rw [if_pos rfl] at H; exact H
    clear H
    have H := H1
    clear H1
    obtain rfl := Option.some.inj H
    go_wp2
    repeat (go_quiet (fail); try go_wp2)
    go_ret
    exact ⟨by first | rfl | (simp [errW_none, errW_some] <;> rfl) | (simp [*, errW_none, errW_some] <;> rfl), by repeat (first | exact HB.out | apply below_alloc | apply pw_below_drewN | apply below_drew1 | refine below_set ?_ GE42001.out)⟩
   ·replace c7 := Bool.eq_false_iff.mpr c7
    subst c7
    have H1 : ((papermillref04_Check.f kj1 l0_1).bind fun t42002 => (if t42002 = 0 then ((papermillref04_Norm.f kj1 l0_1).bind fun bt42003 => ((papermillref52_Spans.f kj1 bt42003.1 l0_1).bind fun t42007 => (if t42007 = true then (if (bt42003.1.length : Int) > 0 then (if 0 ≤ (wrap64 ((bt42003.1.length : Int) - 1)) then (if (wrap64 ((bt42003.1.length : Int) - 1)) < (bt42003.1.length : Int) then (if ((rd_T50 bt42003.1 (wrap64 ((bt42003.1.length : Int) - 1))).f1) > a0_0 then (some 1) else (some 0)) else (none)) else (none)) else (some 0)) else (some 9)))) else (some t42002))) = some r := by rw [if_neg (show ¬ (false = true) by decide)] at H; first | exact H | simpa using H
    clear H
    have H := H1
    clear H1
    replace H := Option.bind_eq_some_iff.mp H
    obtain ⟨t42002, A80, H⟩ := H
    replace H : (if t42002 = 0 then ((papermillref04_Norm.f kj1 l0_1).bind fun bt42003 => ((papermillref52_Spans.f kj1 bt42003.1 l0_1).bind fun t42007 => (if t42007 = true then (if (bt42003.1.length : Int) > 0 then (if 0 ≤ (wrap64 ((bt42003.1.length : Int) - 1)) then (if (wrap64 ((bt42003.1.length : Int) - 1)) < (bt42003.1.length : Int) then (if ((rd_T50 bt42003.1 (wrap64 ((bt42003.1.length : Int) - 1))).f1) > a0_0 then (some 1) else (some 0)) else (none)) else (none)) else (some 0)) else (some 9)))) else (some t42002)) = some r := H
    have A8 := Aside0.mk A80
    clear A80
    by_cases c9 : t42002 = 0
    ·rw [if_pos c9] at H
     have c9b0 : (t42002 == 0) = true := beq_iff_eq.mpr c9
     have c9b1 : (t42002 != 0) = false := bne_eq_false_iff_eq.mpr c9
     clear c9
     replace H := Option.bind_eq_some_iff.mp H
     obtain ⟨⟨t42003, t42004⟩, A100, H⟩ := H
     replace H : ((papermillref52_Spans.f kj1 t42003 l0_1).bind fun t42007 => (if t42007 = true then (if (t42003.length : Int) > 0 then (if 0 ≤ (wrap64 ((t42003.length : Int) - 1)) then (if (wrap64 ((t42003.length : Int) - 1)) < (t42003.length : Int) then (if ((rd_T50 t42003 (wrap64 ((t42003.length : Int) - 1))).f1) > a0_0 then (some 1) else (some 0)) else (none)) else (none)) else (some 0)) else (some 9))) = some r := H
     have A10 := Aside0.mk A100
     clear A100
     replace H := Option.bind_eq_some_iff.mp H
     obtain ⟨t42007, A110, H⟩ := H
     replace H : (if t42007 = true then (if (t42003.length : Int) > 0 then (if 0 ≤ (wrap64 ((t42003.length : Int) - 1)) then (if (wrap64 ((t42003.length : Int) - 1)) < (t42003.length : Int) then (if ((rd_T50 t42003 (wrap64 ((t42003.length : Int) - 1))).f1) > a0_0 then (some 1) else (some 0)) else (none)) else (none)) else (some 0)) else (some 9)) = some r := H
     have A11 := Aside0.mk A110
     clear A110
     by_cases c12 : t42007 = true
     ·subst c12
      have H1 : (if (t42003.length : Int) > 0 then (if 0 ≤ (wrap64 ((t42003.length : Int) - 1)) then (if (wrap64 ((t42003.length : Int) - 1)) < (t42003.length : Int) then (if ((rd_T50 t42003 (wrap64 ((t42003.length : Int) - 1))).f1) > a0_0 then (some 1) else (some 0)) else (none)) else (none)) else (some 0)) = some r := by rw [if_pos rfl] at H; exact H
      clear H
      have H := H1
      clear H1
      by_cases c13 : (t42003.length : Int) > 0
      ·rw [if_pos c13] at H
       have c13b0 : decide (0 < (t42003.length : Int)) = true := decide_eq_true c13
       have c13b1 : decide (0 < t42003.length) = true := decide_eq_true (by omega)
       clear c13
       obtain ⟨ji14, hji14⟩ : ∃ j_ : Int, (wrap64 ((t42003.length : Int) - 1)) = j_ := ⟨_, rfl⟩
       replace H : (if 0 ≤ (ji14) then (if (ji14) < (t42003.length : Int) then (if ((rd_T50 t42003 (ji14)).f1) > a0_0 then (some 1) else (some 0)) else (none)) else (none)) = some r := by first | (rw [hji14] at H; exact H) | (simp only [hji14] at H ⊢; exact H)
       (try rw [hji14] at A8)
       (try rw [hji14] at A10)
       (try rw [hji14] at A11)
       have hji14w : (IntKind.i64.wrap ((t42003.length : Int) - 1)) = ji14 := (i64_w _).trans hji14
       by_cases c15 : 0 ≤ (ji14)
       ·rw [if_pos c15] at H
        have c15b0 : decide (0 ≤ (ji14)) = true := decide_eq_true c15
        clear c15
        by_cases c16 : (ji14) < (t42003.length : Int)
        ·rw [if_pos c16] at H
         have c16b0 : decide ((ji14) < (t42003.length : Int)) = true := decide_eq_true c16
         clear c16
         by_cases c17 : ((rd_T50 t42003 (ji14)).f1) > a0_0
         ·rw [if_pos c17] at H
          have c17b0 : decide (a0_0 < ((rd_T50 t42003 (ji14)).f1)) = true := decide_eq_true c17
          clear c17
          obtain rfl := Option.some.inj H
          have hcz18_0 : wc.cell? ⟨gb42001, 0, none⟩ = some (.int .i64 a0_0) := (blk_cell BK42001.out 0).trans rfl
          have hcz18_1 : wc.cell? ⟨gb42001, 1, none⟩ = some (.slice A0_1 l0_1.length c0_1) := (blk_cell BK42001.out 1).trans rfl
          have hcz18_2 : wc.cell? ⟨gb42001, 2, none⟩ = some (.int .i64 a0_2) := (blk_cell BK42001.out 2).trans rfl
          have hfz18_0 := blk_frozen BK42001.out 0
          have hfz18_1 := blk_frozen BK42001.out 1
          have hfz18_2 := blk_frozen BK42001.out 2
          go_wp2_with (first | (go_at_call 36; (with_reducible refine (papermillref04_Check.calls kj1 _ _ l0_1 t42002 _ ?side1 ?side2 A8.out).mono ?_); (case side1 => repeat (first | exact (Kd.C_below HR0_1.out HB.out) | (with_reducible refine Kd.C_alloc ?_ _) | (with_reducible refine Kd.C_drewN ?_ _) | (with_reducible refine Kd.C_drew ?_))); (case side2 => exact HC0_1.out); rintro e w' ⟨rfl, ⟨nd, rfl⟩⟩; (try first | exact ⟨rfl, _, World.drewN_drewN _ _ _⟩ | exact ⟨rfl, _, Eq.trans (World.drewN_drewN _ _ _) (congrArg (World.drewN _) (Nat.add_assoc _ _ _))⟩)) | (go_at_call 57; (with_reducible refine (papermillref04_Norm.calls kj1 _ _ l0_1 t42003 t42004 _ ?side1 ?side2 A10.out).mono ?_); (case side1 => repeat (first | exact (Kd.C_below HR0_1.out (by repeat (first | exact HB.out | apply below_alloc | apply pw_below_drewN | apply below_drew1 | refine below_set ?_ GE42001.out))) | (with_reducible refine Kd.C_alloc ?_ _) | (with_reducible refine Kd.C_drewN ?_ _) | (with_reducible refine Kd.C_drew ?_))); (case side2 => exact HC0_1.out); rintro e w19 ⟨v42005, rfl, ho0, hb⟩; have n0_ := Aside0.mk (Kd.R_lower ho0 (below_size (by repeat (first | exact HB.out | apply below_alloc | apply pw_below_drewN | apply below_drew1 | refine below_set ?_ GE42001.out)))); have n1_ := Aside0.mk (blk_below (g := gb42001) (o := .cells #[.int .i64 a0_0, .slice A0_1 l0_1.length c0_1, .int .i64 a0_2] 25 (0, 0)) (by exact BK42001.out) hb); have n2_ := Aside0.mk (below_step (by repeat (first | exact HB.out | apply below_alloc | apply pw_below_drewN | apply below_drew1 | refine below_set ?_ GE42001.out)) hb); clear BK42001; clear HB; have HO42006 := n0_; have BK42001 := n1_; have HB := n2_; clear n0_ n1_ n2_; (try clear hb); (try clear hb2); (try clear hk); (try clear hi); (try clear ho0); have hcz20_0 : w19.cell? ⟨gb42001, 0, none⟩ = some (.int .i64 a0_0) := (blk_cell BK42001.out 0).trans rfl; have hcz20_1 : w19.cell? ⟨gb42001, 1, none⟩ = some (.slice A0_1 l0_1.length c0_1) := (blk_cell BK42001.out 1).trans rfl; have hcz20_2 : w19.cell? ⟨gb42001, 2, none⟩ = some (.int .i64 a0_2) := (blk_cell BK42001.out 2).trans rfl; have hfz20_0 := blk_frozen BK42001.out 0; have hfz20_1 := blk_frozen BK42001.out 1; have hfz20_2 := blk_frozen BK42001.out 2; obtain ⟨Ao21, co21, eo21⟩ := Kd.R_slice HO42006.out; subst eo21) | (go_at_call 38; (with_reducible refine (papermillref52_Spans.calls kj1 _ _ t42003 _ _ l0_1 true _ ?side1 ?side2 ?side3 ?side4 A11.out).mono ?_); (case side1 => repeat (first | exact (Kd.R_reads' HO42006.out).2.2 | (with_reducible refine Kd.C_alloc ?_ _) | (with_reducible refine Kd.C_drewN ?_ _) | (with_reducible refine Kd.C_drew ?_))); (case side2 => exact (Kd.R_reads' HO42006.out).2.1); (case side3 => repeat (first | exact (Kd.C_below HR0_1.out HB.out) | (with_reducible refine Kd.C_alloc ?_ _) | (with_reducible refine Kd.C_drewN ?_ _) | (with_reducible refine Kd.C_drew ?_))); (case side4 => exact HC0_1.out); rintro e w' ⟨rfl, ⟨nd, rfl⟩⟩; (try first | exact ⟨rfl, _, World.drewN_drewN _ _ _⟩ | exact ⟨rfl, _, Eq.trans (World.drewN_drewN _ _ _) (congrArg (World.drewN _) (Nat.add_assoc _ _ _))⟩); have p42008 : 0 ≤ ((ji14) : Int) := of_decide_eq_true (by assumption); have q42008 : (ji14) < (t42003.length : Int) := of_decide_eq_true (by assumption); obtain ⟨ad42008, e42008, hx42008_0, hx42008_1⟩ := at_T50 (Kd.R_reads' HO42006.out).2.2 (ji14) p42008 q42008; cases e42008; replace p42008 := eq_true p42008; replace q42008 := eq_true q42008))
          repeat (go_quiet (first | (go_at_call 36; (with_reducible refine (papermillref04_Check.calls kj1 _ _ l0_1 t42002 _ ?side1 ?side2 A8.out).mono ?_); (case side1 => repeat (first | exact (Kd.C_below HR0_1.out HB.out) | (with_reducible refine Kd.C_alloc ?_ _) | (with_reducible refine Kd.C_drewN ?_ _) | (with_reducible refine Kd.C_drew ?_))); (case side2 => exact HC0_1.out); rintro e w' ⟨rfl, ⟨nd, rfl⟩⟩; (try first | exact ⟨rfl, _, World.drewN_drewN _ _ _⟩ | exact ⟨rfl, _, Eq.trans (World.drewN_drewN _ _ _) (congrArg (World.drewN _) (Nat.add_assoc _ _ _))⟩)) | (go_at_call 57; (with_reducible refine (papermillref04_Norm.calls kj1 _ _ l0_1 t42003 t42004 _ ?side1 ?side2 A10.out).mono ?_); (case side1 => repeat (first | exact (Kd.C_below HR0_1.out (by repeat (first | exact HB.out | apply below_alloc | apply pw_below_drewN | apply below_drew1 | refine below_set ?_ GE42001.out))) | (with_reducible refine Kd.C_alloc ?_ _) | (with_reducible refine Kd.C_drewN ?_ _) | (with_reducible refine Kd.C_drew ?_))); (case side2 => exact HC0_1.out); rintro e w19 ⟨v42005, rfl, ho0, hb⟩; have n0_ := Aside0.mk (Kd.R_lower ho0 (below_size (by repeat (first | exact HB.out | apply below_alloc | apply pw_below_drewN | apply below_drew1 | refine below_set ?_ GE42001.out)))); have n1_ := Aside0.mk (blk_below (g := gb42001) (o := .cells #[.int .i64 a0_0, .slice A0_1 l0_1.length c0_1, .int .i64 a0_2] 25 (0, 0)) (by exact BK42001.out) hb); have n2_ := Aside0.mk (below_step (by repeat (first | exact HB.out | apply below_alloc | apply pw_below_drewN | apply below_drew1 | refine below_set ?_ GE42001.out)) hb); clear BK42001; clear HB; have HO42006 := n0_; have BK42001 := n1_; have HB := n2_; clear n0_ n1_ n2_; (try clear hb); (try clear hb2); (try clear hk); (try clear hi); (try clear ho0); have hcz20_0 : w19.cell? ⟨gb42001, 0, none⟩ = some (.int .i64 a0_0) := (blk_cell BK42001.out 0).trans rfl; have hcz20_1 : w19.cell? ⟨gb42001, 1, none⟩ = some (.slice A0_1 l0_1.length c0_1) := (blk_cell BK42001.out 1).trans rfl; have hcz20_2 : w19.cell? ⟨gb42001, 2, none⟩ = some (.int .i64 a0_2) := (blk_cell BK42001.out 2).trans rfl; have hfz20_0 := blk_frozen BK42001.out 0; have hfz20_1 := blk_frozen BK42001.out 1; have hfz20_2 := blk_frozen BK42001.out 2; obtain ⟨Ao21, co21, eo21⟩ := Kd.R_slice HO42006.out; subst eo21) | (go_at_call 38; (with_reducible refine (papermillref52_Spans.calls kj1 _ _ t42003 _ _ l0_1 true _ ?side1 ?side2 ?side3 ?side4 A11.out).mono ?_); (case side1 => repeat (first | exact (Kd.R_reads' HO42006.out).2.2 | (with_reducible refine Kd.C_alloc ?_ _) | (with_reducible refine Kd.C_drewN ?_ _) | (with_reducible refine Kd.C_drew ?_))); (case side2 => exact (Kd.R_reads' HO42006.out).2.1); (case side3 => repeat (first | exact (Kd.C_below HR0_1.out HB.out) | (with_reducible refine Kd.C_alloc ?_ _) | (with_reducible refine Kd.C_drewN ?_ _) | (with_reducible refine Kd.C_drew ?_))); (case side4 => exact HC0_1.out); rintro e w' ⟨rfl, ⟨nd, rfl⟩⟩; (try first | exact ⟨rfl, _, World.drewN_drewN _ _ _⟩ | exact ⟨rfl, _, Eq.trans (World.drewN_drewN _ _ _) (congrArg (World.drewN _) (Nat.add_assoc _ _ _))⟩); have p42008 : 0 ≤ ((ji14) : Int) := of_decide_eq_true (by assumption); have q42008 : (ji14) < (t42003.length : Int) := of_decide_eq_true (by assumption); obtain ⟨ad42008, e42008, hx42008_0, hx42008_1⟩ := at_T50 (Kd.R_reads' HO42006.out).2.2 (ji14) p42008 q42008; cases e42008; replace p42008 := eq_true p42008; replace q42008 := eq_true q42008)); try go_wp2_with (first | (go_at_call 36; (with_reducible refine (papermillref04_Check.calls kj1 _ _ l0_1 t42002 _ ?side1 ?side2 A8.out).mono ?_); (case side1 => repeat (first | exact (Kd.C_below HR0_1.out HB.out) | (with_reducible refine Kd.C_alloc ?_ _) | (with_reducible refine Kd.C_drewN ?_ _) | (with_reducible refine Kd.C_drew ?_))); (case side2 => exact HC0_1.out); rintro e w' ⟨rfl, ⟨nd, rfl⟩⟩; (try first | exact ⟨rfl, _, World.drewN_drewN _ _ _⟩ | exact ⟨rfl, _, Eq.trans (World.drewN_drewN _ _ _) (congrArg (World.drewN _) (Nat.add_assoc _ _ _))⟩)) | (go_at_call 57; (with_reducible refine (papermillref04_Norm.calls kj1 _ _ l0_1 t42003 t42004 _ ?side1 ?side2 A10.out).mono ?_); (case side1 => repeat (first | exact (Kd.C_below HR0_1.out (by repeat (first | exact HB.out | apply below_alloc | apply pw_below_drewN | apply below_drew1 | refine below_set ?_ GE42001.out))) | (with_reducible refine Kd.C_alloc ?_ _) | (with_reducible refine Kd.C_drewN ?_ _) | (with_reducible refine Kd.C_drew ?_))); (case side2 => exact HC0_1.out); rintro e w19 ⟨v42005, rfl, ho0, hb⟩; have n0_ := Aside0.mk (Kd.R_lower ho0 (below_size (by repeat (first | exact HB.out | apply below_alloc | apply pw_below_drewN | apply below_drew1 | refine below_set ?_ GE42001.out)))); have n1_ := Aside0.mk (blk_below (g := gb42001) (o := .cells #[.int .i64 a0_0, .slice A0_1 l0_1.length c0_1, .int .i64 a0_2] 25 (0, 0)) (by exact BK42001.out) hb); have n2_ := Aside0.mk (below_step (by repeat (first | exact HB.out | apply below_alloc | apply pw_below_drewN | apply below_drew1 | refine below_set ?_ GE42001.out)) hb); clear BK42001; clear HB; have HO42006 := n0_; have BK42001 := n1_; have HB := n2_; clear n0_ n1_ n2_; (try clear hb); (try clear hb2); (try clear hk); (try clear hi); (try clear ho0); have hcz20_0 : w19.cell? ⟨gb42001, 0, none⟩ = some (.int .i64 a0_0) := (blk_cell BK42001.out 0).trans rfl; have hcz20_1 : w19.cell? ⟨gb42001, 1, none⟩ = some (.slice A0_1 l0_1.length c0_1) := (blk_cell BK42001.out 1).trans rfl; have hcz20_2 : w19.cell? ⟨gb42001, 2, none⟩ = some (.int .i64 a0_2) := (blk_cell BK42001.out 2).trans rfl; have hfz20_0 := blk_frozen BK42001.out 0; have hfz20_1 := blk_frozen BK42001.out 1; have hfz20_2 := blk_frozen BK42001.out 2; obtain ⟨Ao21, co21, eo21⟩ := Kd.R_slice HO42006.out; subst eo21) | (go_at_call 38; (with_reducible refine (papermillref52_Spans.calls kj1 _ _ t42003 _ _ l0_1 true _ ?side1 ?side2 ?side3 ?side4 A11.out).mono ?_); (case side1 => repeat (first | exact (Kd.R_reads' HO42006.out).2.2 | (with_reducible refine Kd.C_alloc ?_ _) | (with_reducible refine Kd.C_drewN ?_ _) | (with_reducible refine Kd.C_drew ?_))); (case side2 => exact (Kd.R_reads' HO42006.out).2.1); (case side3 => repeat (first | exact (Kd.C_below HR0_1.out HB.out) | (with_reducible refine Kd.C_alloc ?_ _) | (with_reducible refine Kd.C_drewN ?_ _) | (with_reducible refine Kd.C_drew ?_))); (case side4 => exact HC0_1.out); rintro e w' ⟨rfl, ⟨nd, rfl⟩⟩; (try first | exact ⟨rfl, _, World.drewN_drewN _ _ _⟩ | exact ⟨rfl, _, Eq.trans (World.drewN_drewN _ _ _) (congrArg (World.drewN _) (Nat.add_assoc _ _ _))⟩); have p42008 : 0 ≤ ((ji14) : Int) := of_decide_eq_true (by assumption); have q42008 : (ji14) < (t42003.length : Int) := of_decide_eq_true (by assumption); obtain ⟨ad42008, e42008, hx42008_0, hx42008_1⟩ := at_T50 (Kd.R_reads' HO42006.out).2.2 (ji14) p42008 q42008; cases e42008; replace p42008 := eq_true p42008; replace q42008 := eq_true q42008)))
          go_ret
          exact ⟨by first | rfl | (simp [errW_none, errW_some] <;> rfl) | (simp only [← hji14]; first | rfl | (simp [errW_none, errW_some] <;> rfl)) | (simp [*, errW_none, errW_some] <;> rfl), by repeat (first | exact HB.out | apply below_alloc | apply pw_below_drewN | apply below_drew1 | refine below_set ?_ GE42001.out)⟩
         ·rw [if_neg c17] at H
          have c17b0 : decide (a0_0 < ((rd_T50 t42003 (ji14)).f1)) = false := decide_eq_false c17
          clear c17
          obtain rfl := Option.some.inj H
          have hcz22_0 : wc.cell? ⟨gb42001, 0, none⟩ = some (.int .i64 a0_0) := (blk_cell BK42001.out 0).trans rfl
          have hcz22_1 : wc.cell? ⟨gb42001, 1, none⟩ = some (.slice A0_1 l0_1.length c0_1) := (blk_cell BK42001.out 1).trans rfl
          have hcz22_2 : wc.cell? ⟨gb42001, 2, none⟩ = some (.int .i64 a0_2) := (blk_cell BK42001.out 2).trans rfl
          have hfz22_0 := blk_frozen BK42001.out 0
          have hfz22_1 := blk_frozen BK42001.out 1
          have hfz22_2 := blk_frozen BK42001.out 2
          go_wp2_with (first | (go_at_call 36; (with_reducible refine (papermillref04_Check.calls kj1 _ _ l0_1 t42002 _ ?side1 ?side2 A8.out).mono ?_); (case side1 => repeat (first | exact (Kd.C_below HR0_1.out HB.out) | (with_reducible refine Kd.C_alloc ?_ _) | (with_reducible refine Kd.C_drewN ?_ _) | (with_reducible refine Kd.C_drew ?_))); (case side2 => exact HC0_1.out); rintro e w' ⟨rfl, ⟨nd, rfl⟩⟩; (try first | exact ⟨rfl, _, World.drewN_drewN _ _ _⟩ | exact ⟨rfl, _, Eq.trans (World.drewN_drewN _ _ _) (congrArg (World.drewN _) (Nat.add_assoc _ _ _))⟩)) | (go_at_call 57; (with_reducible refine (papermillref04_Norm.calls kj1 _ _ l0_1 t42003 t42004 _ ?side1 ?side2 A10.out).mono ?_); (case side1 => repeat (first | exact (Kd.C_below HR0_1.out (by repeat (first | exact HB.out | apply below_alloc | apply pw_below_drewN | apply below_drew1 | refine below_set ?_ GE42001.out))) | (with_reducible refine Kd.C_alloc ?_ _) | (with_reducible refine Kd.C_drewN ?_ _) | (with_reducible refine Kd.C_drew ?_))); (case side2 => exact HC0_1.out); rintro e w23 ⟨v42005, rfl, ho0, hb⟩; have n0_ := Aside0.mk (Kd.R_lower ho0 (below_size (by repeat (first | exact HB.out | apply below_alloc | apply pw_below_drewN | apply below_drew1 | refine below_set ?_ GE42001.out)))); have n1_ := Aside0.mk (blk_below (g := gb42001) (o := .cells #[.int .i64 a0_0, .slice A0_1 l0_1.length c0_1, .int .i64 a0_2] 25 (0, 0)) (by exact BK42001.out) hb); have n2_ := Aside0.mk (below_step (by repeat (first | exact HB.out | apply below_alloc | apply pw_below_drewN | apply below_drew1 | refine below_set ?_ GE42001.out)) hb); clear BK42001; clear HB; have HO42006 := n0_; have BK42001 := n1_; have HB := n2_; clear n0_ n1_ n2_; (try clear hb); (try clear hb2); (try clear hk); (try clear hi); (try clear ho0); have hcz24_0 : w23.cell? ⟨gb42001, 0, none⟩ = some (.int .i64 a0_0) := (blk_cell BK42001.out 0).trans rfl; have hcz24_1 : w23.cell? ⟨gb42001, 1, none⟩ = some (.slice A0_1 l0_1.length c0_1) := (blk_cell BK42001.out 1).trans rfl; have hcz24_2 : w23.cell? ⟨gb42001, 2, none⟩ = some (.int .i64 a0_2) := (blk_cell BK42001.out 2).trans rfl; have hfz24_0 := blk_frozen BK42001.out 0; have hfz24_1 := blk_frozen BK42001.out 1; have hfz24_2 := blk_frozen BK42001.out 2; obtain ⟨Ao25, co25, eo25⟩ := Kd.R_slice HO42006.out; subst eo25) | (go_at_call 38; (with_reducible refine (papermillref52_Spans.calls kj1 _ _ t42003 _ _ l0_1 true _ ?side1 ?side2 ?side3 ?side4 A11.out).mono ?_); (case side1 => repeat (first | exact (Kd.R_reads' HO42006.out).2.2 | (with_reducible refine Kd.C_alloc ?_ _) | (with_reducible refine Kd.C_drewN ?_ _) | (with_reducible refine Kd.C_drew ?_))); (case side2 => exact (Kd.R_reads' HO42006.out).2.1); (case side3 => repeat (first | exact (Kd.C_below HR0_1.out HB.out) | (with_reducible refine Kd.C_alloc ?_ _) | (with_reducible refine Kd.C_drewN ?_ _) | (with_reducible refine Kd.C_drew ?_))); (case side4 => exact HC0_1.out); rintro e w' ⟨rfl, ⟨nd, rfl⟩⟩; (try first | exact ⟨rfl, _, World.drewN_drewN _ _ _⟩ | exact ⟨rfl, _, Eq.trans (World.drewN_drewN _ _ _) (congrArg (World.drewN _) (Nat.add_assoc _ _ _))⟩); have p42008 : 0 ≤ ((ji14) : Int) := of_decide_eq_true (by assumption); have q42008 : (ji14) < (t42003.length : Int) := of_decide_eq_true (by assumption); obtain ⟨ad42008, e42008, hx42008_0, hx42008_1⟩ := at_T50 (Kd.R_reads' HO42006.out).2.2 (ji14) p42008 q42008; cases e42008; replace p42008 := eq_true p42008; replace q42008 := eq_true q42008))
          repeat (go_quiet (first | (go_at_call 36; (with_reducible refine (papermillref04_Check.calls kj1 _ _ l0_1 t42002 _ ?side1 ?side2 A8.out).mono ?_); (case side1 => repeat (first | exact (Kd.C_below HR0_1.out HB.out) | (with_reducible refine Kd.C_alloc ?_ _) | (with_reducible refine Kd.C_drewN ?_ _) | (with_reducible refine Kd.C_drew ?_))); (case side2 => exact HC0_1.out); rintro e w' ⟨rfl, ⟨nd, rfl⟩⟩; (try first | exact ⟨rfl, _, World.drewN_drewN _ _ _⟩ | exact ⟨rfl, _, Eq.trans (World.drewN_drewN _ _ _) (congrArg (World.drewN _) (Nat.add_assoc _ _ _))⟩)) | (go_at_call 57; (with_reducible refine (papermillref04_Norm.calls kj1 _ _ l0_1 t42003 t42004 _ ?side1 ?side2 A10.out).mono ?_); (case side1 => repeat (first | exact (Kd.C_below HR0_1.out (by repeat (first | exact HB.out | apply below_alloc | apply pw_below_drewN | apply below_drew1 | refine below_set ?_ GE42001.out))) | (with_reducible refine Kd.C_alloc ?_ _) | (with_reducible refine Kd.C_drewN ?_ _) | (with_reducible refine Kd.C_drew ?_))); (case side2 => exact HC0_1.out); rintro e w23 ⟨v42005, rfl, ho0, hb⟩; have n0_ := Aside0.mk (Kd.R_lower ho0 (below_size (by repeat (first | exact HB.out | apply below_alloc | apply pw_below_drewN | apply below_drew1 | refine below_set ?_ GE42001.out)))); have n1_ := Aside0.mk (blk_below (g := gb42001) (o := .cells #[.int .i64 a0_0, .slice A0_1 l0_1.length c0_1, .int .i64 a0_2] 25 (0, 0)) (by exact BK42001.out) hb); have n2_ := Aside0.mk (below_step (by repeat (first | exact HB.out | apply below_alloc | apply pw_below_drewN | apply below_drew1 | refine below_set ?_ GE42001.out)) hb); clear BK42001; clear HB; have HO42006 := n0_; have BK42001 := n1_; have HB := n2_; clear n0_ n1_ n2_; (try clear hb); (try clear hb2); (try clear hk); (try clear hi); (try clear ho0); have hcz24_0 : w23.cell? ⟨gb42001, 0, none⟩ = some (.int .i64 a0_0) := (blk_cell BK42001.out 0).trans rfl; have hcz24_1 : w23.cell? ⟨gb42001, 1, none⟩ = some (.slice A0_1 l0_1.length c0_1) := (blk_cell BK42001.out 1).trans rfl; have hcz24_2 : w23.cell? ⟨gb42001, 2, none⟩ = some (.int .i64 a0_2) := (blk_cell BK42001.out 2).trans rfl; have hfz24_0 := blk_frozen BK42001.out 0; have hfz24_1 := blk_frozen BK42001.out 1; have hfz24_2 := blk_frozen BK42001.out 2; obtain ⟨Ao25, co25, eo25⟩ := Kd.R_slice HO42006.out; subst eo25) | (go_at_call 38; (with_reducible refine (papermillref52_Spans.calls kj1 _ _ t42003 _ _ l0_1 true _ ?side1 ?side2 ?side3 ?side4 A11.out).mono ?_); (case side1 => repeat (first | exact (Kd.R_reads' HO42006.out).2.2 | (with_reducible refine Kd.C_alloc ?_ _) | (with_reducible refine Kd.C_drewN ?_ _) | (with_reducible refine Kd.C_drew ?_))); (case side2 => exact (Kd.R_reads' HO42006.out).2.1); (case side3 => repeat (first | exact (Kd.C_below HR0_1.out HB.out) | (with_reducible refine Kd.C_alloc ?_ _) | (with_reducible refine Kd.C_drewN ?_ _) | (with_reducible refine Kd.C_drew ?_))); (case side4 => exact HC0_1.out); rintro e w' ⟨rfl, ⟨nd, rfl⟩⟩; (try first | exact ⟨rfl, _, World.drewN_drewN _ _ _⟩ | exact ⟨rfl, _, Eq.trans (World.drewN_drewN _ _ _) (congrArg (World.drewN _) (Nat.add_assoc _ _ _))⟩); have p42008 : 0 ≤ ((ji14) : Int) := of_decide_eq_true (by assumption); have q42008 : (ji14) < (t42003.length : Int) := of_decide_eq_true (by assumption); obtain ⟨ad42008, e42008, hx42008_0, hx42008_1⟩ := at_T50 (Kd.R_reads' HO42006.out).2.2 (ji14) p42008 q42008; cases e42008; replace p42008 := eq_true p42008; replace q42008 := eq_true q42008)); try go_wp2_with (first | (go_at_call 36; (with_reducible refine (papermillref04_Check.calls kj1 _ _ l0_1 t42002 _ ?side1 ?side2 A8.out).mono ?_); (case side1 => repeat (first | exact (Kd.C_below HR0_1.out HB.out) | (with_reducible refine Kd.C_alloc ?_ _) | (with_reducible refine Kd.C_drewN ?_ _) | (with_reducible refine Kd.C_drew ?_))); (case side2 => exact HC0_1.out); rintro e w' ⟨rfl, ⟨nd, rfl⟩⟩; (try first | exact ⟨rfl, _, World.drewN_drewN _ _ _⟩ | exact ⟨rfl, _, Eq.trans (World.drewN_drewN _ _ _) (congrArg (World.drewN _) (Nat.add_assoc _ _ _))⟩)) | (go_at_call 57; (with_reducible refine (papermillref04_Norm.calls kj1 _ _ l0_1 t42003 t42004 _ ?side1 ?side2 A10.out).mono ?_); (case side1 => repeat (first | exact (Kd.C_below HR0_1.out (by repeat (first | exact HB.out | apply below_alloc | apply pw_below_drewN | apply below_drew1 | refine below_set ?_ GE42001.out))) | (with_reducible refine Kd.C_alloc ?_ _) | (with_reducible refine Kd.C_drewN ?_ _) | (with_reducible refine Kd.C_drew ?_))); (case side2 => exact HC0_1.out); rintro e w23 ⟨v42005, rfl, ho0, hb⟩; have n0_ := Aside0.mk (Kd.R_lower ho0 (below_size (by repeat (first | exact HB.out | apply below_alloc | apply pw_below_drewN | apply below_drew1 | refine below_set ?_ GE42001.out)))); have n1_ := Aside0.mk (blk_below (g := gb42001) (o := .cells #[.int .i64 a0_0, .slice A0_1 l0_1.length c0_1, .int .i64 a0_2] 25 (0, 0)) (by exact BK42001.out) hb); have n2_ := Aside0.mk (below_step (by repeat (first | exact HB.out | apply below_alloc | apply pw_below_drewN | apply below_drew1 | refine below_set ?_ GE42001.out)) hb); clear BK42001; clear HB; have HO42006 := n0_; have BK42001 := n1_; have HB := n2_; clear n0_ n1_ n2_; (try clear hb); (try clear hb2); (try clear hk); (try clear hi); (try clear ho0); have hcz24_0 : w23.cell? ⟨gb42001, 0, none⟩ = some (.int .i64 a0_0) := (blk_cell BK42001.out 0).trans rfl; have hcz24_1 : w23.cell? ⟨gb42001, 1, none⟩ = some (.slice A0_1 l0_1.length c0_1) := (blk_cell BK42001.out 1).trans rfl; have hcz24_2 : w23.cell? ⟨gb42001, 2, none⟩ = some (.int .i64 a0_2) := (blk_cell BK42001.out 2).trans rfl; have hfz24_0 := blk_frozen BK42001.out 0; have hfz24_1 := blk_frozen BK42001.out 1; have hfz24_2 := blk_frozen BK42001.out 2; obtain ⟨Ao25, co25, eo25⟩ := Kd.R_slice HO42006.out; subst eo25) | (go_at_call 38; (with_reducible refine (papermillref52_Spans.calls kj1 _ _ t42003 _ _ l0_1 true _ ?side1 ?side2 ?side3 ?side4 A11.out).mono ?_); (case side1 => repeat (first | exact (Kd.R_reads' HO42006.out).2.2 | (with_reducible refine Kd.C_alloc ?_ _) | (with_reducible refine Kd.C_drewN ?_ _) | (with_reducible refine Kd.C_drew ?_))); (case side2 => exact (Kd.R_reads' HO42006.out).2.1); (case side3 => repeat (first | exact (Kd.C_below HR0_1.out HB.out) | (with_reducible refine Kd.C_alloc ?_ _) | (with_reducible refine Kd.C_drewN ?_ _) | (with_reducible refine Kd.C_drew ?_))); (case side4 => exact HC0_1.out); rintro e w' ⟨rfl, ⟨nd, rfl⟩⟩; (try first | exact ⟨rfl, _, World.drewN_drewN _ _ _⟩ | exact ⟨rfl, _, Eq.trans (World.drewN_drewN _ _ _) (congrArg (World.drewN _) (Nat.add_assoc _ _ _))⟩); have p42008 : 0 ≤ ((ji14) : Int) := of_decide_eq_true (by assumption); have q42008 : (ji14) < (t42003.length : Int) := of_decide_eq_true (by assumption); obtain ⟨ad42008, e42008, hx42008_0, hx42008_1⟩ := at_T50 (Kd.R_reads' HO42006.out).2.2 (ji14) p42008 q42008; cases e42008; replace p42008 := eq_true p42008; replace q42008 := eq_true q42008)))
          go_ret
          exact ⟨by first | rfl | (simp [errW_none, errW_some] <;> rfl) | (simp only [← hji14]; first | rfl | (simp [errW_none, errW_some] <;> rfl)) | (simp [*, errW_none, errW_some] <;> rfl), by repeat (first | exact HB.out | apply below_alloc | apply pw_below_drewN | apply below_drew1 | refine below_set ?_ GE42001.out)⟩
        ·rw [if_neg c16] at H
         exact absurd H (by simp)
       ·rw [if_neg c15] at H
        exact absurd H (by simp)
      ·rw [if_neg c13] at H
       have c13b0 : decide (0 < (t42003.length : Int)) = false := decide_eq_false c13
       have c13b1 : decide (0 < t42003.length) = false := decide_eq_false (by omega)
       clear c13
       obtain rfl := Option.some.inj H
       have hcz26_0 : wc.cell? ⟨gb42001, 0, none⟩ = some (.int .i64 a0_0) := (blk_cell BK42001.out 0).trans rfl
       have hcz26_1 : wc.cell? ⟨gb42001, 1, none⟩ = some (.slice A0_1 l0_1.length c0_1) := (blk_cell BK42001.out 1).trans rfl
       have hcz26_2 : wc.cell? ⟨gb42001, 2, none⟩ = some (.int .i64 a0_2) := (blk_cell BK42001.out 2).trans rfl
       have hfz26_0 := blk_frozen BK42001.out 0
       have hfz26_1 := blk_frozen BK42001.out 1
       have hfz26_2 := blk_frozen BK42001.out 2
       go_wp2_with (first | (go_at_call 36; (with_reducible refine (papermillref04_Check.calls kj1 _ _ l0_1 t42002 _ ?side1 ?side2 A8.out).mono ?_); (case side1 => repeat (first | exact (Kd.C_below HR0_1.out HB.out) | (with_reducible refine Kd.C_alloc ?_ _) | (with_reducible refine Kd.C_drewN ?_ _) | (with_reducible refine Kd.C_drew ?_))); (case side2 => exact HC0_1.out); rintro e w' ⟨rfl, ⟨nd, rfl⟩⟩; (try first | exact ⟨rfl, _, World.drewN_drewN _ _ _⟩ | exact ⟨rfl, _, Eq.trans (World.drewN_drewN _ _ _) (congrArg (World.drewN _) (Nat.add_assoc _ _ _))⟩)) | (go_at_call 57; (with_reducible refine (papermillref04_Norm.calls kj1 _ _ l0_1 t42003 t42004 _ ?side1 ?side2 A10.out).mono ?_); (case side1 => repeat (first | exact (Kd.C_below HR0_1.out (by repeat (first | exact HB.out | apply below_alloc | apply pw_below_drewN | apply below_drew1 | refine below_set ?_ GE42001.out))) | (with_reducible refine Kd.C_alloc ?_ _) | (with_reducible refine Kd.C_drewN ?_ _) | (with_reducible refine Kd.C_drew ?_))); (case side2 => exact HC0_1.out); rintro e w27 ⟨v42005, rfl, ho0, hb⟩; have n0_ := Aside0.mk (Kd.R_lower ho0 (below_size (by repeat (first | exact HB.out | apply below_alloc | apply pw_below_drewN | apply below_drew1 | refine below_set ?_ GE42001.out)))); have n1_ := Aside0.mk (blk_below (g := gb42001) (o := .cells #[.int .i64 a0_0, .slice A0_1 l0_1.length c0_1, .int .i64 a0_2] 25 (0, 0)) (by exact BK42001.out) hb); have n2_ := Aside0.mk (below_step (by repeat (first | exact HB.out | apply below_alloc | apply pw_below_drewN | apply below_drew1 | refine below_set ?_ GE42001.out)) hb); clear BK42001; clear HB; have HO42006 := n0_; have BK42001 := n1_; have HB := n2_; clear n0_ n1_ n2_; (try clear hb); (try clear hb2); (try clear hk); (try clear hi); (try clear ho0); have hcz28_0 : w27.cell? ⟨gb42001, 0, none⟩ = some (.int .i64 a0_0) := (blk_cell BK42001.out 0).trans rfl; have hcz28_1 : w27.cell? ⟨gb42001, 1, none⟩ = some (.slice A0_1 l0_1.length c0_1) := (blk_cell BK42001.out 1).trans rfl; have hcz28_2 : w27.cell? ⟨gb42001, 2, none⟩ = some (.int .i64 a0_2) := (blk_cell BK42001.out 2).trans rfl; have hfz28_0 := blk_frozen BK42001.out 0; have hfz28_1 := blk_frozen BK42001.out 1; have hfz28_2 := blk_frozen BK42001.out 2; obtain ⟨Ao29, co29, eo29⟩ := Kd.R_slice HO42006.out; subst eo29) | (go_at_call 38; (with_reducible refine (papermillref52_Spans.calls kj1 _ _ t42003 _ _ l0_1 true _ ?side1 ?side2 ?side3 ?side4 A11.out).mono ?_); (case side1 => repeat (first | exact (Kd.R_reads' HO42006.out).2.2 | (with_reducible refine Kd.C_alloc ?_ _) | (with_reducible refine Kd.C_drewN ?_ _) | (with_reducible refine Kd.C_drew ?_))); (case side2 => exact (Kd.R_reads' HO42006.out).2.1); (case side3 => repeat (first | exact (Kd.C_below HR0_1.out HB.out) | (with_reducible refine Kd.C_alloc ?_ _) | (with_reducible refine Kd.C_drewN ?_ _) | (with_reducible refine Kd.C_drew ?_))); (case side4 => exact HC0_1.out); rintro e w' ⟨rfl, ⟨nd, rfl⟩⟩; (try first | exact ⟨rfl, _, World.drewN_drewN _ _ _⟩ | exact ⟨rfl, _, Eq.trans (World.drewN_drewN _ _ _) (congrArg (World.drewN _) (Nat.add_assoc _ _ _))⟩)))
       repeat (go_quiet (first | (go_at_call 36; (with_reducible refine (papermillref04_Check.calls kj1 _ _ l0_1 t42002 _ ?side1 ?side2 A8.out).mono ?_); (case side1 => repeat (first | exact (Kd.C_below HR0_1.out HB.out) | (with_reducible refine Kd.C_alloc ?_ _) | (with_reducible refine Kd.C_drewN ?_ _) | (with_reducible refine Kd.C_drew ?_))); (case side2 => exact HC0_1.out); rintro e w' ⟨rfl, ⟨nd, rfl⟩⟩; (try first | exact ⟨rfl, _, World.drewN_drewN _ _ _⟩ | exact ⟨rfl, _, Eq.trans (World.drewN_drewN _ _ _) (congrArg (World.drewN _) (Nat.add_assoc _ _ _))⟩)) | (go_at_call 57; (with_reducible refine (papermillref04_Norm.calls kj1 _ _ l0_1 t42003 t42004 _ ?side1 ?side2 A10.out).mono ?_); (case side1 => repeat (first | exact (Kd.C_below HR0_1.out (by repeat (first | exact HB.out | apply below_alloc | apply pw_below_drewN | apply below_drew1 | refine below_set ?_ GE42001.out))) | (with_reducible refine Kd.C_alloc ?_ _) | (with_reducible refine Kd.C_drewN ?_ _) | (with_reducible refine Kd.C_drew ?_))); (case side2 => exact HC0_1.out); rintro e w27 ⟨v42005, rfl, ho0, hb⟩; have n0_ := Aside0.mk (Kd.R_lower ho0 (below_size (by repeat (first | exact HB.out | apply below_alloc | apply pw_below_drewN | apply below_drew1 | refine below_set ?_ GE42001.out)))); have n1_ := Aside0.mk (blk_below (g := gb42001) (o := .cells #[.int .i64 a0_0, .slice A0_1 l0_1.length c0_1, .int .i64 a0_2] 25 (0, 0)) (by exact BK42001.out) hb); have n2_ := Aside0.mk (below_step (by repeat (first | exact HB.out | apply below_alloc | apply pw_below_drewN | apply below_drew1 | refine below_set ?_ GE42001.out)) hb); clear BK42001; clear HB; have HO42006 := n0_; have BK42001 := n1_; have HB := n2_; clear n0_ n1_ n2_; (try clear hb); (try clear hb2); (try clear hk); (try clear hi); (try clear ho0); have hcz28_0 : w27.cell? ⟨gb42001, 0, none⟩ = some (.int .i64 a0_0) := (blk_cell BK42001.out 0).trans rfl; have hcz28_1 : w27.cell? ⟨gb42001, 1, none⟩ = some (.slice A0_1 l0_1.length c0_1) := (blk_cell BK42001.out 1).trans rfl; have hcz28_2 : w27.cell? ⟨gb42001, 2, none⟩ = some (.int .i64 a0_2) := (blk_cell BK42001.out 2).trans rfl; have hfz28_0 := blk_frozen BK42001.out 0; have hfz28_1 := blk_frozen BK42001.out 1; have hfz28_2 := blk_frozen BK42001.out 2; obtain ⟨Ao29, co29, eo29⟩ := Kd.R_slice HO42006.out; subst eo29) | (go_at_call 38; (with_reducible refine (papermillref52_Spans.calls kj1 _ _ t42003 _ _ l0_1 true _ ?side1 ?side2 ?side3 ?side4 A11.out).mono ?_); (case side1 => repeat (first | exact (Kd.R_reads' HO42006.out).2.2 | (with_reducible refine Kd.C_alloc ?_ _) | (with_reducible refine Kd.C_drewN ?_ _) | (with_reducible refine Kd.C_drew ?_))); (case side2 => exact (Kd.R_reads' HO42006.out).2.1); (case side3 => repeat (first | exact (Kd.C_below HR0_1.out HB.out) | (with_reducible refine Kd.C_alloc ?_ _) | (with_reducible refine Kd.C_drewN ?_ _) | (with_reducible refine Kd.C_drew ?_))); (case side4 => exact HC0_1.out); rintro e w' ⟨rfl, ⟨nd, rfl⟩⟩; (try first | exact ⟨rfl, _, World.drewN_drewN _ _ _⟩ | exact ⟨rfl, _, Eq.trans (World.drewN_drewN _ _ _) (congrArg (World.drewN _) (Nat.add_assoc _ _ _))⟩))); try go_wp2_with (first | (go_at_call 36; (with_reducible refine (papermillref04_Check.calls kj1 _ _ l0_1 t42002 _ ?side1 ?side2 A8.out).mono ?_); (case side1 => repeat (first | exact (Kd.C_below HR0_1.out HB.out) | (with_reducible refine Kd.C_alloc ?_ _) | (with_reducible refine Kd.C_drewN ?_ _) | (with_reducible refine Kd.C_drew ?_))); (case side2 => exact HC0_1.out); rintro e w' ⟨rfl, ⟨nd, rfl⟩⟩; (try first | exact ⟨rfl, _, World.drewN_drewN _ _ _⟩ | exact ⟨rfl, _, Eq.trans (World.drewN_drewN _ _ _) (congrArg (World.drewN _) (Nat.add_assoc _ _ _))⟩)) | (go_at_call 57; (with_reducible refine (papermillref04_Norm.calls kj1 _ _ l0_1 t42003 t42004 _ ?side1 ?side2 A10.out).mono ?_); (case side1 => repeat (first | exact (Kd.C_below HR0_1.out (by repeat (first | exact HB.out | apply below_alloc | apply pw_below_drewN | apply below_drew1 | refine below_set ?_ GE42001.out))) | (with_reducible refine Kd.C_alloc ?_ _) | (with_reducible refine Kd.C_drewN ?_ _) | (with_reducible refine Kd.C_drew ?_))); (case side2 => exact HC0_1.out); rintro e w27 ⟨v42005, rfl, ho0, hb⟩; have n0_ := Aside0.mk (Kd.R_lower ho0 (below_size (by repeat (first | exact HB.out | apply below_alloc | apply pw_below_drewN | apply below_drew1 | refine below_set ?_ GE42001.out)))); have n1_ := Aside0.mk (blk_below (g := gb42001) (o := .cells #[.int .i64 a0_0, .slice A0_1 l0_1.length c0_1, .int .i64 a0_2] 25 (0, 0)) (by exact BK42001.out) hb); have n2_ := Aside0.mk (below_step (by repeat (first | exact HB.out | apply below_alloc | apply pw_below_drewN | apply below_drew1 | refine below_set ?_ GE42001.out)) hb); clear BK42001; clear HB; have HO42006 := n0_; have BK42001 := n1_; have HB := n2_; clear n0_ n1_ n2_; (try clear hb); (try clear hb2); (try clear hk); (try clear hi); (try clear ho0); have hcz28_0 : w27.cell? ⟨gb42001, 0, none⟩ = some (.int .i64 a0_0) := (blk_cell BK42001.out 0).trans rfl; have hcz28_1 : w27.cell? ⟨gb42001, 1, none⟩ = some (.slice A0_1 l0_1.length c0_1) := (blk_cell BK42001.out 1).trans rfl; have hcz28_2 : w27.cell? ⟨gb42001, 2, none⟩ = some (.int .i64 a0_2) := (blk_cell BK42001.out 2).trans rfl; have hfz28_0 := blk_frozen BK42001.out 0; have hfz28_1 := blk_frozen BK42001.out 1; have hfz28_2 := blk_frozen BK42001.out 2; obtain ⟨Ao29, co29, eo29⟩ := Kd.R_slice HO42006.out; subst eo29) | (go_at_call 38; (with_reducible refine (papermillref52_Spans.calls kj1 _ _ t42003 _ _ l0_1 true _ ?side1 ?side2 ?side3 ?side4 A11.out).mono ?_); (case side1 => repeat (first | exact (Kd.R_reads' HO42006.out).2.2 | (with_reducible refine Kd.C_alloc ?_ _) | (with_reducible refine Kd.C_drewN ?_ _) | (with_reducible refine Kd.C_drew ?_))); (case side2 => exact (Kd.R_reads' HO42006.out).2.1); (case side3 => repeat (first | exact (Kd.C_below HR0_1.out HB.out) | (with_reducible refine Kd.C_alloc ?_ _) | (with_reducible refine Kd.C_drewN ?_ _) | (with_reducible refine Kd.C_drew ?_))); (case side4 => exact HC0_1.out); rintro e w' ⟨rfl, ⟨nd, rfl⟩⟩; (try first | exact ⟨rfl, _, World.drewN_drewN _ _ _⟩ | exact ⟨rfl, _, Eq.trans (World.drewN_drewN _ _ _) (congrArg (World.drewN _) (Nat.add_assoc _ _ _))⟩))))
       go_ret
       exact ⟨by first | rfl | (simp [errW_none, errW_some] <;> rfl) | (simp [*, errW_none, errW_some] <;> rfl), by repeat (first | exact HB.out | apply below_alloc | apply pw_below_drewN | apply below_drew1 | refine below_set ?_ GE42001.out)⟩
     ·replace c12 := Bool.eq_false_iff.mpr c12
      subst c12
      have H1 : (some 9) = some r := by rw [if_neg (show ¬ (false = true) by decide)] at H; first | exact H | simpa using H
      clear H
      have H := H1
      clear H1
      obtain rfl := Option.some.inj H
      have hcz30_0 : wc.cell? ⟨gb42001, 0, none⟩ = some (.int .i64 a0_0) := (blk_cell BK42001.out 0).trans rfl
      have hcz30_1 : wc.cell? ⟨gb42001, 1, none⟩ = some (.slice A0_1 l0_1.length c0_1) := (blk_cell BK42001.out 1).trans rfl
      have hcz30_2 : wc.cell? ⟨gb42001, 2, none⟩ = some (.int .i64 a0_2) := (blk_cell BK42001.out 2).trans rfl
      have hfz30_0 := blk_frozen BK42001.out 0
      have hfz30_1 := blk_frozen BK42001.out 1
      have hfz30_2 := blk_frozen BK42001.out 2
      go_wp2_with (first | (go_at_call 36; (with_reducible refine (papermillref04_Check.calls kj1 _ _ l0_1 t42002 _ ?side1 ?side2 A8.out).mono ?_); (case side1 => repeat (first | exact (Kd.C_below HR0_1.out HB.out) | (with_reducible refine Kd.C_alloc ?_ _) | (with_reducible refine Kd.C_drewN ?_ _) | (with_reducible refine Kd.C_drew ?_))); (case side2 => exact HC0_1.out); rintro e w' ⟨rfl, ⟨nd, rfl⟩⟩; (try first | exact ⟨rfl, _, World.drewN_drewN _ _ _⟩ | exact ⟨rfl, _, Eq.trans (World.drewN_drewN _ _ _) (congrArg (World.drewN _) (Nat.add_assoc _ _ _))⟩)) | (go_at_call 57; (with_reducible refine (papermillref04_Norm.calls kj1 _ _ l0_1 t42003 t42004 _ ?side1 ?side2 A10.out).mono ?_); (case side1 => repeat (first | exact (Kd.C_below HR0_1.out (by repeat (first | exact HB.out | apply below_alloc | apply pw_below_drewN | apply below_drew1 | refine below_set ?_ GE42001.out))) | (with_reducible refine Kd.C_alloc ?_ _) | (with_reducible refine Kd.C_drewN ?_ _) | (with_reducible refine Kd.C_drew ?_))); (case side2 => exact HC0_1.out); rintro e w31 ⟨v42005, rfl, ho0, hb⟩; have n0_ := Aside0.mk (Kd.R_lower ho0 (below_size (by repeat (first | exact HB.out | apply below_alloc | apply pw_below_drewN | apply below_drew1 | refine below_set ?_ GE42001.out)))); have n1_ := Aside0.mk (blk_below (g := gb42001) (o := .cells #[.int .i64 a0_0, .slice A0_1 l0_1.length c0_1, .int .i64 a0_2] 25 (0, 0)) (by exact BK42001.out) hb); have n2_ := Aside0.mk (below_step (by repeat (first | exact HB.out | apply below_alloc | apply pw_below_drewN | apply below_drew1 | refine below_set ?_ GE42001.out)) hb); clear BK42001; clear HB; have HO42006 := n0_; have BK42001 := n1_; have HB := n2_; clear n0_ n1_ n2_; (try clear hb); (try clear hb2); (try clear hk); (try clear hi); (try clear ho0); have hcz32_0 : w31.cell? ⟨gb42001, 0, none⟩ = some (.int .i64 a0_0) := (blk_cell BK42001.out 0).trans rfl; have hcz32_1 : w31.cell? ⟨gb42001, 1, none⟩ = some (.slice A0_1 l0_1.length c0_1) := (blk_cell BK42001.out 1).trans rfl; have hcz32_2 : w31.cell? ⟨gb42001, 2, none⟩ = some (.int .i64 a0_2) := (blk_cell BK42001.out 2).trans rfl; have hfz32_0 := blk_frozen BK42001.out 0; have hfz32_1 := blk_frozen BK42001.out 1; have hfz32_2 := blk_frozen BK42001.out 2; obtain ⟨Ao33, co33, eo33⟩ := Kd.R_slice HO42006.out; subst eo33) | (go_at_call 38; (with_reducible refine (papermillref52_Spans.calls kj1 _ _ t42003 _ _ l0_1 false _ ?side1 ?side2 ?side3 ?side4 A11.out).mono ?_); (case side1 => repeat (first | exact (Kd.R_reads' HO42006.out).2.2 | (with_reducible refine Kd.C_alloc ?_ _) | (with_reducible refine Kd.C_drewN ?_ _) | (with_reducible refine Kd.C_drew ?_))); (case side2 => exact (Kd.R_reads' HO42006.out).2.1); (case side3 => repeat (first | exact (Kd.C_below HR0_1.out HB.out) | (with_reducible refine Kd.C_alloc ?_ _) | (with_reducible refine Kd.C_drewN ?_ _) | (with_reducible refine Kd.C_drew ?_))); (case side4 => exact HC0_1.out); rintro e w' ⟨rfl, ⟨nd, rfl⟩⟩; (try first | exact ⟨rfl, _, World.drewN_drewN _ _ _⟩ | exact ⟨rfl, _, Eq.trans (World.drewN_drewN _ _ _) (congrArg (World.drewN _) (Nat.add_assoc _ _ _))⟩)))
      repeat (go_quiet (first | (go_at_call 36; (with_reducible refine (papermillref04_Check.calls kj1 _ _ l0_1 t42002 _ ?side1 ?side2 A8.out).mono ?_); (case side1 => repeat (first | exact (Kd.C_below HR0_1.out HB.out) | (with_reducible refine Kd.C_alloc ?_ _) | (with_reducible refine Kd.C_drewN ?_ _) | (with_reducible refine Kd.C_drew ?_))); (case side2 => exact HC0_1.out); rintro e w' ⟨rfl, ⟨nd, rfl⟩⟩; (try first | exact ⟨rfl, _, World.drewN_drewN _ _ _⟩ | exact ⟨rfl, _, Eq.trans (World.drewN_drewN _ _ _) (congrArg (World.drewN _) (Nat.add_assoc _ _ _))⟩)) | (go_at_call 57; (with_reducible refine (papermillref04_Norm.calls kj1 _ _ l0_1 t42003 t42004 _ ?side1 ?side2 A10.out).mono ?_); (case side1 => repeat (first | exact (Kd.C_below HR0_1.out (by repeat (first | exact HB.out | apply below_alloc | apply pw_below_drewN | apply below_drew1 | refine below_set ?_ GE42001.out))) | (with_reducible refine Kd.C_alloc ?_ _) | (with_reducible refine Kd.C_drewN ?_ _) | (with_reducible refine Kd.C_drew ?_))); (case side2 => exact HC0_1.out); rintro e w31 ⟨v42005, rfl, ho0, hb⟩; have n0_ := Aside0.mk (Kd.R_lower ho0 (below_size (by repeat (first | exact HB.out | apply below_alloc | apply pw_below_drewN | apply below_drew1 | refine below_set ?_ GE42001.out)))); have n1_ := Aside0.mk (blk_below (g := gb42001) (o := .cells #[.int .i64 a0_0, .slice A0_1 l0_1.length c0_1, .int .i64 a0_2] 25 (0, 0)) (by exact BK42001.out) hb); have n2_ := Aside0.mk (below_step (by repeat (first | exact HB.out | apply below_alloc | apply pw_below_drewN | apply below_drew1 | refine below_set ?_ GE42001.out)) hb); clear BK42001; clear HB; have HO42006 := n0_; have BK42001 := n1_; have HB := n2_; clear n0_ n1_ n2_; (try clear hb); (try clear hb2); (try clear hk); (try clear hi); (try clear ho0); have hcz32_0 : w31.cell? ⟨gb42001, 0, none⟩ = some (.int .i64 a0_0) := (blk_cell BK42001.out 0).trans rfl; have hcz32_1 : w31.cell? ⟨gb42001, 1, none⟩ = some (.slice A0_1 l0_1.length c0_1) := (blk_cell BK42001.out 1).trans rfl; have hcz32_2 : w31.cell? ⟨gb42001, 2, none⟩ = some (.int .i64 a0_2) := (blk_cell BK42001.out 2).trans rfl; have hfz32_0 := blk_frozen BK42001.out 0; have hfz32_1 := blk_frozen BK42001.out 1; have hfz32_2 := blk_frozen BK42001.out 2; obtain ⟨Ao33, co33, eo33⟩ := Kd.R_slice HO42006.out; subst eo33) | (go_at_call 38; (with_reducible refine (papermillref52_Spans.calls kj1 _ _ t42003 _ _ l0_1 false _ ?side1 ?side2 ?side3 ?side4 A11.out).mono ?_); (case side1 => repeat (first | exact (Kd.R_reads' HO42006.out).2.2 | (with_reducible refine Kd.C_alloc ?_ _) | (with_reducible refine Kd.C_drewN ?_ _) | (with_reducible refine Kd.C_drew ?_))); (case side2 => exact (Kd.R_reads' HO42006.out).2.1); (case side3 => repeat (first | exact (Kd.C_below HR0_1.out HB.out) | (with_reducible refine Kd.C_alloc ?_ _) | (with_reducible refine Kd.C_drewN ?_ _) | (with_reducible refine Kd.C_drew ?_))); (case side4 => exact HC0_1.out); rintro e w' ⟨rfl, ⟨nd, rfl⟩⟩; (try first | exact ⟨rfl, _, World.drewN_drewN _ _ _⟩ | exact ⟨rfl, _, Eq.trans (World.drewN_drewN _ _ _) (congrArg (World.drewN _) (Nat.add_assoc _ _ _))⟩))); try go_wp2_with (first | (go_at_call 36; (with_reducible refine (papermillref04_Check.calls kj1 _ _ l0_1 t42002 _ ?side1 ?side2 A8.out).mono ?_); (case side1 => repeat (first | exact (Kd.C_below HR0_1.out HB.out) | (with_reducible refine Kd.C_alloc ?_ _) | (with_reducible refine Kd.C_drewN ?_ _) | (with_reducible refine Kd.C_drew ?_))); (case side2 => exact HC0_1.out); rintro e w' ⟨rfl, ⟨nd, rfl⟩⟩; (try first | exact ⟨rfl, _, World.drewN_drewN _ _ _⟩ | exact ⟨rfl, _, Eq.trans (World.drewN_drewN _ _ _) (congrArg (World.drewN _) (Nat.add_assoc _ _ _))⟩)) | (go_at_call 57; (with_reducible refine (papermillref04_Norm.calls kj1 _ _ l0_1 t42003 t42004 _ ?side1 ?side2 A10.out).mono ?_); (case side1 => repeat (first | exact (Kd.C_below HR0_1.out (by repeat (first | exact HB.out | apply below_alloc | apply pw_below_drewN | apply below_drew1 | refine below_set ?_ GE42001.out))) | (with_reducible refine Kd.C_alloc ?_ _) | (with_reducible refine Kd.C_drewN ?_ _) | (with_reducible refine Kd.C_drew ?_))); (case side2 => exact HC0_1.out); rintro e w31 ⟨v42005, rfl, ho0, hb⟩; have n0_ := Aside0.mk (Kd.R_lower ho0 (below_size (by repeat (first | exact HB.out | apply below_alloc | apply pw_below_drewN | apply below_drew1 | refine below_set ?_ GE42001.out)))); have n1_ := Aside0.mk (blk_below (g := gb42001) (o := .cells #[.int .i64 a0_0, .slice A0_1 l0_1.length c0_1, .int .i64 a0_2] 25 (0, 0)) (by exact BK42001.out) hb); have n2_ := Aside0.mk (below_step (by repeat (first | exact HB.out | apply below_alloc | apply pw_below_drewN | apply below_drew1 | refine below_set ?_ GE42001.out)) hb); clear BK42001; clear HB; have HO42006 := n0_; have BK42001 := n1_; have HB := n2_; clear n0_ n1_ n2_; (try clear hb); (try clear hb2); (try clear hk); (try clear hi); (try clear ho0); have hcz32_0 : w31.cell? ⟨gb42001, 0, none⟩ = some (.int .i64 a0_0) := (blk_cell BK42001.out 0).trans rfl; have hcz32_1 : w31.cell? ⟨gb42001, 1, none⟩ = some (.slice A0_1 l0_1.length c0_1) := (blk_cell BK42001.out 1).trans rfl; have hcz32_2 : w31.cell? ⟨gb42001, 2, none⟩ = some (.int .i64 a0_2) := (blk_cell BK42001.out 2).trans rfl; have hfz32_0 := blk_frozen BK42001.out 0; have hfz32_1 := blk_frozen BK42001.out 1; have hfz32_2 := blk_frozen BK42001.out 2; obtain ⟨Ao33, co33, eo33⟩ := Kd.R_slice HO42006.out; subst eo33) | (go_at_call 38; (with_reducible refine (papermillref52_Spans.calls kj1 _ _ t42003 _ _ l0_1 false _ ?side1 ?side2 ?side3 ?side4 A11.out).mono ?_); (case side1 => repeat (first | exact (Kd.R_reads' HO42006.out).2.2 | (with_reducible refine Kd.C_alloc ?_ _) | (with_reducible refine Kd.C_drewN ?_ _) | (with_reducible refine Kd.C_drew ?_))); (case side2 => exact (Kd.R_reads' HO42006.out).2.1); (case side3 => repeat (first | exact (Kd.C_below HR0_1.out HB.out) | (with_reducible refine Kd.C_alloc ?_ _) | (with_reducible refine Kd.C_drewN ?_ _) | (with_reducible refine Kd.C_drew ?_))); (case side4 => exact HC0_1.out); rintro e w' ⟨rfl, ⟨nd, rfl⟩⟩; (try first | exact ⟨rfl, _, World.drewN_drewN _ _ _⟩ | exact ⟨rfl, _, Eq.trans (World.drewN_drewN _ _ _) (congrArg (World.drewN _) (Nat.add_assoc _ _ _))⟩))))
      go_ret
      exact ⟨by first | rfl | (simp [errW_none, errW_some] <;> rfl) | (simp [*, errW_none, errW_some] <;> rfl), by repeat (first | exact HB.out | apply below_alloc | apply pw_below_drewN | apply below_drew1 | refine below_set ?_ GE42001.out)⟩
    ·rw [if_neg c9] at H
     have c9b0 : (t42002 == 0) = false := beq_eq_false_iff_ne.mpr c9
     have c9b1 : (t42002 != 0) = true := bne_iff_ne.mpr c9
     obtain rfl := Option.some.inj H
     have hcz34_0 : wc.cell? ⟨gb42001, 0, none⟩ = some (.int .i64 a0_0) := (blk_cell BK42001.out 0).trans rfl
     have hcz34_1 : wc.cell? ⟨gb42001, 1, none⟩ = some (.slice A0_1 l0_1.length c0_1) := (blk_cell BK42001.out 1).trans rfl
     have hcz34_2 : wc.cell? ⟨gb42001, 2, none⟩ = some (.int .i64 a0_2) := (blk_cell BK42001.out 2).trans rfl
     have hfz34_0 := blk_frozen BK42001.out 0
     have hfz34_1 := blk_frozen BK42001.out 1
     have hfz34_2 := blk_frozen BK42001.out 2
     go_wp2_with (first | (go_at_call 36; (with_reducible refine (papermillref04_Check.calls kj1 _ _ l0_1 t42002 _ ?side1 ?side2 A8.out).mono ?_); (case side1 => repeat (first | exact (Kd.C_below HR0_1.out HB.out) | (with_reducible refine Kd.C_alloc ?_ _) | (with_reducible refine Kd.C_drewN ?_ _) | (with_reducible refine Kd.C_drew ?_))); (case side2 => exact HC0_1.out); rintro e w' ⟨rfl, ⟨nd, rfl⟩⟩; (try first | exact ⟨rfl, _, World.drewN_drewN _ _ _⟩ | exact ⟨rfl, _, Eq.trans (World.drewN_drewN _ _ _) (congrArg (World.drewN _) (Nat.add_assoc _ _ _))⟩)))
     repeat (go_quiet (first | (go_at_call 36; (with_reducible refine (papermillref04_Check.calls kj1 _ _ l0_1 t42002 _ ?side1 ?side2 A8.out).mono ?_); (case side1 => repeat (first | exact (Kd.C_below HR0_1.out HB.out) | (with_reducible refine Kd.C_alloc ?_ _) | (with_reducible refine Kd.C_drewN ?_ _) | (with_reducible refine Kd.C_drew ?_))); (case side2 => exact HC0_1.out); rintro e w' ⟨rfl, ⟨nd, rfl⟩⟩; (try first | exact ⟨rfl, _, World.drewN_drewN _ _ _⟩ | exact ⟨rfl, _, Eq.trans (World.drewN_drewN _ _ _) (congrArg (World.drewN _) (Nat.add_assoc _ _ _))⟩))); try go_wp2_with (first | (go_at_call 36; (with_reducible refine (papermillref04_Check.calls kj1 _ _ l0_1 t42002 _ ?side1 ?side2 A8.out).mono ?_); (case side1 => repeat (first | exact (Kd.C_below HR0_1.out HB.out) | (with_reducible refine Kd.C_alloc ?_ _) | (with_reducible refine Kd.C_drewN ?_ _) | (with_reducible refine Kd.C_drew ?_))); (case side2 => exact HC0_1.out); rintro e w' ⟨rfl, ⟨nd, rfl⟩⟩; (try first | exact ⟨rfl, _, World.drewN_drewN _ _ _⟩ | exact ⟨rfl, _, Eq.trans (World.drewN_drewN _ _ _) (congrArg (World.drewN _) (Nat.add_assoc _ _ _))⟩))))
     go_ret
     exact ⟨by first | rfl | (simp [errW_none, errW_some] <;> rfl) | (simp [*, errW_none, errW_some] <;> rfl), by repeat (first | exact HB.out | apply below_alloc | apply pw_below_drewN | apply below_drew1 | refine below_set ?_ GE42001.out)⟩

end Go.Proofs.Ytnfcpcgbdoiiiaa.G

namespace Go.Proofs.Ytnfcpcgbdoiiiaa.G
open Go.RowKit Go.Proofs.YtnfcpcgbdoiiiaaW.PrintWords Go.Proofs.YtnfcpcgbdoiiiaaW.PrintLast Go.Proofs.YtnfcpcgbdoiiiaaW.PrintMore
attribute [local go_sem] max2_int min2_int max_two min_two max_three min_three max_four min_four   -- for this text's walks alone
set_option linter.unusedVariables false
set_option linter.unusedSimpArgs false

def papermillref04_Total.l0 : Nat → List (S50) → Int → Int → Int → Option (Int × Int)
 | 0, _, _, _, _ => none
 | k + 1, x4, x5, x6, x7 => if x7 < (x4.length : Int) then (if 0 ≤ x7 then (papermillref04_Total.l0 k x4 x5 (wrap64 ((wrap64 (x6 + ((rd_T50 x4 x7).f1))) - ((rd_T50 x4 x7).f0))) (wrap64 (x7 + 1))) else (none)) else (some (x6, x5))
def papermillref04_Total.f (k : Nat) (l0 : List (S50)) : Option (Int × Int) := (papermillref04_Norm.f k l0).bind fun bt45001 => (papermillref04_Total.l0 k bt45001.1 bt45001.2 0 0)
theorem papermillref04_Total.mono_l : ∀ k, (∀ y0 y1 y2 y3, LeO (papermillref04_Total.l0 k y0 y1 y2 y3) (papermillref04_Total.l0 (k + 1) y0 y1 y2 y3))
 | 0 => fun _ _ _ _ r h => by simp [papermillref04_Total.l0] at h
 | k + 1 => by
  have ih0 := papermillref04_Total.mono_l k
  ·intro y0 y1 y2 y3
   unfold papermillref04_Total.l0
   repeat' first
   | (with_reducible exact ih0 _ _ _ _)
   | (with_reducible exact papermillref04_Norm.mono _ _)
   | (with_reducible exact LeO.refl _)
   | (with_reducible exact LeO.none _)
   | (with_reducible refine LeO.ite ?_ ?_)
   | (with_reducible refine LeO.bind ?_ (fun _ => ?_))
   | exact ih0 _ _ _ _
   | exact papermillref04_Norm.mono _ _
   | exact LeO.none _
   | refine LeO.ite ?_ ?_
   | refine LeO.bind ?_ (fun _ => ?_)
theorem papermillref04_Total.mono : ∀ a0 k, LeO (papermillref04_Total.f k a0) (papermillref04_Total.f (k + 1) a0) := by
 intro a0 k
 have ih0 := papermillref04_Total.mono_l k
 unfold papermillref04_Total.f
 repeat' first
   | (with_reducible exact ih0 _ _ _ _)
   | (with_reducible exact papermillref04_Norm.mono _ _)
   | (with_reducible exact LeO.refl _)
   | (with_reducible exact LeO.none _)
   | (with_reducible refine LeO.ite ?_ ?_)
   | (with_reducible refine LeO.bind ?_ (fun _ => ?_))
   | exact ih0 _ _ _ _
   | exact papermillref04_Norm.mono _ _
   | exact LeO.none _
   | refine LeO.ite ?_ ?_
   | refine LeO.bind ?_ (fun _ => ?_)
set_option maxHeartbeats 8000000 in
set_option maxRecDepth 100000 in
theorem papermillref04_Total.calls (k : Nat) (A0 : Option Addr) (c0 : Nat) (l0 : List (S50)) (r1 : Int) (r2 : Int) (w : World) (hr0 : Kd.C k50 w A0 l0.length l0) (hc0 : l0.length ≤ c0) (h : papermillref04_Total.f k l0 = some (r1, r2)) :
  Calls Try.prog 44 #[.slice A0 l0.length c0] w fun e w' => e = .returned (.tuple #[.int .i64 r1, .int .i64 r2]) ∧ Below w.heap.size w w' := by
 have HR0 := Aside0.mk hr0
 have HC0 := Aside0.mk hc0
 clear hr0 hc0
 have HB := Aside0.mk (Below.refl w.heap.size w)
 have H : ((papermillref04_Norm.f k l0).bind fun bt45001 => (papermillref04_Total.l0 k bt45001.1 bt45001.2 0 0)) = some (r1, r2) := h
 clear h
 replace H := Option.bind_eq_some_iff.mp H
 obtain ⟨⟨t45001, t45002⟩, A20, H⟩ := H
 replace H : (papermillref04_Total.l0 k t45001 t45002 0 0) = some (r1, r2) := H
 have A2 := Aside0.mk A20
 clear A20
 have H' := Aside0.mk H
 clear H
 go_enter Try.func44, Try.ntmps44
 go_wp2_with (first | (go_at_call 57; (with_reducible refine (papermillref04_Norm.calls k _ _ l0 t45001 t45002 _ ?side1 ?side2 A2.out).mono ?_); (case side1 => exact HR0.out); (case side2 => exact HC0.out); rintro e w3 ⟨v45003, rfl, ho0, hb⟩; have n0_ := Aside0.mk (Kd.R_lower ho0 (below_size (by repeat (first | exact HB.out | apply below_alloc | apply pw_below_drewN | apply below_drew1)))); have n1_ := Aside0.mk (below_step (by repeat (first | exact HB.out | apply below_alloc | apply pw_below_drewN | apply below_drew1)) hb); clear HB; have HO45004 := n0_; have HB := n1_; clear n0_ n1_; (try clear hb); (try clear hb2); (try clear hk); (try clear hi); (try clear ho0)))
 repeat (go_quiet (first | (go_at_call 57; (with_reducible refine (papermillref04_Norm.calls k _ _ l0 t45001 t45002 _ ?side1 ?side2 A2.out).mono ?_); (case side1 => exact HR0.out); (case side2 => exact HC0.out); rintro e w3 ⟨v45003, rfl, ho0, hb⟩; have n0_ := Aside0.mk (Kd.R_lower ho0 (below_size (by repeat (first | exact HB.out | apply below_alloc | apply pw_below_drewN | apply below_drew1)))); have n1_ := Aside0.mk (below_step (by repeat (first | exact HB.out | apply below_alloc | apply pw_below_drewN | apply below_drew1)) hb); clear HB; have HO45004 := n0_; have HB := n1_; clear n0_ n1_; (try clear hb); (try clear hb2); (try clear hk); (try clear hi); (try clear ho0))); try go_wp2_with (first | (go_at_call 57; (with_reducible refine (papermillref04_Norm.calls k _ _ l0 t45001 t45002 _ ?side1 ?side2 A2.out).mono ?_); (case side1 => exact HR0.out); (case side2 => exact HC0.out); rintro e w3 ⟨v45003, rfl, ho0, hb⟩; have n0_ := Aside0.mk (Kd.R_lower ho0 (below_size (by repeat (first | exact HB.out | apply below_alloc | apply pw_below_drewN | apply below_drew1)))); have n1_ := Aside0.mk (below_step (by repeat (first | exact HB.out | apply below_alloc | apply pw_below_drewN | apply below_drew1)) hb); clear HB; have HO45004 := n0_; have HB := n1_; clear n0_ n1_; (try clear hb); (try clear hb2); (try clear hk); (try clear hi); (try clear ho0))))
 go_loopg [6, 7] k (fun kq v6 v7 w' => ∃ (x6_1 : Int) (x7_1 : Int), v6 = .int .i64 x6_1 ∧ v7 = .int .i64 x7_1 ∧ Aside0 (papermillref04_Total.l0 kq t45001 t45002 x6_1 x7_1 = some (r1, r2)) ∧ Aside0 (kq ≤ k) ∧ Aside0 (Kd.R k50 50 w' w.heap.size (fun _ => True) v45003 t45001) ∧ Aside0 (Below w.heap.size w w'))
 case atStart => exact ⟨(0), (0), (by first | rfl | (simp; done) | (simp [*]; done)), (by first | rfl | (simp; done) | (simp [*]; done)), H', ⟨Nat.le_refl _⟩, ⟨HO45004.out⟩, ⟨by repeat (first | exact HB.out | apply below_alloc | apply pw_below_drewN | apply below_drew1)⟩⟩
 case round =>
  clear H'
  try clear p2
  obtain ⟨x6_1, x7_1, rfl, rfl, HA, HK1, HO_4, HB⟩ := hrel
  cases gk with
  | zero => exact absurd HA.out (by simp [papermillref04_Total.l0])
  | succ k1 =>
   have H := HA.out
   clear HA
   simp only [papermillref04_Total.l0] at H
   by_cases c4 : x7_1 < (t45001.length : Int)
   ·rw [if_pos c4] at H
    have c4b0 : decide (x7_1 < (t45001.length : Int)) = true := decide_eq_true c4
    clear c4
    by_cases c5 : 0 ≤ x7_1
    ·rw [if_pos c5] at H
     have c5b0 : decide (0 ≤ x7_1) = true := decide_eq_true c5
     clear c5
     have H' := Aside0.mk H
     clear H
     obtain ⟨Ao6, co6, eo6⟩ := Kd.R_slice HO_4.out
     subst eo6
     have p45005 : 0 ≤ (x7_1 : Int) := of_decide_eq_true (by assumption)
     have q45005 : x7_1 < (t45001.length : Int) := of_decide_eq_true (by assumption)
     obtain ⟨ad45005, e45005, hx45005_0, hx45005_1⟩ := at_T50 (Kd.R_reads' HO_4.out).2.2 x7_1 p45005 q45005
     cases e45005
     replace p45005 := eq_true p45005
     replace q45005 := eq_true q45005
     have p45006 : 0 ≤ (x7_1 : Int) := of_decide_eq_true (by assumption)
     have q45006 : x7_1 < (t45001.length : Int) := of_decide_eq_true (by assumption)
     obtain ⟨ad45006, e45006, hx45006_0, hx45006_1⟩ := at_T50 (Kd.R_reads' HO_4.out).2.2 x7_1 p45006 q45006
     obtain rfl : ad45005 = ad45006 := (by injection e45006)
     replace p45006 := eq_true p45006
     replace q45006 := eq_true q45006
     go_wp2
     repeat (go_quiet (fail); try go_wp2)
     go_roundg k1
     case measure => have := HK1.out; omega
     case rel => exact ⟨(wrap64 ((wrap64 (x6_1 + ((rd_T50 t45001 x7_1).f1))) - ((rd_T50 t45001 x7_1).f0))), (wrap64 (x7_1 + 1)), (by first | rfl | (simp; done) | (simp [*]; done)), (by first | rfl | (simp; done) | (simp [*]; done)), H', ⟨by have := HK1.out; omega⟩, ⟨HO_4.out⟩, ⟨by repeat (first | exact HB.out | apply below_alloc | apply pw_below_drewN | apply below_drew1)⟩⟩
    ·rw [if_neg c5] at H
     exact absurd H (by simp)
   ·rw [if_neg c4] at H
    have c4b0 : decide (x7_1 < (t45001.length : Int)) = false := decide_eq_false c4
    clear c4
    simp only [Option.some.injEq, Prod.mk.injEq] at H
    obtain ⟨rfl, rfl⟩ := H
    obtain ⟨Ao7, co7, eo7⟩ := Kd.R_slice HO_4.out
    subst eo7
    go_wp2
    repeat (go_quiet (fail); try go_wp2)
    go_ret2
    exact ⟨by first | rfl | (simp [errW_none, errW_some] <;> rfl) | (simp [*, errW_none, errW_some] <;> rfl), by repeat (first | exact HB.out | apply below_alloc | apply pw_below_drewN | apply below_drew1)⟩

end Go.Proofs.Ytnfcpcgbdoiiiaa.G

namespace Go.Proofs.Ytnfcpcgbdoiiiaa.G
open Go.RowKit Go.Proofs.YtnfcpcgbdoiiiaaW.PrintWords Go.Proofs.YtnfcpcgbdoiiiaaW.PrintLast Go.Proofs.YtnfcpcgbdoiiiaaW.PrintMore
attribute [local go_sem] max2_int min2_int max_two min_two max_three min_three max_four min_four   -- for this text's walks alone
set_option linter.unusedVariables false
set_option linter.unusedSimpArgs false

def papermillref52_Good.f (k : Nat) (a0_0 : Int) (l0_1 : List (S50)) (a0_2 : Int) : Option (Int × Int) := (papermillref52_one.f k a0_0 l0_1 a0_2).bind fun t25002 => (if t25002 = 0 then ((papermillref04_Total.f k l0_1).bind fun bt25003 => (some (bt25003.1, bt25003.2))) else (some (0, t25002)))
theorem papermillref52_Good.mono : ∀ a0 a1 a2 k, LeO (papermillref52_Good.f k a0 a1 a2) (papermillref52_Good.f (k + 1) a0 a1 a2) := by
 intro a0 a1 a2 k
 unfold papermillref52_Good.f
 repeat' first
   | (with_reducible exact papermillref04_Total.mono _ _)
   | (with_reducible exact papermillref52_one.mono _ _ _ _)
   | (with_reducible exact LeO.refl _)
   | (with_reducible exact LeO.none _)
   | (with_reducible refine LeO.ite ?_ ?_)
   | (with_reducible refine LeO.bind ?_ (fun _ => ?_))
   | exact papermillref04_Total.mono _ _
   | exact papermillref52_one.mono _ _ _ _
   | exact LeO.none _
   | refine LeO.ite ?_ ?_
   | refine LeO.bind ?_ (fun _ => ?_)
set_option maxHeartbeats 8000000 in
set_option maxRecDepth 100000 in
theorem papermillref52_Good.calls (k : Nat) (a0_0 : Int) (A0_1 : Option Addr) (c0_1 : Nat) (l0_1 : List (S50)) (a0_2 : Int) (r1 : Int) (r2 : Int) (w : World) (hr0_1 : Kd.C k50 w A0_1 l0_1.length l0_1) (hc0_1 : l0_1.length ≤ c0_1) (h : papermillref52_Good.f k a0_0 l0_1 a0_2 = some (r1, r2)) :
  Calls Try.prog 24 #[.agg #[.int .i64 a0_0, .slice A0_1 l0_1.length c0_1, .int .i64 a0_2]] w fun e w' => e = .returned (.tuple #[.int .i64 r1, .int .i64 r2]) ∧ Below w.heap.size w w' := by
 have hu25 := Try.underlying25
 have HR0_1 := Aside0.mk hr0_1
 have HC0_1 := Aside0.mk hc0_1
 clear hr0_1 hc0_1
 have HB := Aside0.mk (Below.refl w.heap.size w)
 have H : ((papermillref52_one.f k a0_0 l0_1 a0_2).bind fun t25002 => (if t25002 = 0 then ((papermillref04_Total.f k l0_1).bind fun bt25003 => (some (bt25003.1, bt25003.2))) else (some (0, t25002)))) = some (r1, r2) := h
 clear h
 replace H := Option.bind_eq_some_iff.mp H
 obtain ⟨t25002, A20, H⟩ := H
 replace H : (if t25002 = 0 then ((papermillref04_Total.f k l0_1).bind fun bt25003 => (some (bt25003.1, bt25003.2))) else (some (0, t25002))) = some (r1, r2) := H
 have A2 := Aside0.mk A20
 clear A20
 by_cases c3 : t25002 = 0
 ·rw [if_pos c3] at H
  have c3b0 : (t25002 == 0) = true := beq_iff_eq.mpr c3
  have c3b1 : (t25002 != 0) = false := bne_eq_false_iff_eq.mpr c3
  clear c3
  replace H := Option.bind_eq_some_iff.mp H
  obtain ⟨⟨t25003, t25004⟩, A40, H⟩ := H
  replace H : (some (t25003, t25004)) = some (r1, r2) := H
  have A4 := Aside0.mk A40
  clear A40
  simp only [Option.some.injEq, Prod.mk.injEq] at H
  obtain ⟨rfl, rfl⟩ := H
  go_enter Try.func24, Try.ntmps24
  go_wp2_with (first | ((with_reducible refine gate_dst (N := 1) rfl ?_); refine box_event ?hg (N := 1) ?hd (cs := #[.int .i64 a0_0, .slice A0_1 l0_1.length c0_1, .int .i64 a0_2]) (t := 25) ?hr ?_; (case hd => rfl); (case hg => rfl); (case hr => first | (go_simp; done) | (go_simp; rfl)); intro gb25001 hg w5 hbox hb; have n0_ := Aside0.mk (below_step (by repeat (first | exact HB.out | apply below_alloc | apply pw_below_drewN | apply below_drew1)) hb); have n1_ := Aside0.mk (hbox); have n2_ := Aside0.mk ((by rw [hg]; exact (below_size (by repeat (first | exact HB.out | apply below_alloc | apply pw_below_drewN | apply below_drew1))) : w.heap.size ≤ gb25001)); have n3_ := Aside0.mk ((by rw [hg]; exact (below_size (by repeat (first | exact HB.out | apply below_alloc | apply pw_below_drewN | apply below_drew1))) : w.heap.size ≤ gb25001)); clear HB; have HB := n0_; have BK25001 := n1_; have GW25001 := n2_; have GE25001 := n3_; clear n0_ n1_ n2_ n3_; clear hb hbox hg; have hcz6_0 : w5.cell? ⟨gb25001, 0, none⟩ = some (.int .i64 a0_0) := (blk_cell BK25001.out 0).trans rfl; have hcz6_1 : w5.cell? ⟨gb25001, 1, none⟩ = some (.slice A0_1 l0_1.length c0_1) := (blk_cell BK25001.out 1).trans rfl; have hcz6_2 : w5.cell? ⟨gb25001, 2, none⟩ = some (.int .i64 a0_2) := (blk_cell BK25001.out 2).trans rfl; have hfz6_0 := blk_frozen BK25001.out 0; have hfz6_1 := blk_frozen BK25001.out 1; have hfz6_2 := blk_frozen BK25001.out 2) | ((with_reducible refine gate_callee (f := 41) rfl ?_); refine goesL_ (some 6) rfl rfl Try.func41 (by kernel_rfl) rfl #[.agg #[.int .i64 a0_0, .slice A0_1 l0_1.length c0_1, .int .i64 a0_2]] rfl (by (try simp only [List.map_toArray, List.map_cons, List.map_nil]); first | done | rfl | (simp only [List.length_drop, List.length_take]; rfl)) ?_; (with_reducible refine (papermillref52_one.calls k a0_0 _ _ l0_1 a0_2 t25002 _ ?side1 ?side2 A2.out).mono ?_); (case side1 => exact (Kd.C_below HR0_1.out HB.out)); (case side2 => exact HC0_1.out); rintro e w7 ⟨rfl, hb⟩; refine ⟨_, rfl, ?_⟩; have n0_ := Aside0.mk (blk_below (g := gb25001) (o := .cells #[.int .i64 a0_0, .slice A0_1 l0_1.length c0_1, .int .i64 a0_2] 25 (0, 0)) (by exact BK25001.out) hb); have n1_ := Aside0.mk (below_step (by repeat (first | exact HB.out | apply below_alloc | apply pw_below_drewN | apply below_drew1 | refine below_set ?_ GE25001.out)) hb); clear BK25001; clear HB; have BK25001 := n0_; have HB := n1_; clear n0_ n1_; (try clear hb); (try clear hb2); (try clear hk); (try clear hi); have hcz8_0 : w7.cell? ⟨gb25001, 0, none⟩ = some (.int .i64 a0_0) := (blk_cell BK25001.out 0).trans rfl; have hcz8_1 : w7.cell? ⟨gb25001, 1, none⟩ = some (.slice A0_1 l0_1.length c0_1) := (blk_cell BK25001.out 1).trans rfl; have hcz8_2 : w7.cell? ⟨gb25001, 2, none⟩ = some (.int .i64 a0_2) := (blk_cell BK25001.out 2).trans rfl; have hfz8_0 := blk_frozen BK25001.out 0; have hfz8_1 := blk_frozen BK25001.out 1; have hfz8_2 := blk_frozen BK25001.out 2) | ((with_reducible refine gate_callee (f := 44) rfl ?_); refine goesL_ (some 12) rfl rfl Try.func44 (by kernel_rfl) rfl #[.slice A0_1 l0_1.length c0_1] rfl (by (try simp only [List.map_toArray, List.map_cons, List.map_nil]); first | done | rfl | (simp only [List.length_drop, List.length_take]; rfl)) ?_; (with_reducible refine (papermillref04_Total.calls k _ _ l0_1 t25003 t25004 _ ?side1 ?side2 A4.out).mono ?_); (case side1 => exact (Kd.C_below HR0_1.out HB.out)); (case side2 => exact HC0_1.out); rintro e w9 ⟨rfl, hb⟩; refine ⟨_, rfl, ?_⟩; have n0_ := Aside0.mk (blk_below (g := gb25001) (o := .cells #[.int .i64 a0_0, .slice A0_1 l0_1.length c0_1, .int .i64 a0_2] 25 (0, 0)) (by exact BK25001.out) hb); have n1_ := Aside0.mk (below_step (by repeat (first | exact HB.out | apply below_alloc | apply pw_below_drewN | apply below_drew1 | refine below_set ?_ GE25001.out)) hb); clear BK25001; clear HB; have BK25001 := n0_; have HB := n1_; clear n0_ n1_; (try clear hb); (try clear hb2); (try clear hk); (try clear hi)))
  go_ret2
  exact ⟨by first | rfl | (simp [errW_none, errW_some] <;> rfl) | (simp [*, errW_none, errW_some] <;> rfl), by repeat (first | exact HB.out | apply below_alloc | apply pw_below_drewN | apply below_drew1 | refine below_set ?_ GE25001.out)⟩
 ·rw [if_neg c3] at H
  have c3b0 : (t25002 == 0) = false := beq_eq_false_iff_ne.mpr c3
  have c3b1 : (t25002 != 0) = true := bne_iff_ne.mpr c3
  simp only [Option.some.injEq, Prod.mk.injEq] at H
  obtain ⟨rfl, rfl⟩ := H
  go_enter Try.func24, Try.ntmps24
  go_wp2_with (first | ((with_reducible refine gate_dst (N := 1) rfl ?_); refine box_event ?hg (N := 1) ?hd (cs := #[.int .i64 a0_0, .slice A0_1 l0_1.length c0_1, .int .i64 a0_2]) (t := 25) ?hr ?_; (case hd => rfl); (case hg => rfl); (case hr => first | (go_simp; done) | (go_simp; rfl)); intro gb25001 hg w10 hbox hb; have n0_ := Aside0.mk (below_step (by repeat (first | exact HB.out | apply below_alloc | apply pw_below_drewN | apply below_drew1)) hb); have n1_ := Aside0.mk (hbox); have n2_ := Aside0.mk ((by rw [hg]; exact (below_size (by repeat (first | exact HB.out | apply below_alloc | apply pw_below_drewN | apply below_drew1))) : w.heap.size ≤ gb25001)); have n3_ := Aside0.mk ((by rw [hg]; exact (below_size (by repeat (first | exact HB.out | apply below_alloc | apply pw_below_drewN | apply below_drew1))) : w.heap.size ≤ gb25001)); clear HB; have HB := n0_; have BK25001 := n1_; have GW25001 := n2_; have GE25001 := n3_; clear n0_ n1_ n2_ n3_; clear hb hbox hg; have hcz11_0 : w10.cell? ⟨gb25001, 0, none⟩ = some (.int .i64 a0_0) := (blk_cell BK25001.out 0).trans rfl; have hcz11_1 : w10.cell? ⟨gb25001, 1, none⟩ = some (.slice A0_1 l0_1.length c0_1) := (blk_cell BK25001.out 1).trans rfl; have hcz11_2 : w10.cell? ⟨gb25001, 2, none⟩ = some (.int .i64 a0_2) := (blk_cell BK25001.out 2).trans rfl; have hfz11_0 := blk_frozen BK25001.out 0; have hfz11_1 := blk_frozen BK25001.out 1; have hfz11_2 := blk_frozen BK25001.out 2) | ((with_reducible refine gate_callee (f := 41) rfl ?_); refine goesL_ (some 6) rfl rfl Try.func41 (by kernel_rfl) rfl #[.agg #[.int .i64 a0_0, .slice A0_1 l0_1.length c0_1, .int .i64 a0_2]] rfl (by (try simp only [List.map_toArray, List.map_cons, List.map_nil]); first | done | rfl | (simp only [List.length_drop, List.length_take]; rfl)) ?_; (with_reducible refine (papermillref52_one.calls k a0_0 _ _ l0_1 a0_2 t25002 _ ?side1 ?side2 A2.out).mono ?_); (case side1 => exact (Kd.C_below HR0_1.out HB.out)); (case side2 => exact HC0_1.out); rintro e w12 ⟨rfl, hb⟩; refine ⟨_, rfl, ?_⟩; have n0_ := Aside0.mk (blk_below (g := gb25001) (o := .cells #[.int .i64 a0_0, .slice A0_1 l0_1.length c0_1, .int .i64 a0_2] 25 (0, 0)) (by exact BK25001.out) hb); have n1_ := Aside0.mk (below_step (by repeat (first | exact HB.out | apply below_alloc | apply pw_below_drewN | apply below_drew1 | refine below_set ?_ GE25001.out)) hb); clear BK25001; clear HB; have BK25001 := n0_; have HB := n1_; clear n0_ n1_; (try clear hb); (try clear hb2); (try clear hk); (try clear hi)))
  go_ret2
  exact ⟨by first | rfl | (simp [errW_none, errW_some] <;> rfl) | (simp [*, errW_none, errW_some] <;> rfl), by repeat (first | exact HB.out | apply below_alloc | apply pw_below_drewN | apply below_drew1 | refine below_set ?_ GE25001.out)⟩

end Go.Proofs.Ytnfcpcgbdoiiiaa.G

namespace Go.Proofs.Ytnfcpcgbdoiiiaa.G
open Go.RowKit Go.Proofs.YtnfcpcgbdoiiiaaW.PrintWords Go.Proofs.YtnfcpcgbdoiiiaaW.PrintLast Go.Proofs.YtnfcpcgbdoiiiaaW.PrintMore
set_option linter.unusedVariables false
set_option linter.unusedSimpArgs false
def papermilllaw52_few_1.f (k : Nat) (a0 : Int) (l1 : List S50) (a2 : Int) : Option Bool := papermilllaw52_few.f k [⟨a0, l1, a2⟩]
theorem papermilllaw52_few_1.mono : ∀ a0 a1 a2 k, LeO (papermilllaw52_few_1.f k a0 a1 a2) (papermilllaw52_few_1.f (k + 1) a0 a1 a2) := fun a0 a1 a2 k => papermilllaw52_few.mono [⟨a0, a1, a2⟩] k
theorem papermilllaw52_few_1.calls (k : Nat) (a0_0 : Int) (A0_1 : Option Addr) (c0_1 : Nat) (l0_1 : List (S50)) (a0_2 : Int) (r : Bool) (w : World) (hr0_1 : Kd.C k50 w A0_1 l0_1.length l0_1) (hc0_1 : l0_1.length ≤ c0_1) (h : papermilllaw52_few_1.f k a0_0 l0_1 a0_2 = some r) :
    Calls Try.prog 20 #[.slice (some ⟨w.heap.size, 0, none⟩) 1 1] (w.alloc (.cells #[.int .i64 a0_0, .slice A0_1 l0_1.length c0_1, .int .i64 a0_2] 25)) fun e w' => e = .returned (.bool r) ∧ Below w.heap.size w w' := by
  generalize hw : w.alloc (.cells #[.int .i64 a0_0, .slice A0_1 l0_1.length c0_1, .int .i64 a0_2] 25) = W
  have hb : Below w.heap.size w W := by rw [← hw]; exact (Below.refl _ _).alloc (Nat.le_refl _) _
  have hq : W.heap[w.heap.size]? = some (.cells #[.int .i64 a0_0, .slice A0_1 l0_1.length c0_1, .int .i64 a0_2] 25 (0, 0)) := by rw [← hw]; exact World.alloc_heap_new w _
  have hC : Kd.C k25 W (some ⟨w.heap.size, 0, none⟩) ([⟨a0_0, l0_1, a0_2⟩] : List S25).length [⟨a0_0, l0_1, a0_2⟩] := by
    refine ⟨rfl, by simp, fun _ => ⟨_, rfl, fun j p hj => ?_⟩⟩
    match j, hj with
    | 0, hj =>
      obtain rfl : (⟨a0_0, l0_1, a0_2⟩ : S25) = p := by simpa using hj
      refine ⟨[.int .i64 a0_0, .slice A0_1 l0_1.length c0_1, .int .i64 a0_2], rfl, k25_mk _ _ hc0_1 (Kd.C_below hr0_1 hb), fun q u hu => ?_⟩
      match q, hu with
      | 0, hu => rw [← hu]; exact blk_cell hq 0
      | 1, hu => rw [← hu, add_plain]; exact blk_cell hq 1
      | 2, hu => rw [← hu, add_plain]; exact blk_cell hq 2
  refine (papermilllaw52_few.calls k (some ⟨w.heap.size, 0, none⟩) 1 [⟨a0_0, l0_1, a0_2⟩] r W hC (Nat.le_refl 1) h).mono ?_
  rintro e w' ⟨rfl, hB⟩
  exact ⟨rfl, hb.trans ((hB.below).mono hb.size)⟩
end Go.Proofs.Ytnfcpcgbdoiiiaa.G

namespace Go.Proofs.Ytnfcpcgbdoiiiaa.G
open Go.RowKit Go.Proofs.YtnfcpcgbdoiiiaaW.PrintWords Go.Proofs.YtnfcpcgbdoiiiaaW.PrintLast Go.Proofs.YtnfcpcgbdoiiiaaW.PrintMore
attribute [local go_sem] max2_int min2_int max_two min_two max_three min_three max_four min_four   -- for this text's walks alone
set_option linter.unusedVariables false
set_option linter.unusedSimpArgs false

def papermilllaw52_SheetGoods.f (k : Nat) (a0_0 : Int) (l0_1 : List (S50)) (a0_2 : Int) : Option (Bool) := (papermilllaw52_few_1.f k a0_0 l0_1 a0_2).bind fun t7002 => (if t7002 = true then ((sheet_Good.f k a0_0 l0_1 a0_2).bind fun bt7003 => ((papermillref52_Good.f k a0_0 l0_1 a0_2).bind fun bt7005 => (if bt7003.1 = bt7005.1 then (if bt7003.2 = bt7005.2 then ((papermilllaw52_awake.f).bind fun t7007 => (some t7007)) else (some false)) else (some false)))) else ((papermilllaw52_awake.f).bind fun t7008 => (some t7008)))
theorem papermilllaw52_SheetGoods.mono : ∀ a0 a1 a2 k, LeO (papermilllaw52_SheetGoods.f k a0 a1 a2) (papermilllaw52_SheetGoods.f (k + 1) a0 a1 a2) := by
 intro a0 a1 a2 k
 unfold papermilllaw52_SheetGoods.f
 repeat' first
   | (with_reducible exact papermilllaw52_few_1.mono _ _ _ _)
   | (with_reducible exact papermillref52_Good.mono _ _ _ _)
   | (with_reducible exact sheet_Good.mono _ _ _ _)
   | (with_reducible exact LeO.refl _)
   | (with_reducible exact LeO.none _)
   | (with_reducible refine LeO.ite ?_ ?_)
   | (with_reducible refine LeO.bind ?_ (fun _ => ?_))
   | exact papermilllaw52_few_1.mono _ _ _ _
   | exact papermillref52_Good.mono _ _ _ _
   | exact sheet_Good.mono _ _ _ _
   | exact LeO.none _
   | refine LeO.ite ?_ ?_
   | refine LeO.bind ?_ (fun _ => ?_)
set_option maxHeartbeats 8000000 in
set_option maxRecDepth 100000 in
theorem papermilllaw52_SheetGoods.calls (k : Nat) (a0_0 : Int) (A0_1 : Option Addr) (c0_1 : Nat) (l0_1 : List (S50)) (a0_2 : Int) (r : Bool) (w : World) (hr0_1 : Kd.C k50 w A0_1 l0_1.length l0_1) (hc0_1 : l0_1.length ≤ c0_1) (h : papermilllaw52_SheetGoods.f k a0_0 l0_1 a0_2 = some r) :
  Calls Try.prog 6 #[.agg #[.int .i64 a0_0, .slice A0_1 l0_1.length c0_1, .int .i64 a0_2]] w fun e w' => e = .returned (.bool r) ∧ Below w.heap.size w w' := by
 have hu25 := Try.underlying25
 have HR0_1 := Aside0.mk hr0_1
 have HC0_1 := Aside0.mk hc0_1
 clear hr0_1 hc0_1
 have HB := Aside0.mk (Below.refl w.heap.size w)
 have H : ((papermilllaw52_few_1.f k a0_0 l0_1 a0_2).bind fun t7002 => (if t7002 = true then ((sheet_Good.f k a0_0 l0_1 a0_2).bind fun bt7003 => ((papermillref52_Good.f k a0_0 l0_1 a0_2).bind fun bt7005 => (if bt7003.1 = bt7005.1 then (if bt7003.2 = bt7005.2 then ((papermilllaw52_awake.f).bind fun t7007 => (some t7007)) else (some false)) else (some false)))) else ((papermilllaw52_awake.f).bind fun t7008 => (some t7008)))) = some r := h
 clear h
 replace H := Option.bind_eq_some_iff.mp H
 obtain ⟨t7002, A20, H⟩ := H
 replace H : (if t7002 = true then ((sheet_Good.f k a0_0 l0_1 a0_2).bind fun bt7003 => ((papermillref52_Good.f k a0_0 l0_1 a0_2).bind fun bt7005 => (if bt7003.1 = bt7005.1 then (if bt7003.2 = bt7005.2 then ((papermilllaw52_awake.f).bind fun t7007 => (some t7007)) else (some false)) else (some false)))) else ((papermilllaw52_awake.f).bind fun t7008 => (some t7008))) = some r := H
 have A2 := Aside0.mk A20
 clear A20
 by_cases c3 : t7002 = true
 ·subst c3
  have H1 : ((sheet_Good.f k a0_0 l0_1 a0_2).bind fun bt7003 => ((papermillref52_Good.f k a0_0 l0_1 a0_2).bind fun bt7005 => (if bt7003.1 = bt7005.1 then (if bt7003.2 = bt7005.2 then ((papermilllaw52_awake.f).bind fun t7007 => (some t7007)) else (some false)) else (some false)))) = some r := by rw [if_pos rfl] at H; exact H
  clear H
  have H := H1
  clear H1
  replace H := Option.bind_eq_some_iff.mp H
  obtain ⟨⟨t7003, t7004⟩, A40, H⟩ := H
  replace H : ((papermillref52_Good.f k a0_0 l0_1 a0_2).bind fun bt7005 => (if t7003 = bt7005.1 then (if t7004 = bt7005.2 then ((papermilllaw52_awake.f).bind fun t7007 => (some t7007)) else (some false)) else (some false))) = some r := H
  have A4 := Aside0.mk A40
  clear A40
  replace H := Option.bind_eq_some_iff.mp H
  obtain ⟨⟨t7005, t7006⟩, A50, H⟩ := H
  replace H : (if t7003 = t7005 then (if t7004 = t7006 then ((papermilllaw52_awake.f).bind fun t7007 => (some t7007)) else (some false)) else (some false)) = some r := H
  have A5 := Aside0.mk A50
  clear A50
  by_cases c6 : t7003 = t7005
  ·rw [if_pos c6] at H
   have c6b0 : (t7003 == t7005) = true := beq_iff_eq.mpr c6
   have c6b1 : (t7003 != t7005) = false := bne_eq_false_iff_eq.mpr c6
   clear c6
   by_cases c7 : t7004 = t7006
   ·rw [if_pos c7] at H
    have c7b0 : (t7004 == t7006) = true := beq_iff_eq.mpr c7
    have c7b1 : (t7004 != t7006) = false := bne_eq_false_iff_eq.mpr c7
    clear c7
    replace H := Option.bind_eq_some_iff.mp H
    obtain ⟨t7007, A80, H⟩ := H
    replace H : (some t7007) = some r := H
    have A8 := Aside0.mk A80
    clear A80
    obtain rfl := Option.some.inj H
    go_enter Try.func6, Try.ntmps6
    go_wp2_with (first | ((with_reducible refine gate_dst (N := 1) rfl ?_); refine box_event ?hg (N := 1) ?hd (cs := #[.int .i64 a0_0, .slice A0_1 l0_1.length c0_1, .int .i64 a0_2]) (t := 25) ?hr ?_; (case hd => rfl); (case hg => rfl); (case hr => first | (go_simp; done) | (go_simp; rfl)); intro gb7001 hg w9 hbox hb; have n0_ := Aside0.mk (below_step (by repeat (first | exact HB.out | apply below_alloc | apply pw_below_drewN | apply below_drew1)) hb); have n1_ := Aside0.mk (hbox); have n2_ := Aside0.mk ((by rw [hg]; exact (below_size (by repeat (first | exact HB.out | apply below_alloc | apply pw_below_drewN | apply below_drew1))) : w.heap.size ≤ gb7001)); have n3_ := Aside0.mk ((by rw [hg]; exact (below_size (by repeat (first | exact HB.out | apply below_alloc | apply pw_below_drewN | apply below_drew1))) : w.heap.size ≤ gb7001)); clear HB; have HB := n0_; have BK7001 := n1_; have GW7001 := n2_; have GE7001 := n3_; clear n0_ n1_ n2_ n3_; clear hb hbox hg; have hcz10_0 : w9.cell? ⟨gb7001, 0, none⟩ = some (.int .i64 a0_0) := (blk_cell BK7001.out 0).trans rfl; have hcz10_1 : w9.cell? ⟨gb7001, 1, none⟩ = some (.slice A0_1 l0_1.length c0_1) := (blk_cell BK7001.out 1).trans rfl; have hcz10_2 : w9.cell? ⟨gb7001, 2, none⟩ = some (.int .i64 a0_2) := (blk_cell BK7001.out 2).trans rfl; have hfz10_0 := blk_frozen BK7001.out 0; have hfz10_1 := blk_frozen BK7001.out 1; have hfz10_2 := blk_frozen BK7001.out 2) | ((with_reducible refine gate_callee (f := 20) rfl ?_); refine goesL_ (some 9) rfl rfl Try.func20 (by kernel_rfl) rfl #[.slice (some ⟨_, 0, none⟩) 1 1] rfl (by (try simp only [List.map_toArray, List.map_cons, List.map_nil]); first | done | rfl | (simp only [List.length_drop, List.length_take]; rfl)) ?_; (with_reducible refine (papermilllaw52_few_1.calls k a0_0 _ _ l0_1 a0_2 true _ ?side1 ?side2 A2.out).mono ?_); (case side1 => exact (Kd.C_below HR0_1.out HB.out)); (case side2 => exact HC0_1.out); rintro e w11 ⟨rfl, hb⟩; refine ⟨_, rfl, ?_⟩; have n0_ := Aside0.mk (blk_below (g := gb7001) (o := .cells #[.int .i64 a0_0, .slice A0_1 l0_1.length c0_1, .int .i64 a0_2] 25 (0, 0)) (by exact BK7001.out) hb); have n1_ := Aside0.mk (below_step (by repeat (first | exact HB.out | apply below_alloc | apply pw_below_drewN | apply below_drew1 | refine below_set ?_ GE7001.out)) hb); clear BK7001; clear HB; have BK7001 := n0_; have HB := n1_; clear n0_ n1_; (try clear hb); (try clear hb2); (try clear hk); (try clear hi); have hcz12_0 : w11.cell? ⟨gb7001, 0, none⟩ = some (.int .i64 a0_0) := (blk_cell BK7001.out 0).trans rfl; have hcz12_1 : w11.cell? ⟨gb7001, 1, none⟩ = some (.slice A0_1 l0_1.length c0_1) := (blk_cell BK7001.out 1).trans rfl; have hcz12_2 : w11.cell? ⟨gb7001, 2, none⟩ = some (.int .i64 a0_2) := (blk_cell BK7001.out 2).trans rfl; have hfz12_0 := blk_frozen BK7001.out 0; have hfz12_1 := blk_frozen BK7001.out 1; have hfz12_2 := blk_frozen BK7001.out 2) | ((with_reducible refine gate_callee (f := 23) rfl ?_); refine goesL_ (some 14) rfl rfl Try.func23 (by kernel_rfl) rfl #[.agg #[.int .i64 a0_0, .slice A0_1 l0_1.length c0_1, .int .i64 a0_2]] rfl (by (try simp only [List.map_toArray, List.map_cons, List.map_nil]); first | done | rfl | (simp only [List.length_drop, List.length_take]; rfl)) ?_; (with_reducible refine (sheet_Good.calls k a0_0 _ _ l0_1 a0_2 t7003 t7004 _ ?side1 ?side2 A4.out).mono ?_); (case side1 => exact (Kd.C_below HR0_1.out HB.out)); (case side2 => exact HC0_1.out); rintro e w13 ⟨rfl, hb⟩; refine ⟨_, rfl, ?_⟩; have n0_ := Aside0.mk (blk_below (g := gb7001) (o := .cells #[.int .i64 a0_0, .slice A0_1 l0_1.length c0_1, .int .i64 a0_2] 25 (0, 0)) (by exact BK7001.out) hb); have n1_ := Aside0.mk (below_step (by repeat (first | exact HB.out | apply below_alloc | apply pw_below_drewN | apply below_drew1 | refine below_set ?_ GE7001.out)) hb); clear BK7001; clear HB; have BK7001 := n0_; have HB := n1_; clear n0_ n1_; (try clear hb); (try clear hb2); (try clear hk); (try clear hi); have hcz14_0 : w13.cell? ⟨gb7001, 0, none⟩ = some (.int .i64 a0_0) := (blk_cell BK7001.out 0).trans rfl; have hcz14_1 : w13.cell? ⟨gb7001, 1, none⟩ = some (.slice A0_1 l0_1.length c0_1) := (blk_cell BK7001.out 1).trans rfl; have hcz14_2 : w13.cell? ⟨gb7001, 2, none⟩ = some (.int .i64 a0_2) := (blk_cell BK7001.out 2).trans rfl; have hfz14_0 := blk_frozen BK7001.out 0; have hfz14_1 := blk_frozen BK7001.out 1; have hfz14_2 := blk_frozen BK7001.out 2) | ((with_reducible refine gate_callee (f := 24) rfl ?_); refine goesL_ (some 19) rfl rfl Try.func24 (by kernel_rfl) rfl #[.agg #[.int .i64 a0_0, .slice A0_1 l0_1.length c0_1, .int .i64 a0_2]] rfl (by (try simp only [List.map_toArray, List.map_cons, List.map_nil]); first | done | rfl | (simp only [List.length_drop, List.length_take]; rfl)) ?_; (with_reducible refine (papermillref52_Good.calls k a0_0 _ _ l0_1 a0_2 t7005 t7006 _ ?side1 ?side2 A5.out).mono ?_); (case side1 => exact (Kd.C_below HR0_1.out HB.out)); (case side2 => exact HC0_1.out); rintro e w15 ⟨rfl, hb⟩; refine ⟨_, rfl, ?_⟩; have n0_ := Aside0.mk (blk_below (g := gb7001) (o := .cells #[.int .i64 a0_0, .slice A0_1 l0_1.length c0_1, .int .i64 a0_2] 25 (0, 0)) (by exact BK7001.out) hb); have n1_ := Aside0.mk (below_step (by repeat (first | exact HB.out | apply below_alloc | apply pw_below_drewN | apply below_drew1 | refine below_set ?_ GE7001.out)) hb); clear BK7001; clear HB; have BK7001 := n0_; have HB := n1_; clear n0_ n1_; (try clear hb); (try clear hb2); (try clear hk); (try clear hi)) | (go_at_call 12; (with_reducible refine (papermilllaw52_awake.calls  t7007 _ A8.out).mono ?_); rintro e w16 ⟨rfl, hb⟩; have n0_ := Aside0.mk (blk_below (g := gb7001) (o := .cells #[.int .i64 a0_0, .slice A0_1 l0_1.length c0_1, .int .i64 a0_2] 25 (0, 0)) (by exact BK7001.out) hb); have n1_ := Aside0.mk (below_step (by repeat (first | exact HB.out | apply below_alloc | apply pw_below_drewN | apply below_drew1 | refine below_set ?_ GE7001.out)) hb); clear BK7001; clear HB; have BK7001 := n0_; have HB := n1_; clear n0_ n1_; (try clear hb); (try clear hb2); (try clear hk); (try clear hi)))
    go_ret
    exact ⟨by first | rfl | (simp [errW_none, errW_some] <;> rfl) | (simp [*, errW_none, errW_some] <;> rfl), by repeat (first | exact HB.out | apply below_alloc | apply pw_below_drewN | apply below_drew1 | refine below_set ?_ GE7001.out)⟩
   ·rw [if_neg c7] at H
    have c7b0 : (t7004 == t7006) = false := beq_eq_false_iff_ne.mpr c7
    have c7b1 : (t7004 != t7006) = true := bne_iff_ne.mpr c7
    obtain rfl := Option.some.inj H
    go_enter Try.func6, Try.ntmps6
    go_wp2_with (first | ((with_reducible refine gate_dst (N := 1) rfl ?_); refine box_event ?hg (N := 1) ?hd (cs := #[.int .i64 a0_0, .slice A0_1 l0_1.length c0_1, .int .i64 a0_2]) (t := 25) ?hr ?_; (case hd => rfl); (case hg => rfl); (case hr => first | (go_simp; done) | (go_simp; rfl)); intro gb7001 hg w17 hbox hb; have n0_ := Aside0.mk (below_step (by repeat (first | exact HB.out | apply below_alloc | apply pw_below_drewN | apply below_drew1)) hb); have n1_ := Aside0.mk (hbox); have n2_ := Aside0.mk ((by rw [hg]; exact (below_size (by repeat (first | exact HB.out | apply below_alloc | apply pw_below_drewN | apply below_drew1))) : w.heap.size ≤ gb7001)); have n3_ := Aside0.mk ((by rw [hg]; exact (below_size (by repeat (first | exact HB.out | apply below_alloc | apply pw_below_drewN | apply below_drew1))) : w.heap.size ≤ gb7001)); clear HB; have HB := n0_; have BK7001 := n1_; have GW7001 := n2_; have GE7001 := n3_; clear n0_ n1_ n2_ n3_; clear hb hbox hg; have hcz18_0 : w17.cell? ⟨gb7001, 0, none⟩ = some (.int .i64 a0_0) := (blk_cell BK7001.out 0).trans rfl; have hcz18_1 : w17.cell? ⟨gb7001, 1, none⟩ = some (.slice A0_1 l0_1.length c0_1) := (blk_cell BK7001.out 1).trans rfl; have hcz18_2 : w17.cell? ⟨gb7001, 2, none⟩ = some (.int .i64 a0_2) := (blk_cell BK7001.out 2).trans rfl; have hfz18_0 := blk_frozen BK7001.out 0; have hfz18_1 := blk_frozen BK7001.out 1; have hfz18_2 := blk_frozen BK7001.out 2) | ((with_reducible refine gate_callee (f := 20) rfl ?_); refine goesL_ (some 9) rfl rfl Try.func20 (by kernel_rfl) rfl #[.slice (some ⟨_, 0, none⟩) 1 1] rfl (by (try simp only [List.map_toArray, List.map_cons, List.map_nil]); first | done | rfl | (simp only [List.length_drop, List.length_take]; rfl)) ?_; (with_reducible refine (papermilllaw52_few_1.calls k a0_0 _ _ l0_1 a0_2 true _ ?side1 ?side2 A2.out).mono ?_); (case side1 => exact (Kd.C_below HR0_1.out HB.out)); (case side2 => exact HC0_1.out); rintro e w19 ⟨rfl, hb⟩; refine ⟨_, rfl, ?_⟩; have n0_ := Aside0.mk (blk_below (g := gb7001) (o := .cells #[.int .i64 a0_0, .slice A0_1 l0_1.length c0_1, .int .i64 a0_2] 25 (0, 0)) (by exact BK7001.out) hb); have n1_ := Aside0.mk (below_step (by repeat (first | exact HB.out | apply below_alloc | apply pw_below_drewN | apply below_drew1 | refine below_set ?_ GE7001.out)) hb); clear BK7001; clear HB; have BK7001 := n0_; have HB := n1_; clear n0_ n1_; (try clear hb); (try clear hb2); (try clear hk); (try clear hi); have hcz20_0 : w19.cell? ⟨gb7001, 0, none⟩ = some (.int .i64 a0_0) := (blk_cell BK7001.out 0).trans rfl; have hcz20_1 : w19.cell? ⟨gb7001, 1, none⟩ = some (.slice A0_1 l0_1.length c0_1) := (blk_cell BK7001.out 1).trans rfl; have hcz20_2 : w19.cell? ⟨gb7001, 2, none⟩ = some (.int .i64 a0_2) := (blk_cell BK7001.out 2).trans rfl; have hfz20_0 := blk_frozen BK7001.out 0; have hfz20_1 := blk_frozen BK7001.out 1; have hfz20_2 := blk_frozen BK7001.out 2) | ((with_reducible refine gate_callee (f := 23) rfl ?_); refine goesL_ (some 14) rfl rfl Try.func23 (by kernel_rfl) rfl #[.agg #[.int .i64 a0_0, .slice A0_1 l0_1.length c0_1, .int .i64 a0_2]] rfl (by (try simp only [List.map_toArray, List.map_cons, List.map_nil]); first | done | rfl | (simp only [List.length_drop, List.length_take]; rfl)) ?_; (with_reducible refine (sheet_Good.calls k a0_0 _ _ l0_1 a0_2 t7003 t7004 _ ?side1 ?side2 A4.out).mono ?_); (case side1 => exact (Kd.C_below HR0_1.out HB.out)); (case side2 => exact HC0_1.out); rintro e w21 ⟨rfl, hb⟩; refine ⟨_, rfl, ?_⟩; have n0_ := Aside0.mk (blk_below (g := gb7001) (o := .cells #[.int .i64 a0_0, .slice A0_1 l0_1.length c0_1, .int .i64 a0_2] 25 (0, 0)) (by exact BK7001.out) hb); have n1_ := Aside0.mk (below_step (by repeat (first | exact HB.out | apply below_alloc | apply pw_below_drewN | apply below_drew1 | refine below_set ?_ GE7001.out)) hb); clear BK7001; clear HB; have BK7001 := n0_; have HB := n1_; clear n0_ n1_; (try clear hb); (try clear hb2); (try clear hk); (try clear hi); have hcz22_0 : w21.cell? ⟨gb7001, 0, none⟩ = some (.int .i64 a0_0) := (blk_cell BK7001.out 0).trans rfl; have hcz22_1 : w21.cell? ⟨gb7001, 1, none⟩ = some (.slice A0_1 l0_1.length c0_1) := (blk_cell BK7001.out 1).trans rfl; have hcz22_2 : w21.cell? ⟨gb7001, 2, none⟩ = some (.int .i64 a0_2) := (blk_cell BK7001.out 2).trans rfl; have hfz22_0 := blk_frozen BK7001.out 0; have hfz22_1 := blk_frozen BK7001.out 1; have hfz22_2 := blk_frozen BK7001.out 2) | ((with_reducible refine gate_callee (f := 24) rfl ?_); refine goesL_ (some 19) rfl rfl Try.func24 (by kernel_rfl) rfl #[.agg #[.int .i64 a0_0, .slice A0_1 l0_1.length c0_1, .int .i64 a0_2]] rfl (by (try simp only [List.map_toArray, List.map_cons, List.map_nil]); first | done | rfl | (simp only [List.length_drop, List.length_take]; rfl)) ?_; (with_reducible refine (papermillref52_Good.calls k a0_0 _ _ l0_1 a0_2 t7005 t7006 _ ?side1 ?side2 A5.out).mono ?_); (case side1 => exact (Kd.C_below HR0_1.out HB.out)); (case side2 => exact HC0_1.out); rintro e w23 ⟨rfl, hb⟩; refine ⟨_, rfl, ?_⟩; have n0_ := Aside0.mk (blk_below (g := gb7001) (o := .cells #[.int .i64 a0_0, .slice A0_1 l0_1.length c0_1, .int .i64 a0_2] 25 (0, 0)) (by exact BK7001.out) hb); have n1_ := Aside0.mk (below_step (by repeat (first | exact HB.out | apply below_alloc | apply pw_below_drewN | apply below_drew1 | refine below_set ?_ GE7001.out)) hb); clear BK7001; clear HB; have BK7001 := n0_; have HB := n1_; clear n0_ n1_; (try clear hb); (try clear hb2); (try clear hk); (try clear hi)))
    go_ret
    exact ⟨by first | rfl | (simp [errW_none, errW_some] <;> rfl) | (simp [*, errW_none, errW_some] <;> rfl), by repeat (first | exact HB.out | apply below_alloc | apply pw_below_drewN | apply below_drew1 | refine below_set ?_ GE7001.out)⟩
  ·rw [if_neg c6] at H
   have c6b0 : (t7003 == t7005) = false := beq_eq_false_iff_ne.mpr c6
   have c6b1 : (t7003 != t7005) = true := bne_iff_ne.mpr c6
   obtain rfl := Option.some.inj H
   go_enter Try.func6, Try.ntmps6
   go_wp2_with (first | ((with_reducible refine gate_dst (N := 1) rfl ?_); refine box_event ?hg (N := 1) ?hd (cs := #[.int .i64 a0_0, .slice A0_1 l0_1.length c0_1, .int .i64 a0_2]) (t := 25) ?hr ?_; (case hd => rfl); (case hg => rfl); (case hr => first | (go_simp; done) | (go_simp; rfl)); intro gb7001 hg w24 hbox hb; have n0_ := Aside0.mk (below_step (by repeat (first | exact HB.out | apply below_alloc | apply pw_below_drewN | apply below_drew1)) hb); have n1_ := Aside0.mk (hbox); have n2_ := Aside0.mk ((by rw [hg]; exact (below_size (by repeat (first | exact HB.out | apply below_alloc | apply pw_below_drewN | apply below_drew1))) : w.heap.size ≤ gb7001)); have n3_ := Aside0.mk ((by rw [hg]; exact (below_size (by repeat (first | exact HB.out | apply below_alloc | apply pw_below_drewN | apply below_drew1))) : w.heap.size ≤ gb7001)); clear HB; have HB := n0_; have BK7001 := n1_; have GW7001 := n2_; have GE7001 := n3_; clear n0_ n1_ n2_ n3_; clear hb hbox hg; have hcz25_0 : w24.cell? ⟨gb7001, 0, none⟩ = some (.int .i64 a0_0) := (blk_cell BK7001.out 0).trans rfl; have hcz25_1 : w24.cell? ⟨gb7001, 1, none⟩ = some (.slice A0_1 l0_1.length c0_1) := (blk_cell BK7001.out 1).trans rfl; have hcz25_2 : w24.cell? ⟨gb7001, 2, none⟩ = some (.int .i64 a0_2) := (blk_cell BK7001.out 2).trans rfl; have hfz25_0 := blk_frozen BK7001.out 0; have hfz25_1 := blk_frozen BK7001.out 1; have hfz25_2 := blk_frozen BK7001.out 2) | ((with_reducible refine gate_callee (f := 20) rfl ?_); refine goesL_ (some 9) rfl rfl Try.func20 (by kernel_rfl) rfl #[.slice (some ⟨_, 0, none⟩) 1 1] rfl (by (try simp only [List.map_toArray, List.map_cons, List.map_nil]); first | done | rfl | (simp only [List.length_drop, List.length_take]; rfl)) ?_; (with_reducible refine (papermilllaw52_few_1.calls k a0_0 _ _ l0_1 a0_2 true _ ?side1 ?side2 A2.out).mono ?_); (case side1 => exact (Kd.C_below HR0_1.out HB.out)); (case side2 => exact HC0_1.out); rintro e w26 ⟨rfl, hb⟩; refine ⟨_, rfl, ?_⟩; have n0_ := Aside0.mk (blk_below (g := gb7001) (o := .cells #[.int .i64 a0_0, .slice A0_1 l0_1.length c0_1, .int .i64 a0_2] 25 (0, 0)) (by exact BK7001.out) hb); have n1_ := Aside0.mk (below_step (by repeat (first | exact HB.out | apply below_alloc | apply pw_below_drewN | apply below_drew1 | refine below_set ?_ GE7001.out)) hb); clear BK7001; clear HB; have BK7001 := n0_; have HB := n1_; clear n0_ n1_; (try clear hb); (try clear hb2); (try clear hk); (try clear hi); have hcz27_0 : w26.cell? ⟨gb7001, 0, none⟩ = some (.int .i64 a0_0) := (blk_cell BK7001.out 0).trans rfl; have hcz27_1 : w26.cell? ⟨gb7001, 1, none⟩ = some (.slice A0_1 l0_1.length c0_1) := (blk_cell BK7001.out 1).trans rfl; have hcz27_2 : w26.cell? ⟨gb7001, 2, none⟩ = some (.int .i64 a0_2) := (blk_cell BK7001.out 2).trans rfl; have hfz27_0 := blk_frozen BK7001.out 0; have hfz27_1 := blk_frozen BK7001.out 1; have hfz27_2 := blk_frozen BK7001.out 2) | ((with_reducible refine gate_callee (f := 23) rfl ?_); refine goesL_ (some 14) rfl rfl Try.func23 (by kernel_rfl) rfl #[.agg #[.int .i64 a0_0, .slice A0_1 l0_1.length c0_1, .int .i64 a0_2]] rfl (by (try simp only [List.map_toArray, List.map_cons, List.map_nil]); first | done | rfl | (simp only [List.length_drop, List.length_take]; rfl)) ?_; (with_reducible refine (sheet_Good.calls k a0_0 _ _ l0_1 a0_2 t7003 t7004 _ ?side1 ?side2 A4.out).mono ?_); (case side1 => exact (Kd.C_below HR0_1.out HB.out)); (case side2 => exact HC0_1.out); rintro e w28 ⟨rfl, hb⟩; refine ⟨_, rfl, ?_⟩; have n0_ := Aside0.mk (blk_below (g := gb7001) (o := .cells #[.int .i64 a0_0, .slice A0_1 l0_1.length c0_1, .int .i64 a0_2] 25 (0, 0)) (by exact BK7001.out) hb); have n1_ := Aside0.mk (below_step (by repeat (first | exact HB.out | apply below_alloc | apply pw_below_drewN | apply below_drew1 | refine below_set ?_ GE7001.out)) hb); clear BK7001; clear HB; have BK7001 := n0_; have HB := n1_; clear n0_ n1_; (try clear hb); (try clear hb2); (try clear hk); (try clear hi); have hcz29_0 : w28.cell? ⟨gb7001, 0, none⟩ = some (.int .i64 a0_0) := (blk_cell BK7001.out 0).trans rfl; have hcz29_1 : w28.cell? ⟨gb7001, 1, none⟩ = some (.slice A0_1 l0_1.length c0_1) := (blk_cell BK7001.out 1).trans rfl; have hcz29_2 : w28.cell? ⟨gb7001, 2, none⟩ = some (.int .i64 a0_2) := (blk_cell BK7001.out 2).trans rfl; have hfz29_0 := blk_frozen BK7001.out 0; have hfz29_1 := blk_frozen BK7001.out 1; have hfz29_2 := blk_frozen BK7001.out 2) | ((with_reducible refine gate_callee (f := 24) rfl ?_); refine goesL_ (some 19) rfl rfl Try.func24 (by kernel_rfl) rfl #[.agg #[.int .i64 a0_0, .slice A0_1 l0_1.length c0_1, .int .i64 a0_2]] rfl (by (try simp only [List.map_toArray, List.map_cons, List.map_nil]); first | done | rfl | (simp only [List.length_drop, List.length_take]; rfl)) ?_; (with_reducible refine (papermillref52_Good.calls k a0_0 _ _ l0_1 a0_2 t7005 t7006 _ ?side1 ?side2 A5.out).mono ?_); (case side1 => exact (Kd.C_below HR0_1.out HB.out)); (case side2 => exact HC0_1.out); rintro e w30 ⟨rfl, hb⟩; refine ⟨_, rfl, ?_⟩; have n0_ := Aside0.mk (blk_below (g := gb7001) (o := .cells #[.int .i64 a0_0, .slice A0_1 l0_1.length c0_1, .int .i64 a0_2] 25 (0, 0)) (by exact BK7001.out) hb); have n1_ := Aside0.mk (below_step (by repeat (first | exact HB.out | apply below_alloc | apply pw_below_drewN | apply below_drew1 | refine below_set ?_ GE7001.out)) hb); clear BK7001; clear HB; have BK7001 := n0_; have HB := n1_; clear n0_ n1_; (try clear hb); (try clear hb2); (try clear hk); (try clear hi)))
   go_ret
   exact ⟨by first | rfl | (simp [errW_none, errW_some] <;> rfl) | (simp [*, errW_none, errW_some] <;> rfl), by repeat (first | exact HB.out | apply below_alloc | apply pw_below_drewN | apply below_drew1 | refine below_set ?_ GE7001.out)⟩
 ·replace c3 := Bool.eq_false_iff.mpr c3
  subst c3
  have H1 : ((papermilllaw52_awake.f).bind fun t7008 => (some t7008)) = some r := by rw [if_neg (show ¬ (false = true) by decide)] at H; first | exact H | simpa using H
  clear H
  have H := H1
  clear H1
  replace H := Option.bind_eq_some_iff.mp H
  obtain ⟨t7008, A310, H⟩ := H
  replace H : (some t7008) = some r := H
  have A31 := Aside0.mk A310
  clear A310
  obtain rfl := Option.some.inj H
  go_enter Try.func6, Try.ntmps6
  go_wp2_with (first | ((with_reducible refine gate_dst (N := 1) rfl ?_); refine box_event ?hg (N := 1) ?hd (cs := #[.int .i64 a0_0, .slice A0_1 l0_1.length c0_1, .int .i64 a0_2]) (t := 25) ?hr ?_; (case hd => rfl); (case hg => rfl); (case hr => first | (go_simp; done) | (go_simp; rfl)); intro gb7001 hg w32 hbox hb; have n0_ := Aside0.mk (below_step (by repeat (first | exact HB.out | apply below_alloc | apply pw_below_drewN | apply below_drew1)) hb); have n1_ := Aside0.mk (hbox); have n2_ := Aside0.mk ((by rw [hg]; exact (below_size (by repeat (first | exact HB.out | apply below_alloc | apply pw_below_drewN | apply below_drew1))) : w.heap.size ≤ gb7001)); have n3_ := Aside0.mk ((by rw [hg]; exact (below_size (by repeat (first | exact HB.out | apply below_alloc | apply pw_below_drewN | apply below_drew1))) : w.heap.size ≤ gb7001)); clear HB; have HB := n0_; have BK7001 := n1_; have GW7001 := n2_; have GE7001 := n3_; clear n0_ n1_ n2_ n3_; clear hb hbox hg; have hcz33_0 : w32.cell? ⟨gb7001, 0, none⟩ = some (.int .i64 a0_0) := (blk_cell BK7001.out 0).trans rfl; have hcz33_1 : w32.cell? ⟨gb7001, 1, none⟩ = some (.slice A0_1 l0_1.length c0_1) := (blk_cell BK7001.out 1).trans rfl; have hcz33_2 : w32.cell? ⟨gb7001, 2, none⟩ = some (.int .i64 a0_2) := (blk_cell BK7001.out 2).trans rfl; have hfz33_0 := blk_frozen BK7001.out 0; have hfz33_1 := blk_frozen BK7001.out 1; have hfz33_2 := blk_frozen BK7001.out 2) | ((with_reducible refine gate_callee (f := 20) rfl ?_); refine goesL_ (some 9) rfl rfl Try.func20 (by kernel_rfl) rfl #[.slice (some ⟨_, 0, none⟩) 1 1] rfl (by (try simp only [List.map_toArray, List.map_cons, List.map_nil]); first | done | rfl | (simp only [List.length_drop, List.length_take]; rfl)) ?_; (with_reducible refine (papermilllaw52_few_1.calls k a0_0 _ _ l0_1 a0_2 false _ ?side1 ?side2 A2.out).mono ?_); (case side1 => exact (Kd.C_below HR0_1.out HB.out)); (case side2 => exact HC0_1.out); rintro e w34 ⟨rfl, hb⟩; refine ⟨_, rfl, ?_⟩; have n0_ := Aside0.mk (blk_below (g := gb7001) (o := .cells #[.int .i64 a0_0, .slice A0_1 l0_1.length c0_1, .int .i64 a0_2] 25 (0, 0)) (by exact BK7001.out) hb); have n1_ := Aside0.mk (below_step (by repeat (first | exact HB.out | apply below_alloc | apply pw_below_drewN | apply below_drew1 | refine below_set ?_ GE7001.out)) hb); clear BK7001; clear HB; have BK7001 := n0_; have HB := n1_; clear n0_ n1_; (try clear hb); (try clear hb2); (try clear hk); (try clear hi)) | ((with_reducible refine gate_callee (f := 12) rfl ?_); refine goesL_ (some 11) rfl rfl Try.func12 (by kernel_rfl) rfl #[] rfl (by (try simp only [List.map_toArray, List.map_cons, List.map_nil]); first | done | rfl | (simp only [List.length_drop, List.length_take]; rfl)) ?_; (with_reducible refine (papermilllaw52_awake.calls  t7008 _ A31.out).mono ?_); rintro e w35 ⟨rfl, hb⟩; refine ⟨_, rfl, ?_⟩; have n0_ := Aside0.mk (blk_below (g := gb7001) (o := .cells #[.int .i64 a0_0, .slice A0_1 l0_1.length c0_1, .int .i64 a0_2] 25 (0, 0)) (by exact BK7001.out) hb); have n1_ := Aside0.mk (below_step (by repeat (first | exact HB.out | apply below_alloc | apply pw_below_drewN | apply below_drew1 | refine below_set ?_ GE7001.out)) hb); clear BK7001; clear HB; have BK7001 := n0_; have HB := n1_; clear n0_ n1_; (try clear hb); (try clear hb2); (try clear hk); (try clear hi)))
  go_ret
  exact ⟨by first | rfl | (simp [errW_none, errW_some] <;> rfl) | (simp [*, errW_none, errW_some] <;> rfl), by repeat (first | exact HB.out | apply below_alloc | apply pw_below_drewN | apply below_drew1 | refine below_set ?_ GE7001.out)⟩

end Go.Proofs.Ytnfcpcgbdoiiiaa.G

namespace Go.Proofs.Ytnfcpcgbdoiiiaa.G
open Go.RowKit Go.Proofs.YtnfcpcgbdoiiiaaW.PrintWords Go.Proofs.YtnfcpcgbdoiiiaaW.PrintLast Go.Proofs.YtnfcpcgbdoiiiaaW.PrintMore
set_option linter.unusedVariables false
set_option linter.unusedSimpArgs false
theorem rtnorm_ends (l : List S50) : Ends (fun k => papermillref04_Norm.f k l) (bothOf l [] 0) := by
  unfold papermillref04_Norm.f
  exact Ends.bind (both_ends l [] 0 (.inl rfl)) (Ends.ret _)
theorem rone_j (c : Int) (g : List S50) (r : Int) (b : Bool) (hb : b = decide (c < 0 ∨ c > 17179869184)) : Ends (fun k => papermillref52_one.j0 k b c g r) (oneOf c g) := by
  refine Ends.succ ?_
  simp only [papermillref52_one.j0]
  unfold oneOf
  by_cases h : c < 0 ∨ c > 17179869184
  · exact (Ends.pos (by rw [hb]; simpa using h) (Ends.ret _)).congr (by rw [if_pos h])
  · rw [if_neg h]
    refine Ends.neg (by rw [hb]; simpa using h) (Ends.bind (check04_ends g) ?_)
    by_cases h0 : check04 g = 0
    · obtain ⟨g0, v0⟩ := good04 h0
      have n0 := joinOf_len g (-1) (fun s hs => by have := v0 s hs; omega)
      refine Ends.pos h0 (Ends.bind (rtnorm_ends g) ?_)
      rw [norm_fits h0, if_pos h0]
      refine Ends.bind (rspans_ends (joinOf g) g (by omega)) ?_
      cases hs : sameL (joinOf g) g with
      | false => exact (Ends.neg (by simp) (Ends.ret _)).congr (by simp)
      | true =>
        refine Ends.pos rfl ?_
        rw [if_pos rfl]
        unfold overOf
        by_cases hl : 0 < (joinOf g).length
        · rw [if_pos hl]
          simp only [wrap_pred (joinOf g).length (by omega) (by omega)]
          refine Ends.pos (by omega) (Ends.pos (by omega) (Ends.pos (by omega) ?_))
          by_cases ho : (rd_T50 (joinOf g) (((joinOf g).length - 1 : Nat) : Int)).f1 > c
          · exact (Ends.pos ho (Ends.ret _)).congr (by rw [if_pos ho])
          · exact (Ends.neg ho (Ends.ret _)).congr (by rw [if_neg ho])
        · exact (Ends.neg (show ¬ ((joinOf g).length : Int) > 0 by omega) (Ends.ret _)).congr (by rw [if_neg hl])
    · rw [if_neg h0]
      exact Ends.neg h0 (Ends.ret _)
theorem rone_ends (c : Int) (g : List S50) (r : Int) : Ends (fun k => papermillref52_one.f k c g r) (oneOf c g) := by
  unfold papermillref52_one.f
  by_cases h : c < 0
  · exact Ends.pos h (rone_j c g r true (by simp [h]))
  · exact Ends.neg h (rone_j c g r _ (by simp [h]))
theorem rtotal_l0 (l : List S50) (e : Int) (hl : l.length ≤ 1000) (hv : ∀ s ∈ l, 0 ≤ s.f0 ∧ s.f0 ≤ s.f1 ∧ s.f1 ≤ 17179869184) : ∀ (d i : Nat) (n : Int), l.length - i = d → i ≤ l.length → 0 ≤ n → n ≤ i * 17179869184 → Ends (fun k => papermillref04_Total.l0 k l e n (i : Int)) (n + tot (l.drop i), e) := by
  intro d
  induction d with
  | zero =>
    intro i n hd hi h0 h1
    refine Ends.succ ?_
    simp only [papermillref04_Total.l0]
    rw [List.drop_of_length_le (by omega)]
    exact Ends.neg (by omega) ((Ends.ret _).congr (by simp [tot]))
  | succ d ih =>
    intro i n hd hi h0 h1
    refine Ends.succ ?_
    have hx := hv (rd_T50 l (i : Int)) (by rw [rd36 l i (by omega)]; exact List.getElem_mem _)
    rw [drop36 l i (by omega), tot_cons]
    simp only [papermillref04_Total.l0, wrap_nat i (by omega)]
    generalize rd_T50 l (i : Int) = s at *
    have e1 : wrap64 (n + s.f1) = n + s.f1 := by unfold wrap64; omega
    have e2 : wrap64 (n + s.f1 - s.f0) = n + (s.f1 - s.f0) := by unfold wrap64; omega
    simp only [e1, e2]
    exact Ends.pos (by omega) (Ends.pos (by omega) ((ih (i + 1) (n + (s.f1 - s.f0)) (by omega) (by omega) (by omega) (by omega)).congr (by rw [Int.add_assoc])))
theorem rtotal_ends (l : List S50) : Ends (fun k => papermillref04_Total.f k l) (totalOf l) := by
  unfold papermillref04_Total.f totalOf
  refine Ends.bind (rtnorm_ends l) ?_
  by_cases h0 : check04 l = 0
  · rw [norm_fits h0, if_pos h0]
    obtain ⟨g0, v0⟩ := good04 h0
    have n0 := joinOf_len l (-1) (fun s hs => by have := v0 s hs; omega)
    have b0 := joinOf_bound l (-1) 17179869184 (fun s hs => by have := v0 s hs; omega)
    exact (rtotal_l0 (joinOf l) 0 (by omega) (fun s hs => by have := b0 s hs; omega) _ 0 0 rfl (by omega) (by omega) (by omega)).congr (by simp)
  · have e : bothOf l [] 0 = ([], check04 l) := by unfold bothOf; rw [if_neg h0]
    rw [e, if_neg h0]
    exact (rtotal_l0 [] (check04 l) (by simp) (by simp) _ 0 0 rfl (by simp) (by omega) (by omega)).congr (by simp [tot])
theorem rgood_ends (c : Int) (g : List S50) (r : Int) : Ends (fun k => papermillref52_Good.f k c g r) (goodOf c g) := by
  unfold papermillref52_Good.f goodOf
  refine Ends.bind (rone_ends c g r) ?_
  by_cases h : oneOf c g = 0
  · rw [if_pos h]
    exact Ends.pos h (Ends.bind (rtotal_ends g) (Ends.ret _))
  · rw [if_neg h]
    exact Ends.neg h (Ends.ret _)
end Go.Proofs.Ytnfcpcgbdoiiiaa.G
