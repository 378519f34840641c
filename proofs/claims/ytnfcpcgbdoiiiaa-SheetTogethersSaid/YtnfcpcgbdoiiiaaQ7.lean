import Derived.Test.YtnfcpcgbdoiiiaaQ1
import Derived.Test.YtnfcpcgbdoiiiaaQ4
import Derived.Test.YtnfcpcgbdoiiiaaQ6
import Derived.Test.YtnfcpcgbdoiiiaaQ5
namespace Go.Proofs.Ytnfcpcgbdoiiiaa.G
open Go.RowKit Go.Proofs.YtnfcpcgbdoiiiaaW.PrintWords Go.Proofs.YtnfcpcgbdoiiiaaW.PrintLast Go.Proofs.YtnfcpcgbdoiiiaaW.PrintMore
attribute [local go_sem] max2_int min2_int max_two min_two max_three min_three max_four min_four   -- for this text's walks alone
set_option linter.unusedVariables false
set_option linter.unusedSimpArgs false

def papermillref52_one.j0 : Nat → Bool → Int → List (S50) → Int → Option (Int)
 | 0, _, _, _, _ => none
 | k + 1, x13, x42002000, x42002001, x42002002 => if x13 = true then (some 1) else ((papermillref04_Check.f k x42002001).bind fun t42002 => (if t42002 = 0 then ((papermillref04_Norm.f k x42002001).bind fun bt42003 => ((papermillref52_Spans.f k bt42003.1 x42002001).bind fun t42007 => (if t42007 = true then (if (bt42003.1.length : Int) > 0 then (if 0 ≤ (wrap64 ((bt42003.1.length : Int) - 1)) then (if (wrap64 ((bt42003.1.length : Int) - 1)) < (bt42003.1.length : Int) then (if ((rd_T50 bt42003.1 (wrap64 ((bt42003.1.length : Int) - 1))).f1) > x42002000 then (some 1) else (some 0)) else (none)) else (none)) else (some 0)) else (some 9)))) else (some t42002)))
def papermillref52_one.f (k : Nat) (a0_0 : Int) (l0_1 : List (S50)) (a0_2 : Int) : Option (Int) := if a0_0 < 0 then (papermillref52_one.j0 k true a0_0 l0_1 a0_2) else (papermillref52_one.j0 k (decide (a0_0 > 17179869184)) a0_0 l0_1 a0_2)
theorem papermillref52_one.mono_l : ∀ k, (∀ y0 y1 y2 y3, LeO (papermillref52_one.j0 k y0 y1 y2 y3) (papermillref52_one.j0 (k + 1) y0 y1 y2 y3))
 | 0 => fun _ _ _ _ r h => by simp [papermillref52_one.j0] at h
 | k + 1 => by
  have ih0 := papermillref52_one.mono_l k
  ·intro y0 y1 y2 y3
   unfold papermillref52_one.j0
   repeat' first
   | (with_reducible exact ih0 _ _ _ _)
   | (with_reducible exact papermillref04_Check.mono _ _)
   | (with_reducible exact papermillref04_Norm.mono _ _)
   | (with_reducible exact papermillref52_Spans.mono _ _ _)
   | (with_reducible exact LeO.refl _)
   | (with_reducible exact LeO.none _)
   | (with_reducible refine LeO.ite ?_ ?_)
   | (with_reducible refine LeO.bind ?_ (fun _ => ?_))
   | exact ih0 _ _ _ _
   | exact papermillref04_Check.mono _ _
   | exact papermillref04_Norm.mono _ _
   | exact papermillref52_Spans.mono _ _ _
   | exact LeO.none _
   | refine LeO.ite ?_ ?_
   | refine LeO.bind ?_ (fun _ => ?_)
theorem papermillref52_one.mono : ∀ a0 a1 a2 k, LeO (papermillref52_one.f k a0 a1 a2) (papermillref52_one.f (k + 1) a0 a1 a2) := by
 intro a0 a1 a2 k
 have ih0 := papermillref52_one.mono_l k
 unfold papermillref52_one.f
 repeat' first
   | (with_reducible exact ih0 _ _ _ _)
   | (with_reducible exact papermillref04_Check.mono _ _)
   | (with_reducible exact papermillref04_Norm.mono _ _)
   | (with_reducible exact papermillref52_Spans.mono _ _ _)
   | (with_reducible exact LeO.refl _)
   | (with_reducible exact LeO.none _)
   | (with_reducible refine LeO.ite ?_ ?_)
   | (with_reducible refine LeO.bind ?_ (fun _ => ?_))
   | exact ih0 _ _ _ _
   | exact papermillref04_Check.mono _ _
   | exact papermillref04_Norm.mono _ _
   | exact papermillref52_Spans.mono _ _ _
   | exact LeO.none _
   | refine LeO.ite ?_ ?_
   | refine LeO.bind ?_ (fun _ => ?_)
set_option maxHeartbeats 8000000 in
set_option maxRecDepth 100000 in
theorem papermillref52_one.calls (k : Nat) (a0_0 : Int) (A0_1 : Option Addr) (c0_1 : Nat) (l0_1 : List (S50)) (a0_2 : Int) (r : Int) (w : World) (hr0_1 : Kd.C k50 w A0_1 l0_1.length l0_1) (hc0_1 : l0_1.length ≤ c0_1) (h : papermillref52_one.f k a0_0 l0_1 a0_2 = some r) :
  Calls Try.prog 41 #[.agg #[.int .i64 a0_0, .slice A0_1 l0_1.length c0_1, .int .i64 a0_2]] w fun e w' => e = .returned (.int .i64 r) ∧ Below w.heap.size w w' := by
 have hu25 := Try.underlying25
 have HR0_1 := Aside0.mk hr0_1
 have HC0_1 := Aside0.mk hc0_1
 clear hr0_1 hc0_1
 have HB := Aside0.mk (Below.refl w.heap.size w)
 have H : (if a0_0 < 0 then (papermillref52_one.j0 k true a0_0 l0_1 a0_2) else (papermillref52_one.j0 k (decide (a0_0 > 17179869184)) a0_0 l0_1 a0_2)) = some r := h
 clear h
 have HC2 := Aside0.mk H
 clear H
 go_enter Try.func41, Try.ntmps41
 go_upto_region 1 with (first | ((with_reducible refine gate_dst (N := 1) rfl ?_); (try (refine gate_guard (by rfl) ?_; dsimp only)); refine box_event ?hg (N := 1) ?hd (cs := #[.int .i64 a0_0, .slice A0_1 l0_1.length c0_1, .int .i64 a0_2]) (t := 25) ?hr ?_; (case hd => rfl); (case hg => rfl); (case hr => first | (go_simp; done) | (go_simp; rfl)); intro gb42001 hg w3 hbox hb; have n0_ := Aside0.mk (below_step (by repeat (first | exact HB.out | apply below_alloc | apply pw_below_drewN | apply below_drew1)) hb); have n1_ := Aside0.mk (hbox); have n2_ := Aside0.mk ((by rw [hg]; exact (below_size (by repeat (first | exact HB.out | apply below_alloc | apply pw_below_drewN | apply below_drew1))) : w.heap.size ≤ gb42001)); have n3_ := Aside0.mk ((by rw [hg]; exact (below_size (by repeat (first | exact HB.out | apply below_alloc | apply pw_below_drewN | apply below_drew1))) : w.heap.size ≤ gb42001)); clear HB; have HB := n0_; have BK42001 := n1_; have GW42001 := n2_; have GE42001 := n3_; clear n0_ n1_ n2_ n3_; clear hb hbox hg))
 repeat (go_quiet (first | ((with_reducible refine gate_dst (N := 1) rfl ?_); (try (refine gate_guard (by rfl) ?_; dsimp only)); refine box_event ?hg (N := 1) ?hd (cs := #[.int .i64 a0_0, .slice A0_1 l0_1.length c0_1, .int .i64 a0_2]) (t := 25) ?hr ?_; (case hd => rfl); (case hg => rfl); (case hr => first | (go_simp; done) | (go_simp; rfl)); intro gb42001 hg w3 hbox hb; have n0_ := Aside0.mk (below_step (by repeat (first | exact HB.out | apply below_alloc | apply pw_below_drewN | apply below_drew1)) hb); have n1_ := Aside0.mk (hbox); have n2_ := Aside0.mk ((by rw [hg]; exact (below_size (by repeat (first | exact HB.out | apply below_alloc | apply pw_below_drewN | apply below_drew1))) : w.heap.size ≤ gb42001)); have n3_ := Aside0.mk ((by rw [hg]; exact (below_size (by repeat (first | exact HB.out | apply below_alloc | apply pw_below_drewN | apply below_drew1))) : w.heap.size ≤ gb42001)); clear HB; have HB := n0_; have BK42001 := n1_; have GW42001 := n2_; have GE42001 := n3_; clear n0_ n1_ n2_ n3_; clear hb hbox hg)); go_upto_region 1 with (first | ((with_reducible refine gate_dst (N := 1) rfl ?_); (try (refine gate_guard (by rfl) ?_; dsimp only)); refine box_event ?hg (N := 1) ?hd (cs := #[.int .i64 a0_0, .slice A0_1 l0_1.length c0_1, .int .i64 a0_2]) (t := 25) ?hr ?_; (case hd => rfl); (case hg => rfl); (case hr => first | (go_simp; done) | (go_simp; rfl)); intro gb42001 hg w3 hbox hb; have n0_ := Aside0.mk (below_step (by repeat (first | exact HB.out | apply below_alloc | apply pw_below_drewN | apply below_drew1)) hb); have n1_ := Aside0.mk (hbox); have n2_ := Aside0.mk ((by rw [hg]; exact (below_size (by repeat (first | exact HB.out | apply below_alloc | apply pw_below_drewN | apply below_drew1))) : w.heap.size ≤ gb42001)); have n3_ := Aside0.mk ((by rw [hg]; exact (below_size (by repeat (first | exact HB.out | apply below_alloc | apply pw_below_drewN | apply below_drew1))) : w.heap.size ≤ gb42001)); clear HB; have HB := n0_; have BK42001 := n1_; have GW42001 := n2_; have GE42001 := n3_; clear n0_ n1_ n2_ n3_; clear hb hbox hg)))
 (try simp only [Act.put, List.setIfInBounds_toArray, List.set_cons_zero, List.set_cons_succ])
 go_cut [13] (fun v13 wc => ∃ (kq : Nat) (x13_1 : Bool), v13 = .bool x13_1 ∧ Aside0 (papermillref52_one.j0 kq x13_1 a0_0 l0_1 a0_2 = some r) ∧ Aside0 (kq ≤ k) ∧ Aside0 (wc.heap[gb42001]? = some (.cells #[.int .i64 a0_0, (.slice A0_1 l0_1.length c0_1), .int .i64 a0_2] 25 (0, 0))) ∧ Aside0 (Below w.heap.size w wc))
 case first =>
  have H := HC2.out
  clear HC2
  by_cases c4 : a0_0 < 0
  ·rw [if_pos c4] at H
   have c4b0 : decide (a0_0 < 0) = true := decide_eq_true c4
   clear c4
   (first | rw [c4b0] | (simp only [i64_w, i32_w]; rw [c4b0]) | skip)
   have H' := Aside0.mk H
   clear H
   have hcz5_0 : w3.cell? ⟨gb42001, 0, none⟩ = some (.int .i64 a0_0) := (blk_cell BK42001.out 0).trans rfl
   have hcz5_1 : w3.cell? ⟨gb42001, 1, none⟩ = some (.slice A0_1 l0_1.length c0_1) := (blk_cell BK42001.out 1).trans rfl
   have hcz5_2 : w3.cell? ⟨gb42001, 2, none⟩ = some (.int .i64 a0_2) := (blk_cell BK42001.out 2).trans rfl
   have hfz5_0 := blk_frozen BK42001.out 0
   have hfz5_1 := blk_frozen BK42001.out 1
   have hfz5_2 := blk_frozen BK42001.out 2
   go_wp2
   repeat (go_quiet (fail); try go_wp2)
   go_meet
   case rel => exact ⟨_, (true), (by first | rfl | (simp; done) | (simp [*]; done)), H', ⟨by first | omega | exact Nat.le_refl _⟩, ⟨by exact BK42001.out⟩, ⟨by repeat (first | exact HB.out | apply below_alloc | apply pw_below_drewN | apply below_drew1 | refine below_set ?_ GE42001.out)⟩⟩
  ·rw [if_neg c4] at H
   have c4b0 : decide (a0_0 < 0) = false := decide_eq_false c4
   clear c4
   (first | rw [c4b0] | (simp only [i64_w, i32_w]; rw [c4b0]) | skip)
   have H' := Aside0.mk H
   clear H
   have hcz6_0 : w3.cell? ⟨gb42001, 0, none⟩ = some (.int .i64 a0_0) := (blk_cell BK42001.out 0).trans rfl
   have hcz6_1 : w3.cell? ⟨gb42001, 1, none⟩ = some (.slice A0_1 l0_1.length c0_1) := (blk_cell BK42001.out 1).trans rfl
   have hcz6_2 : w3.cell? ⟨gb42001, 2, none⟩ = some (.int .i64 a0_2) := (blk_cell BK42001.out 2).trans rfl
   have hfz6_0 := blk_frozen BK42001.out 0
   have hfz6_1 := blk_frozen BK42001.out 1
   have hfz6_2 := blk_frozen BK42001.out 2
   go_wp2
   repeat (go_quiet (fail); try go_wp2)
   go_meet
   case rel => exact ⟨_, (decide (a0_0 > 17179869184)), (by first | rfl | (simp; done) | (simp [*]; done)), H', ⟨by first | omega | exact Nat.le_refl _⟩, ⟨by exact BK42001.out⟩, ⟨by repeat (first | exact HB.out | apply below_alloc | apply pw_below_drewN | apply below_drew1 | refine below_set ?_ GE42001.out)⟩⟩
 case rest =>
  clear HC2
  try clear p2
  try clear c4
  try clear c4b0
  try clear hcz5_0
  try clear hcz5_1
  try clear hcz5_2
  try clear hcz6_0
  try clear hcz6_1
  try clear hcz6_2
  try clear hfz5_0
  try clear hfz5_1
  try clear hfz5_2
  try clear hfz6_0
  try clear hfz6_1
  try clear hfz6_2
  obtain ⟨kq, x13_1, rfl, HA, HJ1, BK42001, HB⟩ := hcut
  cases kq with
  | zero => exact absurd HA.out (by simp [papermillref52_one.j0])
  | succ kj1 =>
   have H := HA.out
   clear HA
   simp only [papermillref52_one.j0] at H
   by_cases c7 : x13_1 = true
   ·subst c7
    have H1 : (some 1) = some r := by rw [if_pos rfl] at H; exact H
    clear H
    have H := H1
    clear H1
    obtain rfl := Option.some.inj H
    go_wp2
    repeat (go_quiet (fail); try go_wp2)
    go_ret
    exact ⟨by first | rfl | (simp [errW_none, errW_some] <;> rfl) | (simp [*, errW_none, errW_some] <;> rfl), by repeat (first | exact HB.out | apply below_alloc | apply pw_below_drewN | apply below_drew1 | refine below_set ?_ GE42001.out)⟩
   ·replace c7 := Bool.eq_false_iff.mpr c7
    subst c7
    have H1 : ((papermillref04_Check.f kj1 l0_1).bind fun t42002 => (if t42002 = 0 then ((papermillref04_Norm.f kj1 l0_1).bind fun bt42003 => ((papermillref52_Spans.f kj1 bt42003.1 l0_1).bind fun t42007 => (if t42007 = true then (if (bt42003.1.length : Int) > 0 then (if 0 ≤ (wrap64 ((bt42003.1.length : Int) - 1)) then (if (wrap64 ((bt42003.1.length : Int) - 1)) < (bt42003.1.length : Int) then (if ((rd_T50 bt42003.1 (wrap64 ((bt42003.1.length : Int) - 1))).f1) > a0_0 then (some 1) else (some 0)) else (none)) else (none)) else (some 0)) else (some 9)))) else (some t42002))) = some r := by rw [if_neg (show ¬ (false = true) by decide)] at H; first | exact H | simpa using H
    clear H
    have H := H1
    clear H1
    replace H := Option.bind_eq_some_iff.mp H
    obtain ⟨t42002, A80, H⟩ := H
    replace H : (if t42002 = 0 then ((papermillref04_Norm.f kj1 l0_1).bind fun bt42003 => ((papermillref52_Spans.f kj1 bt42003.1 l0_1).bind fun t42007 => (if t42007 = true then (if (bt42003.1.length : Int) > 0 then (if 0 ≤ (wrap64 ((bt42003.1.length : Int) - 1)) then (if (wrap64 ((bt42003.1.length : Int) - 1)) < (bt42003.1.length : Int) then (if ((rd_T50 bt42003.1 (wrap64 ((bt42003.1.length : Int) - 1))).f1) > a0_0 then (some 1) else (some 0)) else (none)) else (none)) else (some 0)) else (some 9)))) else (some t42002)) = some r := H
    have A8 := Aside0.mk A80
    clear A80
    by_cases c9 : t42002 = 0
    ·rw [if_pos c9] at H
     have c9b0 : (t42002 == 0) = true := beq_iff_eq.mpr c9
     have c9b1 : (t42002 != 0) = false := bne_eq_false_iff_eq.mpr c9
     clear c9
     replace H := Option.bind_eq_some_iff.mp H
     obtain ⟨⟨t42003, t42004⟩, A100, H⟩ := H
     replace H : ((papermillref52_Spans.f kj1 t42003 l0_1).bind fun t42007 => (if t42007 = true then (if (t42003.length : Int) > 0 then (if 0 ≤ (wrap64 ((t42003.length : Int) - 1)) then (if (wrap64 ((t42003.length : Int) - 1)) < (t42003.length : Int) then (if ((rd_T50 t42003 (wrap64 ((t42003.length : Int) - 1))).f1) > a0_0 then (some 1) else (some 0)) else (none)) else (none)) else (some 0)) else (some 9))) = some r := H
     have A10 := Aside0.mk A100
     clear A100
     replace H := Option.bind_eq_some_iff.mp H
     obtain ⟨t42007, A110, H⟩ := H
     replace H : (if t42007 = true then (if (t42003.length : Int) > 0 then (if 0 ≤ (wrap64 ((t42003.length : Int) - 1)) then (if (wrap64 ((t42003.length : Int) - 1)) < (t42003.length : Int) then (if ((rd_T50 t42003 (wrap64 ((t42003.length : Int) - 1))).f1) > a0_0 then (some 1) else (some 0)) else (none)) else (none)) else (some 0)) else (some 9)) = some r := H
     have A11 := Aside0.mk A110
     clear A110
     by_cases c12 : t42007 = true
     ·subst c12
      have H1 : (if (t42003.length : Int) > 0 then (if 0 ≤ (wrap64 ((t42003.length : Int) - 1)) then (if (wrap64 ((t42003.length : Int) - 1)) < (t42003.length : Int) then (if ((rd_T50 t42003 (wrap64 ((t42003.length : Int) - 1))).f1) > a0_0 then (some 1) else (some 0)) else (none)) else (none)) else (some 0)) = some r := by rw [if_pos rfl] at H; exact H
      clear H
      have H := H1
      clear H1
      by_cases c13 : (t42003.length : Int) > 0
      ·rw [if_pos c13] at H
       have c13b0 : decide (0 < (t42003.length : Int)) = true := decide_eq_true c13
       have c13b1 : decide (0 < t42003.length) = true := decide_eq_true (by omega)
       clear c13
       obtain ⟨ji14, hji14⟩ : ∃ j_ : Int, (wrap64 ((t42003.length : Int) - 1)) = j_ := ⟨_, rfl⟩
       replace H : (if 0 ≤ (ji14) then (if (ji14) < (t42003.length : Int) then (if ((rd_T50 t42003 (ji14)).f1) > a0_0 then (some 1) else (some 0)) else (none)) else (none)) = some r := by first | (rw [hji14] at H; exact H) | (simp only [hji14] at H ⊢; exact H)
       (try rw [hji14] at A8)
       (try rw [hji14] at A10)
       (try rw [hji14] at A11)
       have hji14w : (IntKind.i64.wrap ((t42003.length : Int) - 1)) = ji14 := (i64_w _).trans hji14
       by_cases c15 : 0 ≤ (ji14)
       ·rw [if_pos c15] at H
        have c15b0 : decide (0 ≤ (ji14)) = true := decide_eq_true c15
        clear c15
        by_cases c16 : (ji14) < (t42003.length : Int)
        ·rw [if_pos c16] at H
         have c16b0 : decide ((ji14) < (t42003.length : Int)) = true := decide_eq_true c16
         clear c16
         by_cases c17 : ((rd_T50 t42003 (ji14)).f1) > a0_0
         ·rw [if_pos c17] at H
          have c17b0 : decide (a0_0 < ((rd_T50 t42003 (ji14)).f1)) = true := decide_eq_true c17
          clear c17
          obtain rfl := Option.some.inj H
          have hcz18_0 : wc.cell? ⟨gb42001, 0, none⟩ = some (.int .i64 a0_0) := (blk_cell BK42001.out 0).trans rfl
          have hcz18_1 : wc.cell? ⟨gb42001, 1, none⟩ = some (.slice A0_1 l0_1.length c0_1) := (blk_cell BK42001.out 1).trans rfl
          have hcz18_2 : wc.cell? ⟨gb42001, 2, none⟩ = some (.int .i64 a0_2) := (blk_cell BK42001.out 2).trans rfl
          have hfz18_0 := blk_frozen BK42001.out 0
          have hfz18_1 := blk_frozen BK42001.out 1
          have hfz18_2 := blk_frozen BK42001.out 2
          go_wp2_with (first | (go_at_call 36; (with_reducible refine (papermillref04_Check.calls kj1 _ _ l0_1 t42002 _ ?side1 ?side2 A8.out).mono ?_); (case side1 => repeat (first | exact (Kd.C_below HR0_1.out HB.out) | (with_reducible refine Kd.C_alloc ?_ _) | (with_reducible refine Kd.C_drewN ?_ _) | (with_reducible refine Kd.C_drew ?_))); (case side2 => exact HC0_1.out); rintro e w' ⟨rfl, ⟨nd, rfl⟩⟩; (try first | exact ⟨rfl, _, World.drewN_drewN _ _ _⟩ | exact ⟨rfl, _, Eq.trans (World.drewN_drewN _ _ _) (congrArg (World.drewN _) (Nat.add_assoc _ _ _))⟩)) | (go_at_call 57; (with_reducible refine (papermillref04_Norm.calls kj1 _ _ l0_1 t42003 t42004 _ ?side1 ?side2 A10.out).mono ?_); (case side1 => repeat (first | exact (Kd.C_below HR0_1.out (by repeat (first | exact HB.out | apply below_alloc | apply pw_below_drewN | apply below_drew1 | refine below_set ?_ GE42001.out))) | (with_reducible refine Kd.C_alloc ?_ _) | (with_reducible refine Kd.C_drewN ?_ _) | (with_reducible refine Kd.C_drew ?_))); (case side2 => exact HC0_1.out); rintro e w19 ⟨v42005, rfl, ho0, hb⟩; have n0_ := Aside0.mk (Kd.R_lower ho0 (below_size (by repeat (first | exact HB.out | apply below_alloc | apply pw_below_drewN | apply below_drew1 | refine below_set ?_ GE42001.out)))); have n1_ := Aside0.mk (blk_below (g := gb42001) (o := .cells #[.int .i64 a0_0, .slice A0_1 l0_1.length c0_1, .int .i64 a0_2] 25 (0, 0)) (by exact BK42001.out) hb); have n2_ := Aside0.mk (below_step (by repeat (first | exact HB.out | apply below_alloc | apply pw_below_drewN | apply below_drew1 | refine below_set ?_ GE42001.out)) hb); clear BK42001; clear HB; have HO42006 := n0_; have BK42001 := n1_; have HB := n2_; clear n0_ n1_ n2_; (try clear hb); (try clear hb2); (try clear hk); (try clear hi); (try clear ho0); have hcz20_0 : w19.cell? ⟨gb42001, 0, none⟩ = some (.int .i64 a0_0) := (blk_cell BK42001.out 0).trans rfl; have hcz20_1 : w19.cell? ⟨gb42001, 1, none⟩ = some (.slice A0_1 l0_1.length c0_1) := (blk_cell BK42001.out 1).trans rfl; have hcz20_2 : w19.cell? ⟨gb42001, 2, none⟩ = some (.int .i64 a0_2) := (blk_cell BK42001.out 2).trans rfl; have hfz20_0 := blk_frozen BK42001.out 0; have hfz20_1 := blk_frozen BK42001.out 1; have hfz20_2 := blk_frozen BK42001.out 2; obtain ⟨Ao21, co21, eo21⟩ := Kd.R_slice HO42006.out; subst eo21) | (go_at_call 38; (with_reducible refine (papermillref52_Spans.calls kj1 _ _ t42003 _ _ l0_1 true _ ?side1 ?side2 ?side3 ?side4 A11.out).mono ?_); (case side1 => repeat (first | exact (Kd.R_reads' HO42006.out).2.2 | (with_reducible refine Kd.C_alloc ?_ _) | (with_reducible refine Kd.C_drewN ?_ _) | (with_reducible refine Kd.C_drew ?_))); (case side2 => exact (Kd.R_reads' HO42006.out).2.1); (case side3 => repeat (first | exact (Kd.C_below HR0_1.out HB.out) | (with_reducible refine Kd.C_alloc ?_ _) | (with_reducible refine Kd.C_drewN ?_ _) | (with_reducible refine Kd.C_drew ?_))); (case side4 => exact HC0_1.out); rintro e w' ⟨rfl, ⟨nd, rfl⟩⟩; (try first | exact ⟨rfl, _, World.drewN_drewN _ _ _⟩ | exact ⟨rfl, _, Eq.trans (World.drewN_drewN _ _ _) (congrArg (World.drewN _) (Nat.add_assoc _ _ _))⟩); have p42008 : 0 ≤ ((ji14) : Int) := of_decide_eq_true (by assumption); have q42008 : (ji14) < (t42003.length : Int) := of_decide_eq_true (by assumption); obtain ⟨ad42008, e42008, hx42008_0, hx42008_1⟩ := at_T50 (Kd.R_reads' HO42006.out).2.2 (ji14) p42008 q42008; cases e42008; replace p42008 := eq_true p42008; replace q42008 := eq_true q42008))
          repeat (go_quiet (first | (go_at_call 36; (with_reducible refine (papermillref04_Check.calls kj1 _ _ l0_1 t42002 _ ?side1 ?side2 A8.out).mono ?_); (case side1 => repeat (first | exact (Kd.C_below HR0_1.out HB.out) | (with_reducible refine Kd.C_alloc ?_ _) | (with_reducible refine Kd.C_drewN ?_ _) | (with_reducible refine Kd.C_drew ?_))); (case side2 => exact HC0_1.out); rintro e w' ⟨rfl, ⟨nd, rfl⟩⟩; (try first | exact ⟨rfl, _, World.drewN_drewN _ _ _⟩ | exact ⟨rfl, _, Eq.trans (World.drewN_drewN _ _ _) (congrArg (World.drewN _) (Nat.add_assoc _ _ _))⟩)) | (go_at_call 57; (with_reducible refine (papermillref04_Norm.calls kj1 _ _ l0_1 t42003 t42004 _ ?side1 ?side2 A10.out).mono ?_); (case side1 => repeat (first | exact (Kd.C_below HR0_1.out (by repeat (first | exact HB.out | apply below_alloc | apply pw_below_drewN | apply below_drew1 | refine below_set ?_ GE42001.out))) | (with_reducible refine Kd.C_alloc ?_ _) | (with_reducible refine Kd.C_drewN ?_ _) | (with_reducible refine Kd.C_drew ?_))); (case side2 => exact HC0_1.out); rintro e w19 ⟨v42005, rfl, ho0, hb⟩; have n0_ := Aside0.mk (Kd.R_lower ho0 (below_size (by repeat (first | exact HB.out | apply below_alloc | apply pw_below_drewN | apply below_drew1 | refine below_set ?_ GE42001.out)))); have n1_ := Aside0.mk (blk_below (g := gb42001) (o := .cells #[.int .i64 a0_0, .slice A0_1 l0_1.length c0_1, .int .i64 a0_2] 25 (0, 0)) (by exact BK42001.out) hb); have n2_ := Aside0.mk (below_step (by repeat (first | exact HB.out | apply below_alloc | apply pw_below_drewN | apply below_drew1 | refine below_set ?_ GE42001.out)) hb); clear BK42001; clear HB; have HO42006 := n0_; have BK42001 := n1_; have HB := n2_; clear n0_ n1_ n2_; (try clear hb); (try clear hb2); (try clear hk); (try clear hi); (try clear ho0); have hcz20_0 : w19.cell? ⟨gb42001, 0, none⟩ = some (.int .i64 a0_0) := (blk_cell BK42001.out 0).trans rfl; have hcz20_1 : w19.cell? ⟨gb42001, 1, none⟩ = some (.slice A0_1 l0_1.length c0_1) := (blk_cell BK42001.out 1).trans rfl; have hcz20_2 : w19.cell? ⟨gb42001, 2, none⟩ = some (.int .i64 a0_2) := (blk_cell BK42001.out 2).trans rfl; have hfz20_0 := blk_frozen BK42001.out 0; have hfz20_1 := blk_frozen BK42001.out 1; have hfz20_2 := blk_frozen BK42001.out 2; obtain ⟨Ao21, co21, eo21⟩ := Kd.R_slice HO42006.out; subst eo21) | (go_at_call 38; (with_reducible refine (papermillref52_Spans.calls kj1 _ _ t42003 _ _ l0_1 true _ ?side1 ?side2 ?side3 ?side4 A11.out).mono ?_); (case side1 => repeat (first | exact (Kd.R_reads' HO42006.out).2.2 | (with_reducible refine Kd.C_alloc ?_ _) | (with_reducible refine Kd.C_drewN ?_ _) | (with_reducible refine Kd.C_drew ?_))); (case side2 => exact (Kd.R_reads' HO42006.out).2.1); (case side3 => repeat (first | exact (Kd.C_below HR0_1.out HB.out) | (with_reducible refine Kd.C_alloc ?_ _) | (with_reducible refine Kd.C_drewN ?_ _) | (with_reducible refine Kd.C_drew ?_))); (case side4 => exact HC0_1.out); rintro e w' ⟨rfl, ⟨nd, rfl⟩⟩; (try first | exact ⟨rfl, _, World.drewN_drewN _ _ _⟩ | exact ⟨rfl, _, Eq.trans (World.drewN_drewN _ _ _) (congrArg (World.drewN _) (Nat.add_assoc _ _ _))⟩); have p42008 : 0 ≤ ((ji14) : Int) := of_decide_eq_true (by assumption); have q42008 : (ji14) < (t42003.length : Int) := of_decide_eq_true (by assumption); obtain ⟨ad42008, e42008, hx42008_0, hx42008_1⟩ := at_T50 (Kd.R_reads' HO42006.out).2.2 (ji14) p42008 q42008; cases e42008; replace p42008 := eq_true p42008; replace q42008 := eq_true q42008)); try go_wp2_with (first | (go_at_call 36; (with_reducible refine (papermillref04_Check.calls kj1 _ _ l0_1 t42002 _ ?side1 ?side2 A8.out).mono ?_); (case side1 => repeat (first | exact (Kd.C_below HR0_1.out HB.out) | (with_reducible refine Kd.C_alloc ?_ _) | (with_reducible refine Kd.C_drewN ?_ _) | (with_reducible refine Kd.C_drew ?_))); (case side2 => exact HC0_1.out); rintro e w' ⟨rfl, ⟨nd, rfl⟩⟩; (try first | exact ⟨rfl, _, World.drewN_drewN _ _ _⟩ | exact ⟨rfl, _, Eq.trans (World.drewN_drewN _ _ _) (congrArg (World.drewN _) (Nat.add_assoc _ _ _))⟩)) | (go_at_call 57; (with_reducible refine (papermillref04_Norm.calls kj1 _ _ l0_1 t42003 t42004 _ ?side1 ?side2 A10.out).mono ?_); (case side1 => repeat (first | exact (Kd.C_below HR0_1.out (by repeat (first | exact HB.out | apply below_alloc | apply pw_below_drewN | apply below_drew1 | refine below_set ?_ GE42001.out))) | (with_reducible refine Kd.C_alloc ?_ _) | (with_reducible refine Kd.C_drewN ?_ _) | (with_reducible refine Kd.C_drew ?_))); (case side2 => exact HC0_1.out); rintro e w19 ⟨v42005, rfl, ho0, hb⟩; have n0_ := Aside0.mk (Kd.R_lower ho0 (below_size (by repeat (first | exact HB.out | apply below_alloc | apply pw_below_drewN | apply below_drew1 | refine below_set ?_ GE42001.out)))); have n1_ := Aside0.mk (blk_below (g := gb42001) (o := .cells #[.int .i64 a0_0, .slice A0_1 l0_1.length c0_1, .int .i64 a0_2] 25 (0, 0)) (by exact BK42001.out) hb); have n2_ := Aside0.mk (below_step (by repeat (first | exact HB.out | apply below_alloc | apply pw_below_drewN | apply below_drew1 | refine below_set ?_ GE42001.out)) hb); clear BK42001; clear HB; have HO42006 := n0_; have BK42001 := n1_; have HB := n2_; clear n0_ n1_ n2_; (try clear hb); (try clear hb2); (try clear hk); (try clear hi); (try clear ho0); have hcz20_0 : w19.cell? ⟨gb42001, 0, none⟩ = some (.int .i64 a0_0) := (blk_cell BK42001.out 0).trans rfl; have hcz20_1 : w19.cell? ⟨gb42001, 1, none⟩ = some (.slice A0_1 l0_1.length c0_1) := (blk_cell BK42001.out 1).trans rfl; have hcz20_2 : w19.cell? ⟨gb42001, 2, none⟩ = some (.int .i64 a0_2) := (blk_cell BK42001.out 2).trans rfl; have hfz20_0 := blk_frozen BK42001.out 0; have hfz20_1 := blk_frozen BK42001.out 1; have hfz20_2 := blk_frozen BK42001.out 2; obtain ⟨Ao21, co21, eo21⟩ := Kd.R_slice HO42006.out; subst eo21) | (go_at_call 38; (with_reducible refine (papermillref52_Spans.calls kj1 _ _ t42003 _ _ l0_1 true _ ?side1 ?side2 ?side3 ?side4 A11.out).mono ?_); (case side1 => repeat (first | exact (Kd.R_reads' HO42006.out).2.2 | (with_reducible refine Kd.C_alloc ?_ _) | (with_reducible refine Kd.C_drewN ?_ _) | (with_reducible refine Kd.C_drew ?_))); (case side2 => exact (Kd.R_reads' HO42006.out).2.1); (case side3 => repeat (first | exact (Kd.C_below HR0_1.out HB.out) | (with_reducible refine Kd.C_alloc ?_ _) | (with_reducible refine Kd.C_drewN ?_ _) | (with_reducible refine Kd.C_drew ?_))); (case side4 => exact HC0_1.out); rintro e w' ⟨rfl, ⟨nd, rfl⟩⟩; (try first | exact ⟨rfl, _, World.drewN_drewN _ _ _⟩ | exact ⟨rfl, _, Eq.trans (World.drewN_drewN _ _ _) (congrArg (World.drewN _) (Nat.add_assoc _ _ _))⟩); have p42008 : 0 ≤ ((ji14) : Int) := of_decide_eq_true (by assumption); have q42008 : (ji14) < (t42003.length : Int) := of_decide_eq_true (by assumption); obtain ⟨ad42008, e42008, hx42008_0, hx42008_1⟩ := at_T50 (Kd.R_reads' HO42006.out).2.2 (ji14) p42008 q42008; cases e42008; replace p42008 := eq_true p42008; replace q42008 := eq_true q42008)))
          go_ret
          exact ⟨by first | rfl | (simp [errW_none, errW_some] <;> rfl) | (simp only [← hji14]; first | rfl | (simp [errW_none, errW_some] <;> rfl)) | (simp [*, errW_none, errW_some] <;> rfl), by repeat (first | exact HB.out | apply below_alloc | apply pw_below_drewN | apply below_drew1 | refine below_set ?_ GE42001.out)⟩
         ·rw [if_neg c17] at H
          have c17b0 : decide (a0_0 < ((rd_T50 t42003 (ji14)).f1)) = false := decide_eq_false c17
          clear c17
          obtain rfl := Option.some.inj H
          have hcz22_0 : wc.cell? ⟨gb42001, 0, none⟩ = some (.int .i64 a0_0) := (blk_cell BK42001.out 0).trans rfl
          have hcz22_1 : wc.cell? ⟨gb42001, 1, none⟩ = some (.slice A0_1 l0_1.length c0_1) := (blk_cell BK42001.out 1).trans rfl
          have hcz22_2 : wc.cell? ⟨gb42001, 2, none⟩ = some (.int .i64 a0_2) := (blk_cell BK42001.out 2).trans rfl
          have hfz22_0 := blk_frozen BK42001.out 0
          have hfz22_1 := blk_frozen BK42001.out 1
          have hfz22_2 := blk_frozen BK42001.out 2
          go_wp2_with (first | (go_at_call 36; (with_reducible refine (papermillref04_Check.calls kj1 _ _ l0_1 t42002 _ ?side1 ?side2 A8.out).mono ?_); (case side1 => repeat (first | exact (Kd.C_below HR0_1.out HB.out) | (with_reducible refine Kd.C_alloc ?_ _) | (with_reducible refine Kd.C_drewN ?_ _) | (with_reducible refine Kd.C_drew ?_))); (case side2 => exact HC0_1.out); rintro e w' ⟨rfl, ⟨nd, rfl⟩⟩; (try first | exact ⟨rfl, _, World.drewN_drewN _ _ _⟩ | exact ⟨rfl, _, Eq.trans (World.drewN_drewN _ _ _) (congrArg (World.drewN _) (Nat.add_assoc _ _ _))⟩)) | (go_at_call 57; (with_reducible refine (papermillref04_Norm.calls kj1 _ _ l0_1 t42003 t42004 _ ?side1 ?side2 A10.out).mono ?_); (case side1 => repeat (first | exact (Kd.C_below HR0_1.out (by repeat (first | exact HB.out | apply below_alloc | apply pw_below_drewN | apply below_drew1 | refine below_set ?_ GE42001.out))) | (with_reducible refine Kd.C_alloc ?_ _) | (with_reducible refine Kd.C_drewN ?_ _) | (with_reducible refine Kd.C_drew ?_))); (case side2 => exact HC0_1.out); rintro e w23 ⟨v42005, rfl, ho0, hb⟩; have n0_ := Aside0.mk (Kd.R_lower ho0 (below_size (by repeat (first | exact HB.out | apply below_alloc | apply pw_below_drewN | apply below_drew1 | refine below_set ?_ GE42001.out)))); have n1_ := Aside0.mk (blk_below (g := gb42001) (o := .cells #[.int .i64 a0_0, .slice A0_1 l0_1.length c0_1, .int .i64 a0_2] 25 (0, 0)) (by exact BK42001.out) hb); have n2_ := Aside0.mk (below_step (by repeat (first | exact HB.out | apply below_alloc | apply pw_below_drewN | apply below_drew1 | refine below_set ?_ GE42001.out)) hb); clear BK42001; clear HB; have HO42006 := n0_; have BK42001 := n1_; have HB := n2_; clear n0_ n1_ n2_; (try clear hb); (try clear hb2); (try clear hk); (try clear hi); (try clear ho0); have hcz24_0 : w23.cell? ⟨gb42001, 0, none⟩ = some (.int .i64 a0_0) := (blk_cell BK42001.out 0).trans rfl; have hcz24_1 : w23.cell? ⟨gb42001, 1, none⟩ = some (.slice A0_1 l0_1.length c0_1) := (blk_cell BK42001.out 1).trans rfl; have hcz24_2 : w23.cell? ⟨gb42001, 2, none⟩ = some (.int .i64 a0_2) := (blk_cell BK42001.out 2).trans rfl; have hfz24_0 := blk_frozen BK42001.out 0; have hfz24_1 := blk_frozen BK42001.out 1; have hfz24_2 := blk_frozen BK42001.out 2; obtain ⟨Ao25, co25, eo25⟩ := Kd.R_slice HO42006.out; subst eo25) | (go_at_call 38; (with_reducible refine (papermillref52_Spans.calls kj1 _ _ t42003 _ _ l0_1 true _ ?side1 ?side2 ?side3 ?side4 A11.out).mono ?_); (case side1 => repeat (first | exact (Kd.R_reads' HO42006.out).2.2 | (with_reducible refine Kd.C_alloc ?_ _) | (with_reducible refine Kd.C_drewN ?_ _) | (with_reducible refine Kd.C_drew ?_))); (case side2 => exact (Kd.R_reads' HO42006.out).2.1); (case side3 => repeat (first | exact (Kd.C_below HR0_1.out HB.out) | (with_reducible refine Kd.C_alloc ?_ _) | (with_reducible refine Kd.C_drewN ?_ _) | (with_reducible refine Kd.C_drew ?_))); (case side4 => exact HC0_1.out); rintro e w' ⟨rfl, ⟨nd, rfl⟩⟩; (try first | exact ⟨rfl, _, World.drewN_drewN _ _ _⟩ | exact ⟨rfl, _, Eq.trans (World.drewN_drewN _ _ _) (congrArg (World.drewN _) (Nat.add_assoc _ _ _))⟩); have p42008 : 0 ≤ ((ji14) : Int) := of_decide_eq_true (by assumption); have q42008 : (ji14) < (t42003.length : Int) := of_decide_eq_true (by assumption); obtain ⟨ad42008, e42008, hx42008_0, hx42008_1⟩ := at_T50 (Kd.R_reads' HO42006.out).2.2 (ji14) p42008 q42008; cases e42008; replace p42008 := eq_true p42008; replace q42008 := eq_true q42008))
          repeat (go_quiet (first | (go_at_call 36; (with_reducible refine (papermillref04_Check.calls kj1 _ _ l0_1 t42002 _ ?side1 ?side2 A8.out).mono ?_); (case side1 => repeat (first | exact (Kd.C_below HR0_1.out HB.out) | (with_reducible refine Kd.C_alloc ?_ _) | (with_reducible refine Kd.C_drewN ?_ _) | (with_reducible refine Kd.C_drew ?_))); (case side2 => exact HC0_1.out); rintro e w' ⟨rfl, ⟨nd, rfl⟩⟩; (try first | exact ⟨rfl, _, World.drewN_drewN _ _ _⟩ | exact ⟨rfl, _, Eq.trans (World.drewN_drewN _ _ _) (congrArg (World.drewN _) (Nat.add_assoc _ _ _))⟩)) | (go_at_call 57; (with_reducible refine (papermillref04_Norm.calls kj1 _ _ l0_1 t42003 t42004 _ ?side1 ?side2 A10.out).mono ?_); (case side1 => repeat (first | exact (Kd.C_below HR0_1.out (by repeat (first | exact HB.out | apply below_alloc | apply pw_below_drewN | apply below_drew1 | refine below_set ?_ GE42001.out))) | (with_reducible refine Kd.C_alloc ?_ _) | (with_reducible refine Kd.C_drewN ?_ _) | (with_reducible refine Kd.C_drew ?_))); (case side2 => exact HC0_1.out); rintro e w23 ⟨v42005, rfl, ho0, hb⟩; have n0_ := Aside0.mk (Kd.R_lower ho0 (below_size (by repeat (first | exact HB.out | apply below_alloc | apply pw_below_drewN | apply below_drew1 | refine below_set ?_ GE42001.out)))); have n1_ := Aside0.mk (blk_below (g := gb42001) (o := .cells #[.int .i64 a0_0, .slice A0_1 l0_1.length c0_1, .int .i64 a0_2] 25 (0, 0)) (by exact BK42001.out) hb); have n2_ := Aside0.mk (below_step (by repeat (first | exact HB.out | apply below_alloc | apply pw_below_drewN | apply below_drew1 | refine below_set ?_ GE42001.out)) hb); clear BK42001; clear HB; have HO42006 := n0_; have BK42001 := n1_; have HB := n2_; clear n0_ n1_ n2_; (try clear hb); (try clear hb2); (try clear hk); (try clear hi); (try clear ho0); have hcz24_0 : w23.cell? ⟨gb42001, 0, none⟩ = some (.int .i64 a0_0) := (blk_cell BK42001.out 0).trans rfl; have hcz24_1 : w23.cell? ⟨gb42001, 1, none⟩ = some (.slice A0_1 l0_1.length c0_1) := (blk_cell BK42001.out 1).trans rfl; have hcz24_2 : w23.cell? ⟨gb42001, 2, none⟩ = some (.int .i64 a0_2) := (blk_cell BK42001.out 2).trans rfl; have hfz24_0 := blk_frozen BK42001.out 0; have hfz24_1 := blk_frozen BK42001.out 1; have hfz24_2 := blk_frozen BK42001.out 2; obtain ⟨Ao25, co25, eo25⟩ := Kd.R_slice HO42006.out; subst eo25) | (go_at_call 38; (with_reducible refine (papermillref52_Spans.calls kj1 _ _ t42003 _ _ l0_1 true _ ?side1 ?side2 ?side3 ?side4 A11.out).mono ?_); (case side1 => repeat (first | exact (Kd.R_reads' HO42006.out).2.2 | (with_reducible refine Kd.C_alloc ?_ _) | (with_reducible refine Kd.C_drewN ?_ _) | (with_reducible refine Kd.C_drew ?_))); (case side2 => exact (Kd.R_reads' HO42006.out).2.1); (case side3 => repeat (first | exact (Kd.C_below HR0_1.out HB.out) | (with_reducible refine Kd.C_alloc ?_ _) | (with_reducible refine Kd.C_drewN ?_ _) | (with_reducible refine Kd.C_drew ?_))); (case side4 => exact HC0_1.out); rintro e w' ⟨rfl, ⟨nd, rfl⟩⟩; (try first | exact ⟨rfl, _, World.drewN_drewN _ _ _⟩ | exact ⟨rfl, _, Eq.trans (World.drewN_drewN _ _ _) (congrArg (World.drewN _) (Nat.add_assoc _ _ _))⟩); have p42008 : 0 ≤ ((ji14) : Int) := of_decide_eq_true (by assumption); have q42008 : (ji14) < (t42003.length : Int) := of_decide_eq_true (by assumption); obtain ⟨ad42008, e42008, hx42008_0, hx42008_1⟩ := at_T50 (Kd.R_reads' HO42006.out).2.2 (ji14) p42008 q42008; cases e42008; replace p42008 := eq_true p42008; replace q42008 := eq_true q42008)); try go_wp2_with (first | (go_at_call 36; (with_reducible refine (papermillref04_Check.calls kj1 _ _ l0_1 t42002 _ ?side1 ?side2 A8.out).mono ?_); (case side1 => repeat (first | exact (Kd.C_below HR0_1.out HB.out) | (with_reducible refine Kd.C_alloc ?_ _) | (with_reducible refine Kd.C_drewN ?_ _) | (with_reducible refine Kd.C_drew ?_))); (case side2 => exact HC0_1.out); rintro e w' ⟨rfl, ⟨nd, rfl⟩⟩; (try first | exact ⟨rfl, _, World.drewN_drewN _ _ _⟩ | exact ⟨rfl, _, Eq.trans (World.drewN_drewN _ _ _) (congrArg (World.drewN _) (Nat.add_assoc _ _ _))⟩)) | (go_at_call 57; (with_reducible refine (papermillref04_Norm.calls kj1 _ _ l0_1 t42003 t42004 _ ?side1 ?side2 A10.out).mono ?_); (case side1 => repeat (first | exact (Kd.C_below HR0_1.out (by repeat (first | exact HB.out | apply below_alloc | apply pw_below_drewN | apply below_drew1 | refine below_set ?_ GE42001.out))) | (with_reducible refine Kd.C_alloc ?_ _) | (with_reducible refine Kd.C_drewN ?_ _) | (with_reducible refine Kd.C_drew ?_))); (case side2 => exact HC0_1.out); rintro e w23 ⟨v42005, rfl, ho0, hb⟩; have n0_ := Aside0.mk (Kd.R_lower ho0 (below_size (by repeat (first | exact HB.out | apply below_alloc | apply pw_below_drewN | apply below_drew1 | refine below_set ?_ GE42001.out)))); have n1_ := Aside0.mk (blk_below (g := gb42001) (o := .cells #[.int .i64 a0_0, .slice A0_1 l0_1.length c0_1, .int .i64 a0_2] 25 (0, 0)) (by exact BK42001.out) hb); have n2_ := Aside0.mk (below_step (by repeat (first | exact HB.out | apply below_alloc | apply pw_below_drewN | apply below_drew1 | refine below_set ?_ GE42001.out)) hb); clear BK42001; clear HB; have HO42006 := n0_; have BK42001 := n1_; have HB := n2_; clear n0_ n1_ n2_; (try clear hb); (try clear hb2); (try clear hk); (try clear hi); (try clear ho0); have hcz24_0 : w23.cell? ⟨gb42001, 0, none⟩ = some (.int .i64 a0_0) := (blk_cell BK42001.out 0).trans rfl; have hcz24_1 : w23.cell? ⟨gb42001, 1, none⟩ = some (.slice A0_1 l0_1.length c0_1) := (blk_cell BK42001.out 1).trans rfl; have hcz24_2 : w23.cell? ⟨gb42001, 2, none⟩ = some (.int .i64 a0_2) := (blk_cell BK42001.out 2).trans rfl; have hfz24_0 := blk_frozen BK42001.out 0; have hfz24_1 := blk_frozen BK42001.out 1; have hfz24_2 := blk_frozen BK42001.out 2; obtain ⟨Ao25, co25, eo25⟩ := Kd.R_slice HO42006.out; subst eo25) | (go_at_call 38; (with_reducible refine (papermillref52_Spans.calls kj1 _ _ t42003 _ _ l0_1 true _ ?side1 ?side2 ?side3 ?side4 A11.out).mono ?_); (case side1 => repeat (first | exact (Kd.R_reads' HO42006.out).2.2 | (with_reducible refine Kd.C_alloc ?_ _) | (with_reducible refine Kd.C_drewN ?_ _) | (with_reducible refine Kd.C_drew ?_))); (case side2 => exact (Kd.R_reads' HO42006.out).2.1); (case side3 => repeat (first | exact (Kd.C_below HR0_1.out HB.out) | (with_reducible refine Kd.C_alloc ?_ _) | (with_reducible refine Kd.C_drewN ?_ _) | (with_reducible refine Kd.C_drew ?_))); (case side4 => exact HC0_1.out); rintro e w' ⟨rfl, ⟨nd, rfl⟩⟩; (try first | exact ⟨rfl, _, World.drewN_drewN _ _ _⟩ | exact ⟨rfl, _, Eq.trans (World.drewN_drewN _ _ _) (congrArg (World.drewN _) (Nat.add_assoc _ _ _))⟩); have p42008 : 0 ≤ ((ji14) : Int) := of_decide_eq_true (by assumption); have q42008 : (ji14) < (t42003.length : Int) := of_decide_eq_true (by assumption); obtain ⟨ad42008, e42008, hx42008_0, hx42008_1⟩ := at_T50 (Kd.R_reads' HO42006.out).2.2 (ji14) p42008 q42008; cases e42008; replace p42008 := eq_true p42008; replace q42008 := eq_true q42008)))
          go_ret
          exact ⟨by first | rfl | (simp [errW_none, errW_some] <;> rfl) | (simp only [← hji14]; first | rfl | (simp [errW_none, errW_some] <;> rfl)) | (simp [*, errW_none, errW_some] <;> rfl), by repeat (first | exact HB.out | apply below_alloc | apply pw_below_drewN | apply below_drew1 | refine below_set ?_ GE42001.out)⟩
        ·rw [if_neg c16] at H
         exact absurd H (by simp)
       ·rw [if_neg c15] at H
        exact absurd H (by simp)
      ·rw [if_neg c13] at H
       have c13b0 : decide (0 < (t42003.length : Int)) = false := decide_eq_false c13
       have c13b1 : decide (0 < t42003.length) = false := decide_eq_false (by omega)
       clear c13
       obtain rfl := Option.some.inj H
       have hcz26_0 : wc.cell? ⟨gb42001, 0, none⟩ = some (.int .i64 a0_0) := (blk_cell BK42001.out 0).trans rfl
       have hcz26_1 : wc.cell? ⟨gb42001, 1, none⟩ = some (.slice A0_1 l0_1.length c0_1) := (blk_cell BK42001.out 1).trans rfl
       have hcz26_2 : wc.cell? ⟨gb42001, 2, none⟩ = some (.int .i64 a0_2) := (blk_cell BK42001.out 2).trans rfl
       have hfz26_0 := blk_frozen BK42001.out 0
       have hfz26_1 := blk_frozen BK42001.out 1
       have hfz26_2 := blk_frozen BK42001.out 2
       go_wp2_with (first | (go_at_call 36; (with_reducible refine (papermillref04_Check.calls kj1 _ _ l0_1 t42002 _ ?side1 ?side2 A8.out).mono ?_); (case side1 => repeat (first | exact (Kd.C_below HR0_1.out HB.out) | (with_reducible refine Kd.C_alloc ?_ _) | (with_reducible refine Kd.C_drewN ?_ _) | (with_reducible refine Kd.C_drew ?_))); (case side2 => exact HC0_1.out); rintro e w' ⟨rfl, ⟨nd, rfl⟩⟩; (try first | exact ⟨rfl, _, World.drewN_drewN _ _ _⟩ | exact ⟨rfl, _, Eq.trans (World.drewN_drewN _ _ _) (congrArg (World.drewN _) (Nat.add_assoc _ _ _))⟩)) | (go_at_call 57; (with_reducible refine (papermillref04_Norm.calls kj1 _ _ l0_1 t42003 t42004 _ ?side1 ?side2 A10.out).mono ?_); (case side1 => repeat (first | exact (Kd.C_below HR0_1.out (by repeat (first | exact HB.out | apply below_alloc | apply pw_below_drewN | apply below_drew1 | refine below_set ?_ GE42001.out))) | (with_reducible refine Kd.C_alloc ?_ _) | (with_reducible refine Kd.C_drewN ?_ _) | (with_reducible refine Kd.C_drew ?_))); (case side2 => exact HC0_1.out); rintro e w27 ⟨v42005, rfl, ho0, hb⟩; have n0_ := Aside0.mk (Kd.R_lower ho0 (below_size (by repeat (first | exact HB.out | apply below_alloc | apply pw_below_drewN | apply below_drew1 | refine below_set ?_ GE42001.out)))); have n1_ := Aside0.mk (blk_below (g := gb42001) (o := .cells #[.int .i64 a0_0, .slice A0_1 l0_1.length c0_1, .int .i64 a0_2] 25 (0, 0)) (by exact BK42001.out) hb); have n2_ := Aside0.mk (below_step (by repeat (first | exact HB.out | apply below_alloc | apply pw_below_drewN | apply below_drew1 | refine below_set ?_ GE42001.out)) hb); clear BK42001; clear HB; have HO42006 := n0_; have BK42001 := n1_; have HB := n2_; clear n0_ n1_ n2_; (try clear hb); (try clear hb2); (try clear hk); (try clear hi); (try clear ho0); have hcz28_0 : w27.cell? ⟨gb42001, 0, none⟩ = some (.int .i64 a0_0) := (blk_cell BK42001.out 0).trans rfl; have hcz28_1 : w27.cell? ⟨gb42001, 1, none⟩ = some (.slice A0_1 l0_1.length c0_1) := (blk_cell BK42001.out 1).trans rfl; have hcz28_2 : w27.cell? ⟨gb42001, 2, none⟩ = some (.int .i64 a0_2) := (blk_cell BK42001.out 2).trans rfl; have hfz28_0 := blk_frozen BK42001.out 0; have hfz28_1 := blk_frozen BK42001.out 1; have hfz28_2 := blk_frozen BK42001.out 2; obtain ⟨Ao29, co29, eo29⟩ := Kd.R_slice HO42006.out; subst eo29) | (go_at_call 38; (with_reducible refine (papermillref52_Spans.calls kj1 _ _ t42003 _ _ l0_1 true _ ?side1 ?side2 ?side3 ?side4 A11.out).mono ?_); (case side1 => repeat (first | exact (Kd.R_reads' HO42006.out).2.2 | (with_reducible refine Kd.C_alloc ?_ _) | (with_reducible refine Kd.C_drewN ?_ _) | (with_reducible refine Kd.C_drew ?_))); (case side2 => exact (Kd.R_reads' HO42006.out).2.1); (case side3 => repeat (first | exact (Kd.C_below HR0_1.out HB.out) | (with_reducible refine Kd.C_alloc ?_ _) | (with_reducible refine Kd.C_drewN ?_ _) | (with_reducible refine Kd.C_drew ?_))); (case side4 => exact HC0_1.out); rintro e w' ⟨rfl, ⟨nd, rfl⟩⟩; (try first | exact ⟨rfl, _, World.drewN_drewN _ _ _⟩ | exact ⟨rfl, _, Eq.trans (World.drewN_drewN _ _ _) (congrArg (World.drewN _) (Nat.add_assoc _ _ _))⟩)))
       repeat (go_quiet (first | (go_at_call 36; (with_reducible refine (papermillref04_Check.calls kj1 _ _ l0_1 t42002 _ ?side1 ?side2 A8.out).mono ?_); (case side1 => repeat (first | exact (Kd.C_below HR0_1.out HB.out) | (with_reducible refine Kd.C_alloc ?_ _) | (with_reducible refine Kd.C_drewN ?_ _) | (with_reducible refine Kd.C_drew ?_))); (case side2 => exact HC0_1.out); rintro e w' ⟨rfl, ⟨nd, rfl⟩⟩; (try first | exact ⟨rfl, _, World.drewN_drewN _ _ _⟩ | exact ⟨rfl, _, Eq.trans (World.drewN_drewN _ _ _) (congrArg (World.drewN _) (Nat.add_assoc _ _ _))⟩)) | (go_at_call 57; (with_reducible refine (papermillref04_Norm.calls kj1 _ _ l0_1 t42003 t42004 _ ?side1 ?side2 A10.out).mono ?_); (case side1 => repeat (first | exact (Kd.C_below HR0_1.out (by repeat (first | exact HB.out | apply below_alloc | apply pw_below_drewN | apply below_drew1 | refine below_set ?_ GE42001.out))) | (with_reducible refine Kd.C_alloc ?_ _) | (with_reducible refine Kd.C_drewN ?_ _) | (with_reducible refine Kd.C_drew ?_))); (case side2 => exact HC0_1.out); rintro e w27 ⟨v42005, rfl, ho0, hb⟩; have n0_ := Aside0.mk (Kd.R_lower ho0 (below_size (by repeat (first | exact HB.out | apply below_alloc | apply pw_below_drewN | apply below_drew1 | refine below_set ?_ GE42001.out)))); have n1_ := Aside0.mk (blk_below (g := gb42001) (o := .cells #[.int .i64 a0_0, .slice A0_1 l0_1.length c0_1, .int .i64 a0_2] 25 (0, 0)) (by exact BK42001.out) hb); have n2_ := Aside0.mk (below_step (by repeat (first | exact HB.out | apply below_alloc | apply pw_below_drewN | apply below_drew1 | refine below_set ?_ GE42001.out)) hb); clear BK42001; clear HB; have HO42006 := n0_; have BK42001 := n1_; have HB := n2_; clear n0_ n1_ n2_; (try clear hb); (try clear hb2); (try clear hk); (try clear hi); (try clear ho0); have hcz28_0 : w27.cell? ⟨gb42001, 0, none⟩ = some (.int .i64 a0_0) := (blk_cell BK42001.out 0).trans rfl; have hcz28_1 : w27.cell? ⟨gb42001, 1, none⟩ = some (.slice A0_1 l0_1.length c0_1) := (blk_cell BK42001.out 1).trans rfl; have hcz28_2 : w27.cell? ⟨gb42001, 2, none⟩ = some (.int .i64 a0_2) := (blk_cell BK42001.out 2).trans rfl; have hfz28_0 := blk_frozen BK42001.out 0; have hfz28_1 := blk_frozen BK42001.out 1; have hfz28_2 := blk_frozen BK42001.out 2; obtain ⟨Ao29, co29, eo29⟩ := Kd.R_slice HO42006.out; subst eo29) | (go_at_call 38; (with_reducible refine (papermillref52_Spans.calls kj1 _ _ t42003 _ _ l0_1 true _ ?side1 ?side2 ?side3 ?side4 A11.out).mono ?_); (case side1 => repeat (first | exact (Kd.R_reads' HO42006.out).2.2 | (with_reducible refine Kd.C_alloc ?_ _) | (with_reducible refine Kd.C_drewN ?_ _) | (with_reducible refine Kd.C_drew ?_))); (case side2 => exact (Kd.R_reads' HO42006.out).2.1); (case side3 => repeat (first | exact (Kd.C_below HR0_1.out HB.out) | (with_reducible refine Kd.C_alloc ?_ _) | (with_reducible refine Kd.C_drewN ?_ _) | (with_reducible refine Kd.C_drew ?_))); (case side4 => exact HC0_1.out); rintro e w' ⟨rfl, ⟨nd, rfl⟩⟩; (try first | exact ⟨rfl, _, World.drewN_drewN _ _ _⟩ | exact ⟨rfl, _, Eq.trans (World.drewN_drewN _ _ _) (congrArg (World.drewN _) (Nat.add_assoc _ _ _))⟩))); try go_wp2_with (first | (go_at_call 36; (with_reducible refine (papermillref04_Check.calls kj1 _ _ l0_1 t42002 _ ?side1 ?side2 A8.out).mono ?_); (case side1 => repeat (first | exact (Kd.C_below HR0_1.out HB.out) | (with_reducible refine Kd.C_alloc ?_ _) | (with_reducible refine Kd.C_drewN ?_ _) | (with_reducible refine Kd.C_drew ?_))); (case side2 => exact HC0_1.out); rintro e w' ⟨rfl, ⟨nd, rfl⟩⟩; (try first | exact ⟨rfl, _, World.drewN_drewN _ _ _⟩ | exact ⟨rfl, _, Eq.trans (World.drewN_drewN _ _ _) (congrArg (World.drewN _) (Nat.add_assoc _ _ _))⟩)) | (go_at_call 57; (with_reducible refine (papermillref04_Norm.calls kj1 _ _ l0_1 t42003 t42004 _ ?side1 ?side2 A10.out).mono ?_); (case side1 => repeat (first | exact (Kd.C_below HR0_1.out (by repeat (first | exact HB.out | apply below_alloc | apply pw_below_drewN | apply below_drew1 | refine below_set ?_ GE42001.out))) | (with_reducible refine Kd.C_alloc ?_ _) | (with_reducible refine Kd.C_drewN ?_ _) | (with_reducible refine Kd.C_drew ?_))); (case side2 => exact HC0_1.out); rintro e w27 ⟨v42005, rfl, ho0, hb⟩; have n0_ := Aside0.mk (Kd.R_lower ho0 (below_size (by repeat (first | exact HB.out | apply below_alloc | apply pw_below_drewN | apply below_drew1 | refine below_set ?_ GE42001.out)))); have n1_ := Aside0.mk (blk_below (g := gb42001) (o := .cells #[.int .i64 a0_0, .slice A0_1 l0_1.length c0_1, .int .i64 a0_2] 25 (0, 0)) (by exact BK42001.out) hb); have n2_ := Aside0.mk (below_step (by repeat (first | exact HB.out | apply below_alloc | apply pw_below_drewN | apply below_drew1 | refine below_set ?_ GE42001.out)) hb); clear BK42001; clear HB; have HO42006 := n0_; have BK42001 := n1_; have HB := n2_; clear n0_ n1_ n2_; (try clear hb); (try clear hb2); (try clear hk); (try clear hi); (try clear ho0); have hcz28_0 : w27.cell? ⟨gb42001, 0, none⟩ = some (.int .i64 a0_0) := (blk_cell BK42001.out 0).trans rfl; have hcz28_1 : w27.cell? ⟨gb42001, 1, none⟩ = some (.slice A0_1 l0_1.length c0_1) := (blk_cell BK42001.out 1).trans rfl; have hcz28_2 : w27.cell? ⟨gb42001, 2, none⟩ = some (.int .i64 a0_2) := (blk_cell BK42001.out 2).trans rfl; have hfz28_0 := blk_frozen BK42001.out 0; have hfz28_1 := blk_frozen BK42001.out 1; have hfz28_2 := blk_frozen BK42001.out 2; obtain ⟨Ao29, co29, eo29⟩ := Kd.R_slice HO42006.out; subst eo29) | (go_at_call 38; (with_reducible refine (papermillref52_Spans.calls kj1 _ _ t42003 _ _ l0_1 true _ ?side1 ?side2 ?side3 ?side4 A11.out).mono ?_); (case side1 => repeat (first | exact (Kd.R_reads' HO42006.out).2.2 | (with_reducible refine Kd.C_alloc ?_ _) | (with_reducible refine Kd.C_drewN ?_ _) | (with_reducible refine Kd.C_drew ?_))); (case side2 => exact (Kd.R_reads' HO42006.out).2.1); (case side3 => repeat (first | exact (Kd.C_below HR0_1.out HB.out) | (with_reducible refine Kd.C_alloc ?_ _) | (with_reducible refine Kd.C_drewN ?_ _) | (with_reducible refine Kd.C_drew ?_))); (case side4 => exact HC0_1.out); rintro e w' ⟨rfl, ⟨nd, rfl⟩⟩; (try first | exact ⟨rfl, _, World.drewN_drewN _ _ _⟩ | exact ⟨rfl, _, Eq.trans (World.drewN_drewN _ _ _) (congrArg (World.drewN _) (Nat.add_assoc _ _ _))⟩))))
       go_ret
       exact ⟨by first | rfl | (simp [errW_none, errW_some] <;> rfl) | (simp [*, errW_none, errW_some] <;> rfl), by repeat (first | exact HB.out | apply below_alloc | apply pw_below_drewN | apply below_drew1 | refine below_set ?_ GE42001.out)⟩
     ·replace c12 := Bool.eq_false_iff.mpr c12
      subst c12
      have H1 : (some 9) = some r := by rw [if_neg (show ¬ (false = true) by decide)] at H; first | exact H | simpa using H
      clear H
      have H := H1
      clear H1
      obtain rfl := Option.some.inj H
      have hcz30_0 : wc.cell? ⟨gb42001, 0, none⟩ = some (.int .i64 a0_0) := (blk_cell BK42001.out 0).trans rfl
      have hcz30_1 : wc.cell? ⟨gb42001, 1, none⟩ = some (.slice A0_1 l0_1.length c0_1) := (blk_cell BK42001.out 1).trans rfl
      have hcz30_2 : wc.cell? ⟨gb42001, 2, none⟩ = some (.int .i64 a0_2) := (blk_cell BK42001.out 2).trans rfl
      have hfz30_0 := blk_frozen BK42001.out 0
      have hfz30_1 := blk_frozen BK42001.out 1
      have hfz30_2 := blk_frozen BK42001.out 2
      go_wp2_with (first | (go_at_call 36; (with_reducible refine (papermillref04_Check.calls kj1 _ _ l0_1 t42002 _ ?side1 ?side2 A8.out).mono ?_); (case side1 => repeat (first | exact (Kd.C_below HR0_1.out HB.out) | (with_reducible refine Kd.C_alloc ?_ _) | (with_reducible refine Kd.C_drewN ?_ _) | (with_reducible refine Kd.C_drew ?_))); (case side2 => exact HC0_1.out); rintro e w' ⟨rfl, ⟨nd, rfl⟩⟩; (try first | exact ⟨rfl, _, World.drewN_drewN _ _ _⟩ | exact ⟨rfl, _, Eq.trans (World.drewN_drewN _ _ _) (congrArg (World.drewN _) (Nat.add_assoc _ _ _))⟩)) | (go_at_call 57; (with_reducible refine (papermillref04_Norm.calls kj1 _ _ l0_1 t42003 t42004 _ ?side1 ?side2 A10.out).mono ?_); (case side1 => repeat (first | exact (Kd.C_below HR0_1.out (by repeat (first | exact HB.out | apply below_alloc | apply pw_below_drewN | apply below_drew1 | refine below_set ?_ GE42001.out))) | (with_reducible refine Kd.C_alloc ?_ _) | (with_reducible refine Kd.C_drewN ?_ _) | (with_reducible refine Kd.C_drew ?_))); (case side2 => exact HC0_1.out); rintro e w31 ⟨v42005, rfl, ho0, hb⟩; have n0_ := Aside0.mk (Kd.R_lower ho0 (below_size (by repeat (first | exact HB.out | apply below_alloc | apply pw_below_drewN | apply below_drew1 | refine below_set ?_ GE42001.out)))); have n1_ := Aside0.mk (blk_below (g := gb42001) (o := .cells #[.int .i64 a0_0, .slice A0_1 l0_1.length c0_1, .int .i64 a0_2] 25 (0, 0)) (by exact BK42001.out) hb); have n2_ := Aside0.mk (below_step (by repeat (first | exact HB.out | apply below_alloc | apply pw_below_drewN | apply below_drew1 | refine below_set ?_ GE42001.out)) hb); clear BK42001; clear HB; have HO42006 := n0_; have BK42001 := n1_; have HB := n2_; clear n0_ n1_ n2_; (try clear hb); (try clear hb2); (try clear hk); (try clear hi); (try clear ho0); have hcz32_0 : w31.cell? ⟨gb42001, 0, none⟩ = some (.int .i64 a0_0) := (blk_cell BK42001.out 0).trans rfl; have hcz32_1 : w31.cell? ⟨gb42001, 1, none⟩ = some (.slice A0_1 l0_1.length c0_1) := (blk_cell BK42001.out 1).trans rfl; have hcz32_2 : w31.cell? ⟨gb42001, 2, none⟩ = some (.int .i64 a0_2) := (blk_cell BK42001.out 2).trans rfl; have hfz32_0 := blk_frozen BK42001.out 0; have hfz32_1 := blk_frozen BK42001.out 1; have hfz32_2 := blk_frozen BK42001.out 2; obtain ⟨Ao33, co33, eo33⟩ := Kd.R_slice HO42006.out; subst eo33) | (go_at_call 38; (with_reducible refine (papermillref52_Spans.calls kj1 _ _ t42003 _ _ l0_1 false _ ?side1 ?side2 ?side3 ?side4 A11.out).mono ?_); (case side1 => repeat (first | exact (Kd.R_reads' HO42006.out).2.2 | (with_reducible refine Kd.C_alloc ?_ _) | (with_reducible refine Kd.C_drewN ?_ _) | (with_reducible refine Kd.C_drew ?_))); (case side2 => exact (Kd.R_reads' HO42006.out).2.1); (case side3 => repeat (first | exact (Kd.C_below HR0_1.out HB.out) | (with_reducible refine Kd.C_alloc ?_ _) | (with_reducible refine Kd.C_drewN ?_ _) | (with_reducible refine Kd.C_drew ?_))); (case side4 => exact HC0_1.out); rintro e w' ⟨rfl, ⟨nd, rfl⟩⟩; (try first | exact ⟨rfl, _, World.drewN_drewN _ _ _⟩ | exact ⟨rfl, _, Eq.trans (World.drewN_drewN _ _ _) (congrArg (World.drewN _) (Nat.add_assoc _ _ _))⟩)))
      repeat (go_quiet (first | (go_at_call 36; (with_reducible refine (papermillref04_Check.calls kj1 _ _ l0_1 t42002 _ ?side1 ?side2 A8.out).mono ?_); (case side1 => repeat (first | exact (Kd.C_below HR0_1.out HB.out) | (with_reducible refine Kd.C_alloc ?_ _) | (with_reducible refine Kd.C_drewN ?_ _) | (with_reducible refine Kd.C_drew ?_))); (case side2 => exact HC0_1.out); rintro e w' ⟨rfl, ⟨nd, rfl⟩⟩; (try first | exact ⟨rfl, _, World.drewN_drewN _ _ _⟩ | exact ⟨rfl, _, Eq.trans (World.drewN_drewN _ _ _) (congrArg (World.drewN _) (Nat.add_assoc _ _ _))⟩)) | (go_at_call 57; (with_reducible refine (papermillref04_Norm.calls kj1 _ _ l0_1 t42003 t42004 _ ?side1 ?side2 A10.out).mono ?_); (case side1 => repeat (first | exact (Kd.C_below HR0_1.out (by repeat (first | exact HB.out | apply below_alloc | apply pw_below_drewN | apply below_drew1 | refine below_set ?_ GE42001.out))) | (with_reducible refine Kd.C_alloc ?_ _) | (with_reducible refine Kd.C_drewN ?_ _) | (with_reducible refine Kd.C_drew ?_))); (case side2 => exact HC0_1.out); rintro e w31 ⟨v42005, rfl, ho0, hb⟩; have n0_ := Aside0.mk (Kd.R_lower ho0 (below_size (by repeat (first | exact HB.out | apply below_alloc | apply pw_below_drewN | apply below_drew1 | refine below_set ?_ GE42001.out)))); have n1_ := Aside0.mk (blk_below (g := gb42001) (o := .cells #[.int .i64 a0_0, .slice A0_1 l0_1.length c0_1, .int .i64 a0_2] 25 (0, 0)) (by exact BK42001.out) hb); have n2_ := Aside0.mk (below_step (by repeat (first | exact HB.out | apply below_alloc | apply pw_below_drewN | apply below_drew1 | refine below_set ?_ GE42001.out)) hb); clear BK42001; clear HB; have HO42006 := n0_; have BK42001 := n1_; have HB := n2_; clear n0_ n1_ n2_; (try clear hb); (try clear hb2); (try clear hk); (try clear hi); (try clear ho0); have hcz32_0 : w31.cell? ⟨gb42001, 0, none⟩ = some (.int .i64 a0_0) := (blk_cell BK42001.out 0).trans rfl; have hcz32_1 : w31.cell? ⟨gb42001, 1, none⟩ = some (.slice A0_1 l0_1.length c0_1) := (blk_cell BK42001.out 1).trans rfl; have hcz32_2 : w31.cell? ⟨gb42001, 2, none⟩ = some (.int .i64 a0_2) := (blk_cell BK42001.out 2).trans rfl; have hfz32_0 := blk_frozen BK42001.out 0; have hfz32_1 := blk_frozen BK42001.out 1; have hfz32_2 := blk_frozen BK42001.out 2; obtain ⟨Ao33, co33, eo33⟩ := Kd.R_slice HO42006.out; subst eo33) | (go_at_call 38; (with_reducible refine (papermillref52_Spans.calls kj1 _ _ t42003 _ _ l0_1 false _ ?side1 ?side2 ?side3 ?side4 A11.out).mono ?_); (case side1 => repeat (first | exact (Kd.R_reads' HO42006.out).2.2 | (with_reducible refine Kd.C_alloc ?_ _) | (with_reducible refine Kd.C_drewN ?_ _) | (with_reducible refine Kd.C_drew ?_))); (case side2 => exact (Kd.R_reads' HO42006.out).2.1); (case side3 => repeat (first | exact (Kd.C_below HR0_1.out HB.out) | (with_reducible refine Kd.C_alloc ?_ _) | (with_reducible refine Kd.C_drewN ?_ _) | (with_reducible refine Kd.C_drew ?_))); (case side4 => exact HC0_1.out); rintro e w' ⟨rfl, ⟨nd, rfl⟩⟩; (try first | exact ⟨rfl, _, World.drewN_drewN _ _ _⟩ | exact ⟨rfl, _, Eq.trans (World.drewN_drewN _ _ _) (congrArg (World.drewN _) (Nat.add_assoc _ _ _))⟩))); try go_wp2_with (first | (go_at_call 36; (with_reducible refine (papermillref04_Check.calls kj1 _ _ l0_1 t42002 _ ?side1 ?side2 A8.out).mono ?_); (case side1 => repeat (first | exact (Kd.C_below HR0_1.out HB.out) | (with_reducible refine Kd.C_alloc ?_ _) | (with_reducible refine Kd.C_drewN ?_ _) | (with_reducible refine Kd.C_drew ?_))); (case side2 => exact HC0_1.out); rintro e w' ⟨rfl, ⟨nd, rfl⟩⟩; (try first | exact ⟨rfl, _, World.drewN_drewN _ _ _⟩ | exact ⟨rfl, _, Eq.trans (World.drewN_drewN _ _ _) (congrArg (World.drewN _) (Nat.add_assoc _ _ _))⟩)) | (go_at_call 57; (with_reducible refine (papermillref04_Norm.calls kj1 _ _ l0_1 t42003 t42004 _ ?side1 ?side2 A10.out).mono ?_); (case side1 => repeat (first | exact (Kd.C_below HR0_1.out (by repeat (first | exact HB.out | apply below_alloc | apply pw_below_drewN | apply below_drew1 | refine below_set ?_ GE42001.out))) | (with_reducible refine Kd.C_alloc ?_ _) | (with_reducible refine Kd.C_drewN ?_ _) | (with_reducible refine Kd.C_drew ?_))); (case side2 => exact HC0_1.out); rintro e w31 ⟨v42005, rfl, ho0, hb⟩; have n0_ := Aside0.mk (Kd.R_lower ho0 (below_size (by repeat (first | exact HB.out | apply below_alloc | apply pw_below_drewN | apply below_drew1 | refine below_set ?_ GE42001.out)))); have n1_ := Aside0.mk (blk_below (g := gb42001) (o := .cells #[.int .i64 a0_0, .slice A0_1 l0_1.length c0_1, .int .i64 a0_2] 25 (0, 0)) (by exact BK42001.out) hb); have n2_ := Aside0.mk (below_step (by repeat (first | exact HB.out | apply below_alloc | apply pw_below_drewN | apply below_drew1 | refine below_set ?_ GE42001.out)) hb); clear BK42001; clear HB; have HO42006 := n0_; have BK42001 := n1_; have HB := n2_; clear n0_ n1_ n2_; (try clear hb); (try clear hb2); (try clear hk); (try clear hi); (try clear ho0); have hcz32_0 : w31.cell? ⟨gb42001, 0, none⟩ = some (.int .i64 a0_0) := (blk_cell BK42001.out 0).trans rfl; have hcz32_1 : w31.cell? ⟨gb42001, 1, none⟩ = some (.slice A0_1 l0_1.length c0_1) := (blk_cell BK42001.out 1).trans rfl; have hcz32_2 : w31.cell? ⟨gb42001, 2, none⟩ = some (.int .i64 a0_2) := (blk_cell BK42001.out 2).trans rfl; have hfz32_0 := blk_frozen BK42001.out 0; have hfz32_1 := blk_frozen BK42001.out 1; have hfz32_2 := blk_frozen BK42001.out 2; obtain ⟨Ao33, co33, eo33⟩ := Kd.R_slice HO42006.out; subst eo33) | (go_at_call 38; (with_reducible refine (papermillref52_Spans.calls kj1 _ _ t42003 _ _ l0_1 false _ ?side1 ?side2 ?side3 ?side4 A11.out).mono ?_); (case side1 => repeat (first | exact (Kd.R_reads' HO42006.out).2.2 | (with_reducible refine Kd.C_alloc ?_ _) | (with_reducible refine Kd.C_drewN ?_ _) | (with_reducible refine Kd.C_drew ?_))); (case side2 => exact (Kd.R_reads' HO42006.out).2.1); (case side3 => repeat (first | exact (Kd.C_below HR0_1.out HB.out) | (with_reducible refine Kd.C_alloc ?_ _) | (with_reducible refine Kd.C_drewN ?_ _) | (with_reducible refine Kd.C_drew ?_))); (case side4 => exact HC0_1.out); rintro e w' ⟨rfl, ⟨nd, rfl⟩⟩; (try first | exact ⟨rfl, _, World.drewN_drewN _ _ _⟩ | exact ⟨rfl, _, Eq.trans (World.drewN_drewN _ _ _) (congrArg (World.drewN _) (Nat.add_assoc _ _ _))⟩))))
      go_ret
      exact ⟨by first | rfl | (simp [errW_none, errW_some] <;> rfl) | (simp [*, errW_none, errW_some] <;> rfl), by repeat (first | exact HB.out | apply below_alloc | apply pw_below_drewN | apply below_drew1 | refine below_set ?_ GE42001.out)⟩
    ·rw [if_neg c9] at H
     have c9b0 : (t42002 == 0) = false := beq_eq_false_iff_ne.mpr c9
     have c9b1 : (t42002 != 0) = true := bne_iff_ne.mpr c9
     obtain rfl := Option.some.inj H
     have hcz34_0 : wc.cell? ⟨gb42001, 0, none⟩ = some (.int .i64 a0_0) := (blk_cell BK42001.out 0).trans rfl
     have hcz34_1 : wc.cell? ⟨gb42001, 1, none⟩ = some (.slice A0_1 l0_1.length c0_1) := (blk_cell BK42001.out 1).trans rfl
     have hcz34_2 : wc.cell? ⟨gb42001, 2, none⟩ = some (.int .i64 a0_2) := (blk_cell BK42001.out 2).trans rfl
     have hfz34_0 := blk_frozen BK42001.out 0
     have hfz34_1 := blk_frozen BK42001.out 1
     have hfz34_2 := blk_frozen BK42001.out 2
     go_wp2_with (first | (go_at_call 36; (with_reducible refine (papermillref04_Check.calls kj1 _ _ l0_1 t42002 _ ?side1 ?side2 A8.out).mono ?_); (case side1 => repeat (first | exact (Kd.C_below HR0_1.out HB.out) | (with_reducible refine Kd.C_alloc ?_ _) | (with_reducible refine Kd.C_drewN ?_ _) | (with_reducible refine Kd.C_drew ?_))); (case side2 => exact HC0_1.out); rintro e w' ⟨rfl, ⟨nd, rfl⟩⟩; (try first | exact ⟨rfl, _, World.drewN_drewN _ _ _⟩ | exact ⟨rfl, _, Eq.trans (World.drewN_drewN _ _ _) (congrArg (World.drewN _) (Nat.add_assoc _ _ _))⟩)))
     repeat (go_quiet (first | (go_at_call 36; (with_reducible refine (papermillref04_Check.calls kj1 _ _ l0_1 t42002 _ ?side1 ?side2 A8.out).mono ?_); (case side1 => repeat (first | exact (Kd.C_below HR0_1.out HB.out) | (with_reducible refine Kd.C_alloc ?_ _) | (with_reducible refine Kd.C_drewN ?_ _) | (with_reducible refine Kd.C_drew ?_))); (case side2 => exact HC0_1.out); rintro e w' ⟨rfl, ⟨nd, rfl⟩⟩; (try first | exact ⟨rfl, _, World.drewN_drewN _ _ _⟩ | exact ⟨rfl, _, Eq.trans (World.drewN_drewN _ _ _) (congrArg (World.drewN _) (Nat.add_assoc _ _ _))⟩))); try go_wp2_with (first | (go_at_call 36; (with_reducible refine (papermillref04_Check.calls kj1 _ _ l0_1 t42002 _ ?side1 ?side2 A8.out).mono ?_); (case side1 => repeat (first | exact (Kd.C_below HR0_1.out HB.out) | (with_reducible refine Kd.C_alloc ?_ _) | (with_reducible refine Kd.C_drewN ?_ _) | (with_reducible refine Kd.C_drew ?_))); (case side2 => exact HC0_1.out); rintro e w' ⟨rfl, ⟨nd, rfl⟩⟩; (try first | exact ⟨rfl, _, World.drewN_drewN _ _ _⟩ | exact ⟨rfl, _, Eq.trans (World.drewN_drewN _ _ _) (congrArg (World.drewN _) (Nat.add_assoc _ _ _))⟩))))
     go_ret
     exact ⟨by first | rfl | (simp [errW_none, errW_some] <;> rfl) | (simp [*, errW_none, errW_some] <;> rfl), by repeat (first | exact HB.out | apply below_alloc | apply pw_below_drewN | apply below_drew1 | refine below_set ?_ GE42001.out)⟩

end Go.Proofs.Ytnfcpcgbdoiiiaa.G

namespace Go.Proofs.Ytnfcpcgbdoiiiaa.G
open Go.RowKit Go.Proofs.YtnfcpcgbdoiiiaaW.PrintWords Go.Proofs.YtnfcpcgbdoiiiaaW.PrintLast Go.Proofs.YtnfcpcgbdoiiiaaW.PrintMore
attribute [local go_sem] max2_int min2_int max_two min_two max_three min_three max_four min_four   -- for this text's walks alone
set_option linter.unusedVariables false
set_option linter.unusedSimpArgs false

mutual
def papermillref52_Together.l0 : Nat → List (S25) → Int → Option (Int × (List (S50)) × Int × Int)
 | 0, _, _ => none
 | k + 1, x0, x4 => if x4 < (x0.length : Int) then (if 0 ≤ x4 then ((papermillref52_one.f k ((rd_T25 x0 x4).f0) ((rd_T25 x0 x4).f1) ((rd_T25 x0 x4).f2)).bind fun t23003 => (if t23003 = 0 then (papermillref52_Together.l0 k x0 (wrap64 (x4 + 1))) else (some (0, ([] : List (S50)), 0, t23003)))) else (none)) else (if 0 < (x0.length : Int) then ((some (([] : List (S50)) : List (S50))).bind fun y23005 => (if y23005.length + ((rd_T25 x0 0).f1).length < 8796093022208 then (papermillref52_Together.l1 k x0 1 ((rd_T25 x0 0).f0) (y23005 ++ ((rd_T25 x0 0).f1)) 0) else (none))) else (none))
def papermillref52_Together.l1 : Nat → List (S25) → Int → Int → List (S50) → Int → Option (Int × (List (S50)) × Int × Int)
 | 0, _, _, _, _, _ => none
 | k + 1, x0, x7, x23013000, x23013001, x23013002 => if x7 < (x0.length : Int) then (if 0 ≤ x7 then ((papermillref04_Common.f k x23013001 ((rd_T25 x0 x7).f1)).bind fun bt23014 => (if bt23014.2 = 0 then (papermillref52_Together.l1 k x0 (wrap64 (x7 + 1)) (mn x23013000 ((rd_T25 x0 x7).f0)) bt23014.1 0) else (some (0, ([] : List (S50)), 0, bt23014.2)))) else (none)) else (some (x23013000, x23013001, x23013002, 0))
end
def papermillref52_Together.f (k : Nat) (l0 : List (S25)) : Option (Int × (List (S50)) × Int × Int) := if (l0.length : Int) = 0 then (some (0, ([] : List (S50)), 0, 10)) else (if (l0.length : Int) > 16 then (some (0, ([] : List (S50)), 0, 8)) else (papermillref52_Together.l0 k l0 0))
theorem papermillref52_Together.mono_l : ∀ k, (∀ y0 y1, LeO (papermillref52_Together.l0 k y0 y1) (papermillref52_Together.l0 (k + 1) y0 y1)) ∧ (∀ y0 y1 y2 y3 y4, LeO (papermillref52_Together.l1 k y0 y1 y2 y3 y4) (papermillref52_Together.l1 (k + 1) y0 y1 y2 y3 y4))
 | 0 => ⟨fun _ _ r h => by simp [papermillref52_Together.l0] at h, fun _ _ _ _ _ r h => by simp [papermillref52_Together.l1] at h⟩
 | k + 1 => by
  obtain ⟨ih0, ih1⟩ := papermillref52_Together.mono_l k
  refine ⟨?_, ?_⟩
  ·intro y0 y1
   unfold papermillref52_Together.l0
   repeat' first
   | (with_reducible exact ih0 _ _)
   | (with_reducible exact ih1 _ _ _ _ _)
   | (with_reducible exact papermillref04_Common.mono _ _ _)
   | (with_reducible exact papermillref52_one.mono _ _ _ _)
   | (with_reducible exact LeO.refl _)
   | (with_reducible exact LeO.none _)
   | (with_reducible refine LeO.ite ?_ ?_)
   | (with_reducible refine LeO.bind ?_ (fun _ => ?_))
   | exact ih0 _ _
   | exact ih1 _ _ _ _ _
   | exact papermillref04_Common.mono _ _ _
   | exact papermillref52_one.mono _ _ _ _
   | exact LeO.none _
   | refine LeO.ite ?_ ?_
   | refine LeO.bind ?_ (fun _ => ?_)
  ·intro y0 y1 y2 y3 y4
   unfold papermillref52_Together.l1
   repeat' first
   | (with_reducible exact ih0 _ _)
   | (with_reducible exact ih1 _ _ _ _ _)
   | (with_reducible exact papermillref04_Common.mono _ _ _)
   | (with_reducible exact papermillref52_one.mono _ _ _ _)
   | (with_reducible exact LeO.refl _)
   | (with_reducible exact LeO.none _)
   | (with_reducible refine LeO.ite ?_ ?_)
   | (with_reducible refine LeO.bind ?_ (fun _ => ?_))
   | exact ih0 _ _
   | exact ih1 _ _ _ _ _
   | exact papermillref04_Common.mono _ _ _
   | exact papermillref52_one.mono _ _ _ _
   | exact LeO.none _
   | refine LeO.ite ?_ ?_
   | refine LeO.bind ?_ (fun _ => ?_)
theorem papermillref52_Together.mono : ∀ a0 k, LeO (papermillref52_Together.f k a0) (papermillref52_Together.f (k + 1) a0) := by
 intro a0 k
 obtain ⟨ih0, ih1⟩ := papermillref52_Together.mono_l k
 unfold papermillref52_Together.f
 repeat' first
   | (with_reducible exact ih0 _ _)
   | (with_reducible exact ih1 _ _ _ _ _)
   | (with_reducible exact papermillref04_Common.mono _ _ _)
   | (with_reducible exact papermillref52_one.mono _ _ _ _)
   | (with_reducible exact LeO.refl _)
   | (with_reducible exact LeO.none _)
   | (with_reducible refine LeO.ite ?_ ?_)
   | (with_reducible refine LeO.bind ?_ (fun _ => ?_))
   | exact ih0 _ _
   | exact ih1 _ _ _ _ _
   | exact papermillref04_Common.mono _ _ _
   | exact papermillref52_one.mono _ _ _ _
   | exact LeO.none _
   | refine LeO.ite ?_ ?_
   | refine LeO.bind ?_ (fun _ => ?_)
def papermillref52_Together.T11 : Bool × List (List Nat × List Nat) := (true, [([], []), ([0], [0]), ([1], [1]), ([2], [2]), ([], []), ([], []), ([5], [5]), ([6], [6]), ([7], [7]), ([4, 8], [4, 8]), ([3, 9], [3, 9]), ([], []), ([11, 10, 9, 0, 1, 2, 3, 4, 5, 6, 7, 8, 9, 10, 11], [10, 11])])
def papermillref52_Together.B11 : List Nat := [0, 1, 3, 7, 0, 0, 32, 96, 224, 496, 1023, 0, 4095]
theorem papermillref52_Together.tab11 : rtab .any (opsOf Try.f22 11) = papermillref52_Together.T11 := by kernel_rfl
theorem papermillref52_Together.bits11 : waitsOk papermillref52_Together.T11.2 papermillref52_Together.B11 = true := by kernel_rfl
def papermillref52_Together.T15 : Bool × List (List Nat × List Nat) := (true, [([], []), ([0], [0]), ([], []), ([], []), ([2, 3], [2, 3]), ([4], [4]), ([5], [5]), ([1, 6], [1, 6]), ([7], [7]), ([8], [8]), ([8], [8]), ([9, 7, 0, 1, 2, 3, 4, 5, 6, 7, 8, 9], [9]), ([10, 11, 0, 1, 2, 3, 4, 5, 6, 7, 8, 9, 10, 11], [10])])
def papermillref52_Together.B15 : List Nat := [0, 1, 0, 0, 12, 28, 60, 127, 255, 511, 511, 1023, 4095]
theorem papermillref52_Together.tab15 : rtab .any (opsOf Try.f22 15) = papermillref52_Together.T15 := by kernel_rfl
theorem papermillref52_Together.bits15 : waitsOk papermillref52_Together.T15.2 papermillref52_Together.B15 = true := by kernel_rfl
def papermillref52_Together.T18 : Bool × List (List Nat × List Nat) := (true, [([], []), ([0], [0]), ([], []), ([], []), ([2, 3], [2, 3]), ([4], [4]), ([5], [5]), ([1, 6], [1, 6]), ([], []), ([7, 8], [7, 8]), ([9, 0, 1, 2, 3, 4, 5, 6, 7, 8, 9], [9])])
def papermillref52_Together.B18 : List Nat := [0, 1, 0, 0, 12, 28, 60, 127, 0, 511, 1023]
theorem papermillref52_Together.tab18 : rtab .any (opsOf Try.f22 18) = papermillref52_Together.T18 := by kernel_rfl
theorem papermillref52_Together.bits18 : waitsOk papermillref52_Together.T18.2 papermillref52_Together.B18 = true := by kernel_rfl
set_option maxHeartbeats 8000000 in
set_option maxRecDepth 100000 in
theorem papermillref52_Together.calls (k : Nat) (A0 : Option Addr) (c0 : Nat) (l0 : List (S25)) (r1 : Int) (r2 : List (S50)) (r3 : Int) (r4 : Int) (w : World) (hr0 : Kd.C k25 w A0 l0.length l0) (hc0 : l0.length ≤ c0) (h : papermillref52_Together.f k l0 = some (r1, r2, r3, r4)) :
  Calls Try.prog 22 #[.slice A0 l0.length c0] w fun e w' => ∃ v1_ : Value, e = .returned (.tuple #[.agg #[.int .i64 r1, v1_, .int .i64 r3], .int .i64 r4]) ∧ Kd.R k50 50 w' w.heap.size (fun _ => True) v1_ r2 ∧ Below w.heap.size w w' := by
 have hu25 := Try.underlying25
 have HR0 := Aside0.mk hr0
 have HC0 := Aside0.mk hc0
 clear hr0 hc0
 have HB := Aside0.mk (Below.refl w.heap.size w)
 have H : (if (l0.length : Int) = 0 then (some (0, ([] : List (S50)), 0, 10)) else (if (l0.length : Int) > 16 then (some (0, ([] : List (S50)), 0, 8)) else (papermillref52_Together.l0 k l0 0))) = some (r1, r2, r3, r4) := h
 clear h
 by_cases c2 : (l0.length : Int) = 0
 ·rw [if_pos c2] at H
  have c2b0 : ((l0.length : Int) == 0) = true := beq_iff_eq.mpr c2
  have c2b1 : ((l0.length : Int) != 0) = false := bne_eq_false_iff_eq.mpr c2
  clear c2
  simp only [Option.some.injEq, Prod.mk.injEq] at H
  obtain ⟨rfl, rfl, rfl, rfl⟩ := H
  go_enter Try.func22, Try.ntmps22
  go_wp2_with (first | ((with_reducible refine gate_dst (N := 2) rfl ?_); refine box_event ?hg (N := 2) ?hd (cs := #[.int .i64 0, .slice none 0 0, .int .i64 0]) (t := 25) ?hr ?_; (case hd => rfl); (case hg => rfl); (case hr => first | (go_simp; done) | (go_simp; rfl)); intro gb23001 hg w3 hbox hb; have n0_ := Aside0.mk (below_step (by repeat (first | exact HB.out | apply below_alloc | apply pw_below_drewN | apply below_drew1)) hb); have n1_ := Aside0.mk (hbox); have n2_ := Aside0.mk ((by rw [hg]; exact (below_size (by repeat (first | exact HB.out | apply below_alloc | apply pw_below_drewN | apply below_drew1))) : w.heap.size ≤ gb23001)); have n3_ := Aside0.mk ((by rw [hg]; exact (below_size (by repeat (first | exact HB.out | apply below_alloc | apply pw_below_drewN | apply below_drew1))) : w.heap.size ≤ gb23001)); clear HB; have HB := n0_; have BK23001 := n1_; have GW23001 := n2_; have GE23001 := n3_; clear n0_ n1_ n2_ n3_; clear hb hbox hg; have hcz4_0 : w3.cell? ⟨gb23001, 0, none⟩ = some (.int .i64 0) := (blk_cell BK23001.out 0).trans rfl; have hcz4_1 : w3.cell? ⟨gb23001, 1, none⟩ = some (.slice none 0 0) := (blk_cell BK23001.out 1).trans rfl; have hcz4_2 : w3.cell? ⟨gb23001, 2, none⟩ = some (.int .i64 0) := (blk_cell BK23001.out 2).trans rfl; have hfz4_0 := blk_frozen BK23001.out 0; have hfz4_1 := blk_frozen BK23001.out 1; have hfz4_2 := blk_frozen BK23001.out 2))
  refine bodyPost_ret (results_ct rfl _ _ gb23001 25 #[.int .i64 0, .slice none 0 0, .int .i64 0] (0, 0) _ rfl (by refine blk_put (cs := #[.int .i64 0, .slice none 0 0, .int .i64 0]) ?_ 2 _ rfl; refine blk_put (cs := #[.int .i64 0, .slice none 0 0, .int .i64 0]) ?_ 1 _ rfl; refine blk_put (cs := #[.int .i64 0, .slice none 0 0, .int .i64 0]) ?_ 0 _ rfl; exact BK23001.out) Try.underlying25 rfl (by kernel_rfl)) rfl ?_
  exact ⟨_, by first | rfl | (simp [errW_none, errW_some] <;> rfl) | (simp [*, errW_none, errW_some] <;> rfl), by first | exact Kd.R_nil _ _ _ _ _ | exact Kd.N_nil _ _ _ _ _ | exact Kd.V_nil _ _ _ _ _ | exact Kd.Q_nil _ _ _ _ _ | exact Kd.S_nil _ _ _ _ _, by repeat (first | exact HB.out | apply below_alloc | apply pw_below_drewN | apply below_drew1 | refine below_set ?_ GE23001.out)⟩
 ·rw [if_neg c2] at H
  have c2b0 : ((l0.length : Int) == 0) = false := beq_eq_false_iff_ne.mpr c2
  have c2b1 : ((l0.length : Int) != 0) = true := bne_iff_ne.mpr c2
  have c2b2 : ¬ (l0 = []) := fun h_ => c2 (by rw [h_]; rfl)
  by_cases c5 : (l0.length : Int) > 16
  ·rw [if_pos c5] at H
   have c5b0 : decide (16 < (l0.length : Int)) = true := decide_eq_true c5
   have c5b1 : decide (16 < l0.length) = true := decide_eq_true (by omega)
   clear c5
   simp only [Option.some.injEq, Prod.mk.injEq] at H
   obtain ⟨rfl, rfl, rfl, rfl⟩ := H
   go_enter Try.func22, Try.ntmps22
   go_wp2_with (first | ((with_reducible refine gate_dst (N := 2) rfl ?_); refine box_event ?hg (N := 2) ?hd (cs := #[.int .i64 0, .slice none 0 0, .int .i64 0]) (t := 25) ?hr ?_; (case hd => rfl); (case hg => rfl); (case hr => first | (go_simp; done) | (go_simp; rfl)); intro gb23001 hg w6 hbox hb; have n0_ := Aside0.mk (below_step (by repeat (first | exact HB.out | apply below_alloc | apply pw_below_drewN | apply below_drew1)) hb); have n1_ := Aside0.mk (hbox); have n2_ := Aside0.mk ((by rw [hg]; exact (below_size (by repeat (first | exact HB.out | apply below_alloc | apply pw_below_drewN | apply below_drew1))) : w.heap.size ≤ gb23001)); have n3_ := Aside0.mk ((by rw [hg]; exact (below_size (by repeat (first | exact HB.out | apply below_alloc | apply pw_below_drewN | apply below_drew1))) : w.heap.size ≤ gb23001)); clear HB; have HB := n0_; have BK23001 := n1_; have GW23001 := n2_; have GE23001 := n3_; clear n0_ n1_ n2_ n3_; clear hb hbox hg; have hcz7_0 : w6.cell? ⟨gb23001, 0, none⟩ = some (.int .i64 0) := (blk_cell BK23001.out 0).trans rfl; have hcz7_1 : w6.cell? ⟨gb23001, 1, none⟩ = some (.slice none 0 0) := (blk_cell BK23001.out 1).trans rfl; have hcz7_2 : w6.cell? ⟨gb23001, 2, none⟩ = some (.int .i64 0) := (blk_cell BK23001.out 2).trans rfl; have hfz7_0 := blk_frozen BK23001.out 0; have hfz7_1 := blk_frozen BK23001.out 1; have hfz7_2 := blk_frozen BK23001.out 2))
   refine bodyPost_ret (results_ct rfl _ _ gb23001 25 #[.int .i64 0, .slice none 0 0, .int .i64 0] (0, 0) _ rfl (by refine blk_put (cs := #[.int .i64 0, .slice none 0 0, .int .i64 0]) ?_ 2 _ rfl; refine blk_put (cs := #[.int .i64 0, .slice none 0 0, .int .i64 0]) ?_ 1 _ rfl; refine blk_put (cs := #[.int .i64 0, .slice none 0 0, .int .i64 0]) ?_ 0 _ rfl; exact BK23001.out) Try.underlying25 rfl (by kernel_rfl)) rfl ?_
   exact ⟨_, by first | rfl | (simp [errW_none, errW_some] <;> rfl) | (simp [*, errW_none, errW_some] <;> rfl), by first | exact Kd.R_nil _ _ _ _ _ | exact Kd.N_nil _ _ _ _ _ | exact Kd.V_nil _ _ _ _ _ | exact Kd.Q_nil _ _ _ _ _ | exact Kd.S_nil _ _ _ _ _, by repeat (first | exact HB.out | apply below_alloc | apply pw_below_drewN | apply below_drew1 | refine below_set ?_ GE23001.out)⟩
  ·rw [if_neg c5] at H
   have c5b0 : decide (16 < (l0.length : Int)) = false := decide_eq_false c5
   have c5b1 : decide (16 < l0.length) = false := decide_eq_false (by omega)
   clear c5
   have H' := Aside0.mk H
   clear H
   go_enter Try.func22, Try.ntmps22
   go_wp2_with (first | ((with_reducible refine gate_dst (N := 2) rfl ?_); refine box_event ?hg (N := 2) ?hd (cs := #[.int .i64 0, .slice none 0 0, .int .i64 0]) (t := 25) ?hr ?_; (case hd => rfl); (case hg => rfl); (case hr => first | (go_simp; done) | (go_simp; rfl)); intro gb23001 hg w8 hbox hb; have n0_ := Aside0.mk (below_step (by repeat (first | exact HB.out | apply below_alloc | apply pw_below_drewN | apply below_drew1)) hb); have n1_ := Aside0.mk (hbox); have n2_ := Aside0.mk ((by rw [hg]; exact (below_size (by repeat (first | exact HB.out | apply below_alloc | apply pw_below_drewN | apply below_drew1))) : w.heap.size ≤ gb23001)); have n3_ := Aside0.mk ((by rw [hg]; exact (below_size (by repeat (first | exact HB.out | apply below_alloc | apply pw_below_drewN | apply below_drew1))) : w.heap.size ≤ gb23001)); clear HB; have HB := n0_; have BK23001 := n1_; have GW23001 := n2_; have GE23001 := n3_; clear n0_ n1_ n2_ n3_; clear hb hbox hg))
   go_loopg [4] k (fun kq v4 w' => ∃ (x4_1 : Int) (x23002000_1 : Int) (x23002002_1 : Int), v4 = .int .i64 x4_1 ∧ Aside0 (papermillref52_Together.l0 kq l0 x4_1 = some (r1, r2, r3, r4)) ∧ Aside0 (kq ≤ k) ∧ Aside0 (w'.heap[gb23001]? = some (.cells #[.int .i64 x23002000_1, (.slice none 0 0), .int .i64 x23002002_1] 25 (0, 0))) ∧ Aside0 (Below w.heap.size w w'))
   case atStart => exact ⟨(0), (0), (0), (by first | rfl | (simp; done) | (simp [*]; done)), H', ⟨Nat.le_refl _⟩, ⟨by exact BK23001.out⟩, ⟨by repeat (first | exact HB.out | apply below_alloc | apply pw_below_drewN | apply below_drew1 | refine below_set ?_ GE23001.out)⟩⟩
   case round =>
    clear H'
    try clear c2
    try clear c2b0
    try clear c2b1
    try clear c2b2
    try clear p2
    try clear c5
    try clear c5b0
    try clear c5b1
    try clear hcz4_0
    try clear hcz4_1
    try clear hcz4_2
    try clear hcz7_0
    try clear hcz7_1
    try clear hcz7_2
    try clear hfz4_0
    try clear hfz4_1
    try clear hfz4_2
    try clear hfz7_0
    try clear hfz7_1
    try clear hfz7_2
    obtain ⟨x4_1, x23002000_1, x23002002_1, rfl, HA, HK1, BK23001, HB⟩ := hrel
    cases gk with
    | zero => exact absurd HA.out (by simp [papermillref52_Together.l0])
    | succ k1 =>
     have H := HA.out
     clear HA
     simp only [papermillref52_Together.l0] at H
     by_cases c9 : x4_1 < (l0.length : Int)
     ·rw [if_pos c9] at H
      have c9b0 : decide (x4_1 < (l0.length : Int)) = true := decide_eq_true c9
      clear c9
      by_cases c10 : 0 ≤ x4_1
      ·rw [if_pos c10] at H
       have c10b0 : decide (0 ≤ x4_1) = true := decide_eq_true c10
       clear c10
       replace H := Option.bind_eq_some_iff.mp H
       obtain ⟨t23003, A110, H⟩ := H
       replace H : (if t23003 = 0 then (papermillref52_Together.l0 k1 l0 (wrap64 (x4_1 + 1))) else (some (0, ([] : List (S50)), 0, t23003))) = some (r1, r2, r3, r4) := H
       have A11 := Aside0.mk A110
       clear A110
       by_cases c12 : t23003 = 0
       ·rw [if_pos c12] at H
        have c12b0 : (t23003 == 0) = true := beq_iff_eq.mpr c12
        have c12b1 : (t23003 != 0) = false := bne_eq_false_iff_eq.mpr c12
        clear c12
        have H' := Aside0.mk H
        clear H
        have p23002 : 0 ≤ (x4_1 : Int) := of_decide_eq_true (by assumption)
        have q23002 : x4_1 < (l0.length : Int) := of_decide_eq_true (by assumption)
        obtain ⟨ad23002, A23002_1, c23002_1, e23002, hx23002_0, hx23002_1, hx23002_2, hl23002_1, hi23002_1⟩ := at_T25 HR0.out x4_1 p23002 q23002
        cases e23002
        replace hx23002_0 := (HB.out.cell (World.block_lt_of_cell? w _ hx23002_0)).trans hx23002_0
        replace hx23002_1 := (HB.out.cell (World.block_lt_of_cell? w _ hx23002_1)).trans hx23002_1
        replace hx23002_2 := (HB.out.cell (World.block_lt_of_cell? w _ hx23002_2)).trans hx23002_2
        have HR23002_1 := Aside0.mk hi23002_1
        have HC23002_1 := Aside0.mk hl23002_1
        clear hi23002_1 hl23002_1
        replace p23002 := eq_true p23002
        replace q23002 := eq_true q23002
        go_wp2_with (first | ((with_reducible refine gate_callee (f := 41) rfl ?_); refine goesL_ (some 28) rfl rfl Try.func41 (by kernel_rfl) rfl #[.agg #[.int .i64 ((rd_T25 l0 x4_1).f0), .slice A23002_1 ((rd_T25 l0 x4_1).f1).length c23002_1, .int .i64 ((rd_T25 l0 x4_1).f2)]] rfl (by (try simp only [List.map_toArray, List.map_cons, List.map_nil]); first | done | rfl | (simp only [List.length_drop, List.length_take]; rfl)) ?_; (with_reducible refine (papermillref52_one.calls k1 ((rd_T25 l0 x4_1).f0) _ _ ((rd_T25 l0 x4_1).f1) ((rd_T25 l0 x4_1).f2) t23003 _ ?side1 ?side2 A11.out).mono ?_); (case side1 => exact (Kd.C_below HR23002_1.out HB.out)); (case side2 => exact HC23002_1.out); rintro e w13 ⟨rfl, hb⟩; refine ⟨_, rfl, ?_⟩; have n0_ := Aside0.mk (blk_below (g := gb23001) (o := .cells #[.int .i64 x23002000_1, .slice none 0 0, .int .i64 x23002002_1] 25 (0, 0)) (by exact BK23001.out) hb); have n1_ := Aside0.mk (below_step (by repeat (first | exact HB.out | apply below_alloc | apply pw_below_drewN | apply below_drew1 | refine below_set ?_ GE23001.out)) hb); clear BK23001; clear HB; have BK23001 := n0_; have HB := n1_; clear n0_ n1_; (try clear hb); (try clear hb2); (try clear hk); (try clear hi)))
        go_roundg k1
        case measure => have := HK1.out; omega
        case rel => exact ⟨(wrap64 (x4_1 + 1)), (x23002000_1), (x23002002_1), (by first | rfl | (simp; done) | (simp [*]; done)), H', ⟨by have := HK1.out; omega⟩, ⟨by exact BK23001.out⟩, ⟨by repeat (first | exact HB.out | apply below_alloc | apply pw_below_drewN | apply below_drew1 | refine below_set ?_ GE23001.out)⟩⟩
       ·rw [if_neg c12] at H
        have c12b0 : (t23003 == 0) = false := beq_eq_false_iff_ne.mpr c12
        have c12b1 : (t23003 != 0) = true := bne_iff_ne.mpr c12
        simp only [Option.some.injEq, Prod.mk.injEq] at H
        obtain ⟨rfl, rfl, rfl, rfl⟩ := H
        have p23002 : 0 ≤ (x4_1 : Int) := of_decide_eq_true (by assumption)
        have q23002 : x4_1 < (l0.length : Int) := of_decide_eq_true (by assumption)
        obtain ⟨ad23002, A23002_1, c23002_1, e23002, hx23002_0, hx23002_1, hx23002_2, hl23002_1, hi23002_1⟩ := at_T25 HR0.out x4_1 p23002 q23002
        cases e23002
        replace hx23002_0 := (HB.out.cell (World.block_lt_of_cell? w _ hx23002_0)).trans hx23002_0
        replace hx23002_1 := (HB.out.cell (World.block_lt_of_cell? w _ hx23002_1)).trans hx23002_1
        replace hx23002_2 := (HB.out.cell (World.block_lt_of_cell? w _ hx23002_2)).trans hx23002_2
        have HR23002_1 := Aside0.mk hi23002_1
        have HC23002_1 := Aside0.mk hl23002_1
        clear hi23002_1 hl23002_1
        replace p23002 := eq_true p23002
        replace q23002 := eq_true q23002
        go_wp2_with (first | ((with_reducible refine gate_callee (f := 41) rfl ?_); refine goesL_ (some 28) rfl rfl Try.func41 (by kernel_rfl) rfl #[.agg #[.int .i64 ((rd_T25 l0 x4_1).f0), .slice A23002_1 ((rd_T25 l0 x4_1).f1).length c23002_1, .int .i64 ((rd_T25 l0 x4_1).f2)]] rfl (by (try simp only [List.map_toArray, List.map_cons, List.map_nil]); first | done | rfl | (simp only [List.length_drop, List.length_take]; rfl)) ?_; (with_reducible refine (papermillref52_one.calls k1 ((rd_T25 l0 x4_1).f0) _ _ ((rd_T25 l0 x4_1).f1) ((rd_T25 l0 x4_1).f2) t23003 _ ?side1 ?side2 A11.out).mono ?_); (case side1 => exact (Kd.C_below HR23002_1.out HB.out)); (case side2 => exact HC23002_1.out); rintro e w14 ⟨rfl, hb⟩; refine ⟨_, rfl, ?_⟩; have n0_ := Aside0.mk (blk_below (g := gb23001) (o := .cells #[.int .i64 x23002000_1, .slice none 0 0, .int .i64 x23002002_1] 25 (0, 0)) (by exact BK23001.out) hb); have n1_ := Aside0.mk (below_step (by repeat (first | exact HB.out | apply below_alloc | apply pw_below_drewN | apply below_drew1 | refine below_set ?_ GE23001.out)) hb); clear BK23001; clear HB; have BK23001 := n0_; have HB := n1_; clear n0_ n1_; (try clear hb); (try clear hb2); (try clear hk); (try clear hi); have hcz15_0 : w14.cell? ⟨gb23001, 0, none⟩ = some (.int .i64 x23002000_1) := (blk_cell BK23001.out 0).trans rfl; have hcz15_1 : w14.cell? ⟨gb23001, 1, none⟩ = some (.slice none 0 0) := (blk_cell BK23001.out 1).trans rfl; have hcz15_2 : w14.cell? ⟨gb23001, 2, none⟩ = some (.int .i64 x23002002_1) := (blk_cell BK23001.out 2).trans rfl; have hfz15_0 := blk_frozen BK23001.out 0; have hfz15_1 := blk_frozen BK23001.out 1; have hfz15_2 := blk_frozen BK23001.out 2))
        refine bodyPost_ret (results_ct rfl _ _ gb23001 25 #[.int .i64 0, .slice none 0 0, .int .i64 0] (0, 0) _ rfl (by refine blk_put (cs := #[.int .i64 0, .slice none 0 0, .int .i64 x23002002_1]) ?_ 2 _ rfl; refine blk_put (cs := #[.int .i64 0, .slice none 0 0, .int .i64 x23002002_1]) ?_ 1 _ rfl; refine blk_put (cs := #[.int .i64 x23002000_1, .slice none 0 0, .int .i64 x23002002_1]) ?_ 0 _ rfl; exact BK23001.out) Try.underlying25 rfl (by kernel_rfl)) rfl ?_
        exact ⟨_, by first | rfl | (simp [errW_none, errW_some] <;> rfl) | (simp [*, errW_none, errW_some] <;> rfl), by first | exact Kd.R_nil _ _ _ _ _ | exact Kd.N_nil _ _ _ _ _ | exact Kd.V_nil _ _ _ _ _ | exact Kd.Q_nil _ _ _ _ _ | exact Kd.S_nil _ _ _ _ _, by repeat (first | exact HB.out | apply below_alloc | apply pw_below_drewN | apply below_drew1 | refine below_set ?_ GE23001.out)⟩
      ·rw [if_neg c10] at H
       exact absurd H (by simp)
     ·rw [if_neg c9] at H
      have c9b0 : decide (x4_1 < (l0.length : Int)) = false := decide_eq_false c9
      clear c9
      by_cases c16 : 0 < (l0.length : Int)
      ·rw [if_pos c16] at H
       have c16b0 : decide (0 < (l0.length : Int)) = true := decide_eq_true c16
       have c16b1 : decide (0 < l0.length) = true := decide_eq_true (by omega)
       clear c16
       obtain ⟨y23005, hy23005⟩ : ∃ y_ : List (S50), y_ = (([] : List (S50))) := ⟨_, rfl⟩
       replace H : (if y23005.length + ((rd_T25 l0 0).f1).length < 8796093022208 then (papermillref52_Together.l1 k1 l0 1 ((rd_T25 l0 0).f0) (y23005 ++ ((rd_T25 l0 0).f1)) 0) else (none)) = some (r1, r2, r3, r4) := by first | (rw [hy23005]; with_reducible exact H) | (have H2_ := (Option.bind_some _ _).symm.trans H; rw [hy23005]; with_reducible exact H2_) | (have H2_ := (Option.bind_some _ _).symm.trans H; with_reducible exact H2_) | with_reducible exact H | (rw [hy23005]; exact H) | exact H
       have Ny23005 := Aside0.mk hy23005
       clear hy23005
       by_cases c17 : y23005.length + ((rd_T25 l0 0).f1).length < 8796093022208
       ·rw [if_pos c17] at H
        have LMc17 := Aside0.mk c17
        clear c17
        obtain ⟨y23009, hy23009⟩ : ∃ y_ : List (S50), y_ = (y23005 ++ ((rd_T25 l0 0).f1)) := ⟨_, rfl⟩
        replace H : (papermillref52_Together.l1 k1 l0 1 ((rd_T25 l0 0).f0) y23009 0) = some (r1, r2, r3, r4) := by first | (rw [hy23009]; with_reducible exact H) | (have H2_ := (Option.bind_some _ _).symm.trans H; rw [hy23009]; with_reducible exact H2_) | (have H2_ := (Option.bind_some _ _).symm.trans H; with_reducible exact H2_) | with_reducible exact H | (rw [hy23009]; exact H) | exact H
        have Ny23009 := Aside0.mk hy23009
        clear hy23009
        have H' := Aside0.mk H
        clear H
        try go_wp2
        have n0_ := Aside0.mk (blk_drew BK23001.out)
        have n1_ := Aside0.mk (below_drew1 HB.out)
        clear BK23001
        clear HB
        have BK23001 := n0_
        have HB := n1_
        clear n0_ n1_
        have p23004 : 0 ≤ (0 : Int) := (by omega)
        have q23004 : 0 < (l0.length : Int) := of_decide_eq_true (by assumption)
        obtain ⟨ad23004, A23004_1, c23004_1, e23004, hx23004_0, hx23004_1, hx23004_2, hl23004_1, hi23004_1⟩ := at_T25 HR0.out 0 p23004 q23004
        have hw23004_2 := hx23004_2
        (try rw [show ((0 : Int)).toNat = 0 from rfl] at hw23004_2)
        (try rw [show 0 * 3 = 0 from rfl] at hw23004_2)
        (try rw [Addr.add_zero'] at hw23004_2)
        have hw23004_1 := hx23004_1
        (try rw [show ((0 : Int)).toNat = 0 from rfl] at hw23004_1)
        (try rw [show 0 * 3 = 0 from rfl] at hw23004_1)
        (try rw [Addr.add_zero'] at hw23004_1)
        have hw23004_0 := hx23004_0
        (try rw [show ((0 : Int)).toNat = 0 from rfl] at hw23004_0)
        (try rw [show 0 * 3 = 0 from rfl] at hw23004_0)
        (try rw [Addr.add_zero'] at hw23004_0)
        cases e23004
        have qi23004 : (0 < l0.length) = True := eq_true (by omega)
        (try rw [show ((0 : Int)).toNat = 0 from rfl] at hx23004_0)
        (try rw [show 0 * 3 = 0 from rfl] at hx23004_0)
        (try rw [Addr.add_zero'] at hx23004_0)
        (try rw [show ((0 : Int)).toNat = 0 from rfl] at hx23004_1)
        (try rw [show 0 * 3 = 0 from rfl] at hx23004_1)
        (try rw [Addr.add_zero'] at hx23004_1)
        (try rw [show ((0 : Int)).toNat = 0 from rfl] at hx23004_2)
        (try rw [show 0 * 3 = 0 from rfl] at hx23004_2)
        (try rw [Addr.add_zero'] at hx23004_2)
        replace hx23004_0 := (HB.out.cell (World.block_lt_of_cell? w _ hx23004_0)).trans hx23004_0
        replace hx23004_1 := (HB.out.cell (World.block_lt_of_cell? w _ hx23004_1)).trans hx23004_1
        replace hx23004_2 := (HB.out.cell (World.block_lt_of_cell? w _ hx23004_2)).trans hx23004_2
        have HR23004_1 := Aside0.mk hi23004_1
        have HC23004_1 := Aside0.mk hl23004_1
        clear hi23004_1 hl23004_1
        replace p23004 := eq_true p23004
        replace q23004 := eq_true q23004
        have p23008 : 0 ≤ (0 : Int) := (by omega)
        have q23008 : 0 < (l0.length : Int) := of_decide_eq_true (by assumption)
        obtain ⟨ad23008, A23008_1, c23008_1, e23008, hx23008_0, hx23008_1, hx23008_2, hl23008_1, hi23008_1⟩ := at_T25 HR0.out 0 p23008 q23008
        have hw23008_2 := hx23008_2
        (try rw [show ((0 : Int)).toNat = 0 from rfl] at hw23008_2)
        (try rw [show 0 * 3 = 0 from rfl] at hw23008_2)
        (try rw [Addr.add_zero'] at hw23008_2)
        have hw23008_1 := hx23008_1
        (try rw [show ((0 : Int)).toNat = 0 from rfl] at hw23008_1)
        (try rw [show 0 * 3 = 0 from rfl] at hw23008_1)
        (try rw [Addr.add_zero'] at hw23008_1)
        have hw23008_0 := hx23008_0
        (try rw [show ((0 : Int)).toNat = 0 from rfl] at hw23008_0)
        (try rw [show 0 * 3 = 0 from rfl] at hw23008_0)
        (try rw [Addr.add_zero'] at hw23008_0)
        obtain rfl : ad23004 = ad23008 := (by injection e23008)
        have qi23008 : (0 < l0.length) = True := eq_true (by omega)
        (try rw [show ((0 : Int)).toNat = 0 from rfl] at hx23008_0)
        (try rw [show 0 * 3 = 0 from rfl] at hx23008_0)
        (try rw [Addr.add_zero'] at hx23008_0)
        (try rw [show ((0 : Int)).toNat = 0 from rfl] at hx23008_1)
        (try rw [show 0 * 3 = 0 from rfl] at hx23008_1)
        (try rw [Addr.add_zero'] at hx23008_1)
        (try rw [show ((0 : Int)).toNat = 0 from rfl] at hx23008_2)
        (try rw [show 0 * 3 = 0 from rfl] at hx23008_2)
        (try rw [Addr.add_zero'] at hx23008_2)
        replace hx23008_0 := (HB.out.cell (World.block_lt_of_cell? w _ hx23008_0)).trans hx23008_0
        replace hx23008_1 := (HB.out.cell (World.block_lt_of_cell? w _ hx23008_1)).trans hx23008_1
        replace hx23008_2 := (HB.out.cell (World.block_lt_of_cell? w _ hx23008_2)).trans hx23008_2
        have HR23008_1 := Aside0.mk hi23008_1
        have HC23008_1 := Aside0.mk hl23008_1
        clear hi23008_1 hl23008_1
        replace p23008 := eq_true p23008
        replace q23008 := eq_true q23008
        have ea_ := Option.some.inj (hx23004_1.symm.trans hx23008_1)
        injection ea_ with ea_ en_ ec_
        subst ea_
        subst ec_
        clear en_
        refine start_ (n := 13) (S := fun w' => w'.cell? ad23004 = some (.int .i64 ((rd_T25 l0 0).f0)) ∧ w'.cell? ⟨ad23004.block, ad23004.off + 1, none⟩ = some (.slice A23004_1 ((rd_T25 l0 0).f1).length c23004_1) ∧ w'.cell? ⟨ad23004.block, ad23004.off + 2, none⟩ = some (.int .i64 ((rd_T25 l0 0).f2)) ∧ w'.cell? ad23004 = some (.int .i64 ((rd_T25 l0 0).f0)) ∧ w'.cell? ⟨ad23004.block, ad23004.off + 1, none⟩ = some (.slice A23004_1 ((rd_T25 l0 0).f1).length c23004_1) ∧ w'.cell? ⟨ad23004.block, ad23004.off + 2, none⟩ = some (.int .i64 ((rd_T25 l0 0).f2))) (ds := []) #[false, false, false, false, false, false, false, false, false, false, false, false, false] (by kernel_rfl) rfl rfl ⟨((HB.out.cell (World.block_lt_of_cell? w _ hw23004_0)).trans hw23004_0), ((HB.out.cell (World.block_lt_of_cell? w _ hw23004_1)).trans hw23004_1), ((HB.out.cell (World.block_lt_of_cell? w _ hw23004_2)).trans hw23004_2), ((HB.out.cell (World.block_lt_of_cell? w _ hw23008_0)).trans hw23008_0), ((HB.out.cell (World.block_lt_of_cell? w _ hw23008_1)).trans hw23008_1), ((HB.out.cell (World.block_lt_of_cell? w _ hw23008_2)).trans hw23008_2)⟩ (fun hHeld => ?_); refine with_tabW papermillref52_Together.tab11 papermillref52_Together.bits11 (fun HT_ HW_ => ?_)
        generalize wr.drew = w18 at BK23001 HB HR23004_1 HR23008_1 hx23004_0 hx23004_1 hx23004_2 hx23008_0 hx23008_1 hx23008_2 hHeld ⊢
        refine pure_ (i := 0) (N := some 33) (v := ?_) (a' := ?_) #[true, false, false, false, false, false, false, false, false, false, false, false, false] rfl rfl (any_of HT_.out (by kernel_rfl)) (fun _ _ _ h => h) (Or.inl ⟨by rfl, ?_⟩) ?_ ?_
        rotate_left
        ·intro w'
         go_simp
         with_reducible rfl
        rotate_left
        ·simp only [Act.put, List.setIfInBounds_toArray, List.set_cons_zero, List.set_cons_succ, i64_w, i32_w]
         rfl
        refine pure_ (i := 1) (N := some 34) (v := ?_) (a' := ?_) #[true, true, false, false, false, false, false, false, false, false, false, false, false] rfl rfl (any_of HT_.out (by kernel_rfl)) (fun _ _ _ h => h) (Or.inl ⟨by rfl, ?_⟩) ?_ ?_
        rotate_left
        ·intro w'
         go_simp
         with_reducible rfl
        rotate_left
        ·simp only [Act.put, List.setIfInBounds_toArray, List.set_cons_zero, List.set_cons_succ, i64_w, i32_w]
         rfl
        refine pure_ (i := 2) (N := some 35) (v := ?_) (a' := ?_) #[true, true, true, false, false, false, false, false, false, false, false, false, false] rfl rfl (any_of HT_.out (by kernel_rfl)) (fun _ _ _ h => h) (Or.inl ⟨by rfl, ?_⟩) ?_ ?_
        rotate_left
        ·intro w'
         go_simp
         with_reducible rfl
        rotate_left
        ·simp only [Act.put, List.setIfInBounds_toArray, List.set_cons_zero, List.set_cons_succ, i64_w, i32_w]
         rfl
        refine pure_ (i := 5) (N := some 38) (v := ?_) (a' := ?_) #[true, true, true, false, false, true, false, false, false, false, false, false, false] rfl rfl (any_of HT_.out (by kernel_rfl)) (fun _ _ _ h => h) (Or.inl ⟨by rfl, ?_⟩) ?_ ?_
        rotate_left
        ·intro w'
         go_simp
         with_reducible rfl
        rotate_left
        ·simp only [Act.put, List.setIfInBounds_toArray, List.set_cons_zero, List.set_cons_succ, i64_w, i32_w]
         rfl
        refine pure_ (i := 6) (N := some 39) (v := ?_) (a' := ?_) #[true, true, true, false, false, true, true, false, false, false, false, false, false] rfl rfl (any_of HT_.out (by kernel_rfl)) (fun _ _ _ h => h) (Or.inl ⟨by rfl, ?_⟩) ?_ ?_
        rotate_left
        ·intro w'
         go_simp
         with_reducible rfl
        rotate_left
        ·simp only [Act.put, List.setIfInBounds_toArray, List.set_cons_zero, List.set_cons_succ, i64_w, i32_w]
         rfl
        refine pure_ (i := 7) (N := some 40) (v := ?_) (a' := ?_) #[true, true, true, false, false, true, true, true, false, false, false, false, false] rfl rfl (any_of HT_.out (by kernel_rfl)) (fun _ _ _ h => h) (Or.inl ⟨by rfl, ?_⟩) ?_ ?_
        rotate_left
        ·intro w'
         go_simp
         with_reducible rfl
        rotate_left
        ·simp only [Act.put, List.setIfInBounds_toArray, List.set_cons_zero, List.set_cons_succ, i64_w, i32_w]
         rfl
        refine take_ (i := 3) (N := some 36) (v := ?_) (a' := ?_) #[true, true, true, true, false, true, true, true, false, false, false, false, false] rfl rfl (take_ofW HT_.out HW_.out (by kernel_rfl)) (fun _ _ _ h => h) (Or.inl ⟨by rfl, ?_⟩) hHeld ?_ ?_
        rotate_left
        ·rintro w' ⟨s0, s1, s2, s3, s4, s5⟩
         go_simp
         with_reducible rfl
        rotate_left
        ·simp only [Act.put, List.setIfInBounds_toArray, List.set_cons_zero, List.set_cons_succ, i64_w, i32_w]
         rfl
        refine take_ (i := 8) (N := some 41) (v := ?_) (a' := ?_) #[true, true, true, true, false, true, true, true, true, false, false, false, false] rfl rfl (take_ofW HT_.out HW_.out (by kernel_rfl)) (fun _ _ _ h => h) (Or.inl ⟨by rfl, ?_⟩) hHeld ?_ ?_
        rotate_left
        ·rintro w' ⟨s0, s1, s2, s3, s4, s5⟩
         go_simp
         with_reducible rfl
        rotate_left
        ·simp only [Act.put, List.setIfInBounds_toArray, List.set_cons_zero, List.set_cons_succ, i64_w, i32_w]
         rfl
        refine join_ (σ := Value × Value × Nat) 1 #[true, true, true, true, true, true, true, true, true, true, true, true, false] (fun s_ => [(37, s_.1), (42, s_.2.1), (6, .pointer (some ⟨s_.2.2, 0, none⟩)), (43, .agg #[.int .i64 ((rd_T25 l0 0).f0), s_.2.1, .int .i64 0])]) (fun s_ w' => (w'.cell? ad23004 = some (.int .i64 ((rd_T25 l0 0).f0)) ∧ w'.cell? ⟨ad23004.block, ad23004.off + 1, none⟩ = some (.slice A23004_1 ((rd_T25 l0 0).f1).length c23004_1) ∧ w'.cell? ⟨ad23004.block, ad23004.off + 2, none⟩ = some (.int .i64 ((rd_T25 l0 0).f2)) ∧ w'.cell? ad23004 = some (.int .i64 ((rd_T25 l0 0).f0)) ∧ w'.cell? ⟨ad23004.block, ad23004.off + 1, none⟩ = some (.slice A23004_1 ((rd_T25 l0 0).f1).length c23004_1) ∧ w'.cell? ⟨ad23004.block, ad23004.off + 2, none⟩ = some (.int .i64 ((rd_T25 l0 0).f2))) ∧ (Kd.R k50 50 w' w.heap.size (fun _ => True) s_.2.1 y23009) ∧ (w'.heap[gb23001]? = some (.cells #[.int .i64 x23002000_1, .slice none 0 0, .int .i64 x23002002_1] 25 (0, 0))) ∧ (w'.heap[s_.2.2]? = some (.cells #[.int .i64 0, .slice none 0 0, .int .i64 0] 25 (0, 0))) ∧ (w.heap.size ≤ s_.2.2) ∧ (w.heap.size ≤ s_.2.2) ∧ (gb23001 ≠ s_.2.2) ∧ (s_.2.2 ≠ gb23001) ∧ (Below w.heap.size w w')) ?_ ?_
        rotate_left
        ·intro hCont
         refine two_ (i := 4) (j := 11) (Ni := some 37) (Nj := some 6) #[true, true, true, true, true, true, true, true, true, false, false, false, false] #[true, true, true, true, false, true, true, true, true, false, false, true, false] rfl rfl rfl rfl (two_of HT_.out (by kernel_rfl)) (by decide) (by decide) (fun K hK => ?_) (fun K hK => ?_)
         ·skip
          refine Kd.R_lit_step k50 _ 50 ?hg (N := 37) ?hd (xs := ([] : List (S50))) (inner := []) (ok := fun _ => True) (okp := fun _ => True) ?hr ?hp (fun _ hk => hk) trivial (Below.refl _ _) (Nat.le_refl _) (by simp) ?_; (case hd => rfl); (case hg => rfl); (case hr => first | (go_simp; done) | (go_simp; rfl)); (case hp => exact (Reps.none _ _))
          intro v23006 w19 ho20 hb hg_ hnew_
          clear hg_ hnew_
          (first | rw [← Ny23005.out] at ho20 | (simp only [Int.reduceToNat] at ho20; rw [← Ny23005.out] at ho20))
          have n0_ := Aside0.mk (Kd.R_lower ho20 (below_size (by repeat (first | exact HB.out | apply below_alloc | apply pw_below_drewN | apply below_drew1 | refine below_set ?_ GE23001.out))))
          have n1_ := Aside0.mk (blk_below (g := gb23001) (o := .cells #[.int .i64 x23002000_1, .slice none 0 0, .int .i64 x23002002_1] 25 (0, 0)) (by exact BK23001.out) hb)
          have n2_ := Aside0.mk (below_step (by repeat (first | exact HB.out | apply below_alloc | apply pw_below_drewN | apply below_drew1 | refine below_set ?_ GE23001.out)) hb)
          clear BK23001
          clear HB
          have HO23007 := n0_
          have BK23001 := n1_
          have HB := n2_
          clear n0_ n1_ n2_
          clear hb ho20
          refine hK.out _ _ ⟨((HB.out.cell (World.block_lt_of_cell? w _ hw23004_0)).trans hw23004_0), ((HB.out.cell (World.block_lt_of_cell? w _ hw23004_1)).trans hw23004_1), ((HB.out.cell (World.block_lt_of_cell? w _ hw23004_2)).trans hw23004_2), ((HB.out.cell (World.block_lt_of_cell? w _ hw23008_0)).trans hw23008_0), ((HB.out.cell (World.block_lt_of_cell? w _ hw23008_1)).trans hw23008_1), ((HB.out.cell (World.block_lt_of_cell? w _ hw23008_2)).trans hw23008_2)⟩ (fun hHeld => ?_)
          clear hK K
          refine norm_ (a' := ?_) ?_ ?_
          rotate_left
          ·show Act.put _ (some 37) _ = _
           simp only [Act.put, List.setIfInBounds_toArray, List.set_cons_zero, List.set_cons_succ, i64_w, i32_w]
           rfl
          refine two_ (i := 9) (j := 11) (Ni := some 42) (Nj := some 6) #[true, true, true, true, true, true, true, true, true, true, false, false, false] #[true, true, true, true, true, true, true, true, true, false, false, true, false] rfl rfl rfl rfl (two_of HT_.out (by kernel_rfl)) (by decide) (by decide) (fun K hK => ?_) (fun K hK => ?_)
          ·skip
           refine Kd.R_append_rows_step k50 (w0 := w) w.heap.size (by rfl) (.tmp 37) (.tmp 41) 22 50 (.agg #[(.int .i64 0), (.int .i64 0)]) 16 rfl Try.underlying22 info50 rfl (by decide) (by omega) v23006 y23005 ((rd_T25 l0 0).f1) _ _ _ (fun _ => True) (fun _ => False) rfl rfl ?aO ?aR (fun _ _ h => h) (fun _ h => h.elim) ?aF ?aB ?aS ?aL ?_
           (case aR => exact (Kd.C_below HR23008_1.out HB.out))
           (case aB => exact (by repeat (first | exact HB.out | apply below_alloc | apply pw_below_drewN | apply below_drew1 | refine below_set ?_ GE23001.out)))
           (case aF => exact (fun _ _ => trivial))
           (case aO => exact (by exact HO23007.out))
           (case aS => exact (below_size (by repeat (first | exact HB.out | apply below_alloc | apply pw_below_drewN | apply below_drew1 | refine below_set ?_ GE23001.out))))
           (case aL => have := LMc17.out; omega)
           intro v23010 w21 ho hb hg hat
           rw [← Ny23009.out] at ho
           have n0_ := Aside0.mk (blk_grown (g := gb23001) (o := .cells #[.int .i64 x23002000_1, .slice none 0 0, .int .i64 x23002002_1] 25 (0, 0)) (by exact BK23001.out) hg (Kd.R_ne HO23007.out BK23001.out (by decide)))
           have n1_ := Aside0.mk (hb)
           have n2_ := Aside0.mk (ho)
           clear BK23001
           clear HB
           clear HO23007
           have BK23001 := n0_
           have HB := n1_
           have HO23011 := n2_
           clear n0_ n1_ n2_
           clear ho hb hg hat
           obtain ⟨Ao22, co22, eo22⟩ := Kd.R_slice HO23011.out
           (first | subst eo22 | (injection eo22 with f1_ f2_ f3_; have f4_ := f1_.symm; have f5_ := f3_.symm; clear f1_ f2_ f3_; subst f4_; subst f5_))
           refine hK.out _ _ ⟨((HB.out.cell (World.block_lt_of_cell? w _ hw23004_0)).trans hw23004_0), ((HB.out.cell (World.block_lt_of_cell? w _ hw23004_1)).trans hw23004_1), ((HB.out.cell (World.block_lt_of_cell? w _ hw23004_2)).trans hw23004_2), ((HB.out.cell (World.block_lt_of_cell? w _ hw23008_0)).trans hw23008_0), ((HB.out.cell (World.block_lt_of_cell? w _ hw23008_1)).trans hw23008_1), ((HB.out.cell (World.block_lt_of_cell? w _ hw23008_2)).trans hw23008_2)⟩ (fun hHeld => ?_)
           clear hK K
           refine norm_ (a' := ?_) ?_ ?_
           rotate_left
           ·show Act.put _ (some 42) _ = _
            simp only [Act.put, List.setIfInBounds_toArray, List.set_cons_zero, List.set_cons_succ, i64_w, i32_w]
            rfl
           refine pure_ (i := 10) (N := some 43) (v := ?_) (a' := ?_) #[true, true, true, true, true, true, true, true, true, true, true, false, false] rfl rfl (any_of HT_.out (by kernel_rfl)) (fun _ _ _ h => h) (Or.inl ⟨by rfl, ?_⟩) ?_ ?_
           rotate_left
           ·intro w'
            go_simp
            with_reducible rfl
           rotate_left
           ·simp only [Act.put, List.setIfInBounds_toArray, List.set_cons_zero, List.set_cons_succ, i64_w, i32_w]
            rfl
           refine one_ (i := 11) (N := some 6) #[true, true, true, true, true, true, true, true, true, true, true, true, false] rfl rfl (one_of HT_.out (by kernel_rfl)) (by decide) (fun K hK => ?_)
           refine box_step ?hg (N := 6) ?hd (cs := #[.int .i64 0, .slice none 0 0, .int .i64 0]) (t := 25) ?hr ?_; (case hd => rfl); (case hg => rfl); (case hr => first | (go_simp; done) | (go_simp; rfl))
           intro gb23012 hg w23 hbox hb
           have n0_ := Aside0.mk (Kd.R_below (by exact HO23011.out) hb)
           have n1_ := Aside0.mk (blk_below (g := gb23001) (o := .cells #[.int .i64 x23002000_1, .slice none 0 0, .int .i64 x23002002_1] 25 (0, 0)) (by exact BK23001.out) hb)
           have n2_ := Aside0.mk (below_step (by repeat (first | exact HB.out | apply below_alloc | apply pw_below_drewN | apply below_drew1 | refine below_set ?_ GE23001.out)) hb)
           have n3_ := Aside0.mk (hbox)
           have n4_ := Aside0.mk ((by rw [hg]; exact (below_size (by repeat (first | exact HB.out | apply below_alloc | apply pw_below_drewN | apply below_drew1 | refine below_set ?_ GE23001.out))) : w.heap.size ≤ gb23012))
           have n5_ := Aside0.mk ((by rw [hg]; exact (below_size (by repeat (first | exact HB.out | apply below_alloc | apply pw_below_drewN | apply below_drew1 | refine below_set ?_ GE23001.out))) : w.heap.size ≤ gb23012))
           have n6_ := Aside0.mk ((by rw [hg]; exact Nat.ne_of_lt (blk_lt (g := gb23001) (o := .cells #[.int .i64 x23002000_1, .slice none 0 0, .int .i64 x23002002_1] 25 (0, 0)) (by exact BK23001.out)) : gb23001 ≠ gb23012))
           have n7_ := Aside0.mk ((by rw [hg]; exact Nat.ne_of_gt (blk_lt (g := gb23001) (o := .cells #[.int .i64 x23002000_1, .slice none 0 0, .int .i64 x23002002_1] 25 (0, 0)) (by exact BK23001.out)) : gb23012 ≠ gb23001))
           clear HO23011
           clear BK23001
           clear HB
           have HO23011 := n0_
           have BK23001 := n1_
           have HB := n2_
           have BK23012 := n3_
           have GW23012 := n4_
           have GE23012 := n5_
           have NB23001_23012 := n6_
           have NB23012_23001 := n7_
           clear n0_ n1_ n2_ n3_ n4_ n5_ n6_ n7_
           clear hb hbox hg
           refine hK.out _ _ ⟨((HB.out.cell (World.block_lt_of_cell? w _ hw23004_0)).trans hw23004_0), ((HB.out.cell (World.block_lt_of_cell? w _ hw23004_1)).trans hw23004_1), ((HB.out.cell (World.block_lt_of_cell? w _ hw23004_2)).trans hw23004_2), ((HB.out.cell (World.block_lt_of_cell? w _ hw23008_0)).trans hw23008_0), ((HB.out.cell (World.block_lt_of_cell? w _ hw23008_1)).trans hw23008_1), ((HB.out.cell (World.block_lt_of_cell? w _ hw23008_2)).trans hw23008_2)⟩ (fun hHeld => ?_)
           clear hK K
           refine norm_ (a' := ?_) ?_ ?_
           rotate_left
           ·show Act.put _ (some 6) _ = _
            simp only [Act.put, List.setIfInBounds_toArray, List.set_cons_zero, List.set_cons_succ, i64_w, i32_w]
            rfl
           exact norm_ (by simp only [putAll, Act.put, List.setIfInBounds_toArray, List.set_cons_zero, List.set_cons_succ]) (hCont (v23006, .slice Ao22 y23009.length co22, gb23012) _ ⟨hHeld, (by exact HO23011.out), (by exact BK23001.out), (by exact BK23012.out), GW23012.out, GE23012.out, NB23001_23012.out, NB23012_23001.out, (by repeat (first | exact HB.out | apply below_alloc | apply pw_below_drewN | apply below_drew1 | refine below_set ?_ GE23001.out | refine below_set ?_ GE23012.out))⟩)
          ·skip
           refine box_step ?hg (N := 6) ?hd (cs := #[.int .i64 0, .slice none 0 0, .int .i64 0]) (t := 25) ?hr ?_; (case hd => rfl); (case hg => rfl); (case hr => first | (go_simp; done) | (go_simp; rfl))
           intro gb23012 hg w21 hbox hb
           have n0_ := Aside0.mk (Kd.R_below (by exact HO23007.out) hb)
           have n1_ := Aside0.mk (blk_below (g := gb23001) (o := .cells #[.int .i64 x23002000_1, .slice none 0 0, .int .i64 x23002002_1] 25 (0, 0)) (by exact BK23001.out) hb)
           have n2_ := Aside0.mk (below_step (by repeat (first | exact HB.out | apply below_alloc | apply pw_below_drewN | apply below_drew1 | refine below_set ?_ GE23001.out)) hb)
           have n3_ := Aside0.mk (hbox)
           have n4_ := Aside0.mk ((by rw [hg]; exact (below_size (by repeat (first | exact HB.out | apply below_alloc | apply pw_below_drewN | apply below_drew1 | refine below_set ?_ GE23001.out))) : w.heap.size ≤ gb23012))
           have n5_ := Aside0.mk ((by rw [hg]; exact (below_size (by repeat (first | exact HB.out | apply below_alloc | apply pw_below_drewN | apply below_drew1 | refine below_set ?_ GE23001.out))) : w.heap.size ≤ gb23012))
           have n6_ := Aside0.mk ((by rw [hg]; exact Nat.ne_of_lt (blk_lt (g := gb23001) (o := .cells #[.int .i64 x23002000_1, .slice none 0 0, .int .i64 x23002002_1] 25 (0, 0)) (by exact BK23001.out)) : gb23001 ≠ gb23012))
           have n7_ := Aside0.mk ((by rw [hg]; exact Nat.ne_of_gt (blk_lt (g := gb23001) (o := .cells #[.int .i64 x23002000_1, .slice none 0 0, .int .i64 x23002002_1] 25 (0, 0)) (by exact BK23001.out)) : gb23012 ≠ gb23001))
           clear HO23007
           clear BK23001
           clear HB
           have HO23007 := n0_
           have BK23001 := n1_
           have HB := n2_
           have BK23012 := n3_
           have GW23012 := n4_
           have GE23012 := n5_
           have NB23001_23012 := n6_
           have NB23012_23001 := n7_
           clear n0_ n1_ n2_ n3_ n4_ n5_ n6_ n7_
           clear hb hbox hg
           refine hK.out _ _ ⟨((HB.out.cell (World.block_lt_of_cell? w _ hw23004_0)).trans hw23004_0), ((HB.out.cell (World.block_lt_of_cell? w _ hw23004_1)).trans hw23004_1), ((HB.out.cell (World.block_lt_of_cell? w _ hw23004_2)).trans hw23004_2), ((HB.out.cell (World.block_lt_of_cell? w _ hw23008_0)).trans hw23008_0), ((HB.out.cell (World.block_lt_of_cell? w _ hw23008_1)).trans hw23008_1), ((HB.out.cell (World.block_lt_of_cell? w _ hw23008_2)).trans hw23008_2)⟩ (fun hHeld => ?_)
           clear hK K
           refine norm_ (a' := ?_) ?_ ?_
           rotate_left
           ·show Act.put _ (some 6) _ = _
            simp only [Act.put, List.setIfInBounds_toArray, List.set_cons_zero, List.set_cons_succ, i64_w, i32_w]
            rfl
           refine one_ (i := 9) (N := some 42) #[true, true, true, true, true, true, true, true, true, true, false, true, false] rfl rfl (one_of HT_.out (by kernel_rfl)) (by decide) (fun K hK => ?_)
           refine Kd.R_append_rows_step k50 (w0 := w) w.heap.size (by rfl) (.tmp 37) (.tmp 41) 22 50 (.agg #[(.int .i64 0), (.int .i64 0)]) 16 rfl Try.underlying22 info50 rfl (by decide) (by omega) v23006 y23005 ((rd_T25 l0 0).f1) _ _ _ (fun _ => True) (fun _ => False) rfl rfl ?aO ?aR (fun _ _ h => h) (fun _ h => h.elim) ?aF ?aB ?aS ?aL ?_
           (case aR => exact (Kd.C_below HR23008_1.out HB.out))
           (case aB => exact (by repeat (first | exact HB.out | apply below_alloc | apply pw_below_drewN | apply below_drew1 | refine below_set ?_ GE23001.out | refine below_set ?_ GE23012.out)))
           (case aF => exact (fun _ _ => trivial))
           (case aO => exact (by exact HO23007.out))
           (case aS => exact (below_size (by repeat (first | exact HB.out | apply below_alloc | apply pw_below_drewN | apply below_drew1 | refine below_set ?_ GE23001.out | refine below_set ?_ GE23012.out))))
           (case aL => have := LMc17.out; omega)
           intro v23010 w22 ho hb hg hat
           rw [← Ny23009.out] at ho
           have n0_ := Aside0.mk (blk_grown (g := gb23001) (o := .cells #[.int .i64 x23002000_1, .slice none 0 0, .int .i64 x23002002_1] 25 (0, 0)) (by exact BK23001.out) hg (Kd.R_ne HO23007.out BK23001.out (by decide)))
           have n1_ := Aside0.mk (blk_grown (g := gb23012) (o := .cells #[.int .i64 0, .slice none 0 0, .int .i64 0] 25 (0, 0)) (by exact BK23012.out) hg (Kd.R_ne HO23007.out BK23012.out (by decide)))
           have n2_ := Aside0.mk (hb)
           have n3_ := Aside0.mk (ho)
           clear BK23001
           clear BK23012
           clear HB
           clear HO23007
           have BK23001 := n0_
           have BK23012 := n1_
           have HB := n2_
           have HO23011 := n3_
           clear n0_ n1_ n2_ n3_
           clear ho hb hg hat
           obtain ⟨Ao23, co23, eo23⟩ := Kd.R_slice HO23011.out
           (first | subst eo23 | (injection eo23 with f1_ f2_ f3_; have f4_ := f1_.symm; have f5_ := f3_.symm; clear f1_ f2_ f3_; subst f4_; subst f5_))
           refine hK.out _ _ ⟨((HB.out.cell (World.block_lt_of_cell? w _ hw23004_0)).trans hw23004_0), ((HB.out.cell (World.block_lt_of_cell? w _ hw23004_1)).trans hw23004_1), ((HB.out.cell (World.block_lt_of_cell? w _ hw23004_2)).trans hw23004_2), ((HB.out.cell (World.block_lt_of_cell? w _ hw23008_0)).trans hw23008_0), ((HB.out.cell (World.block_lt_of_cell? w _ hw23008_1)).trans hw23008_1), ((HB.out.cell (World.block_lt_of_cell? w _ hw23008_2)).trans hw23008_2)⟩ (fun hHeld => ?_)
           clear hK K
           refine norm_ (a' := ?_) ?_ ?_
           rotate_left
           ·show Act.put _ (some 42) _ = _
            simp only [Act.put, List.setIfInBounds_toArray, List.set_cons_zero, List.set_cons_succ, i64_w, i32_w]
            rfl
           refine pure_ (i := 10) (N := some 43) (v := ?_) (a' := ?_) #[true, true, true, true, true, true, true, true, true, true, true, true, false] rfl rfl (any_of HT_.out (by kernel_rfl)) (fun _ _ _ h => h) (Or.inl ⟨by rfl, ?_⟩) ?_ ?_
           rotate_left
           ·intro w'
            go_simp
            with_reducible rfl
           rotate_left
           ·simp only [Act.put, List.setIfInBounds_toArray, List.set_cons_zero, List.set_cons_succ, i64_w, i32_w]
            rfl
           exact norm_ (by simp only [putAll, Act.put, List.setIfInBounds_toArray, List.set_cons_zero, List.set_cons_succ]) (hCont (v23006, .slice Ao23 y23009.length co23, gb23012) _ ⟨hHeld, (by exact HO23011.out), (by exact BK23001.out), (by exact BK23012.out), GW23012.out, GE23012.out, NB23001_23012.out, NB23012_23001.out, (by repeat (first | exact HB.out | apply below_alloc | apply pw_below_drewN | apply below_drew1 | refine below_set ?_ GE23001.out | refine below_set ?_ GE23012.out))⟩)
         ·skip
          refine box_step ?hg (N := 6) ?hd (cs := #[.int .i64 0, .slice none 0 0, .int .i64 0]) (t := 25) ?hr ?_; (case hd => rfl); (case hg => rfl); (case hr => first | (go_simp; done) | (go_simp; rfl))
          intro gb23012 hg w19 hbox hb
          have n0_ := Aside0.mk (blk_below (g := gb23001) (o := .cells #[.int .i64 x23002000_1, .slice none 0 0, .int .i64 x23002002_1] 25 (0, 0)) (by exact BK23001.out) hb)
          have n1_ := Aside0.mk (below_step (by repeat (first | exact HB.out | apply below_alloc | apply pw_below_drewN | apply below_drew1 | refine below_set ?_ GE23001.out)) hb)
          have n2_ := Aside0.mk (hbox)
          have n3_ := Aside0.mk ((by rw [hg]; exact (below_size (by repeat (first | exact HB.out | apply below_alloc | apply pw_below_drewN | apply below_drew1 | refine below_set ?_ GE23001.out))) : w.heap.size ≤ gb23012))
          have n4_ := Aside0.mk ((by rw [hg]; exact (below_size (by repeat (first | exact HB.out | apply below_alloc | apply pw_below_drewN | apply below_drew1 | refine below_set ?_ GE23001.out))) : w.heap.size ≤ gb23012))
          have n5_ := Aside0.mk ((by rw [hg]; exact Nat.ne_of_lt (blk_lt (g := gb23001) (o := .cells #[.int .i64 x23002000_1, .slice none 0 0, .int .i64 x23002002_1] 25 (0, 0)) (by exact BK23001.out)) : gb23001 ≠ gb23012))
          have n6_ := Aside0.mk ((by rw [hg]; exact Nat.ne_of_gt (blk_lt (g := gb23001) (o := .cells #[.int .i64 x23002000_1, .slice none 0 0, .int .i64 x23002002_1] 25 (0, 0)) (by exact BK23001.out)) : gb23012 ≠ gb23001))
          clear BK23001
          clear HB
          have BK23001 := n0_
          have HB := n1_
          have BK23012 := n2_
          have GW23012 := n3_
          have GE23012 := n4_
          have NB23001_23012 := n5_
          have NB23012_23001 := n6_
          clear n0_ n1_ n2_ n3_ n4_ n5_ n6_
          clear hb hbox hg
          refine hK.out _ _ ⟨((HB.out.cell (World.block_lt_of_cell? w _ hw23004_0)).trans hw23004_0), ((HB.out.cell (World.block_lt_of_cell? w _ hw23004_1)).trans hw23004_1), ((HB.out.cell (World.block_lt_of_cell? w _ hw23004_2)).trans hw23004_2), ((HB.out.cell (World.block_lt_of_cell? w _ hw23008_0)).trans hw23008_0), ((HB.out.cell (World.block_lt_of_cell? w _ hw23008_1)).trans hw23008_1), ((HB.out.cell (World.block_lt_of_cell? w _ hw23008_2)).trans hw23008_2)⟩ (fun hHeld => ?_)
          clear hK K
          refine norm_ (a' := ?_) ?_ ?_
          rotate_left
          ·show Act.put _ (some 6) _ = _
           simp only [Act.put, List.setIfInBounds_toArray, List.set_cons_zero, List.set_cons_succ, i64_w, i32_w]
           rfl
          refine one_ (i := 4) (N := some 37) #[true, true, true, true, true, true, true, true, true, false, false, true, false] rfl rfl (one_of HT_.out (by kernel_rfl)) (by decide) (fun K hK => ?_)
          refine Kd.R_lit_step k50 _ 50 ?hg (N := 37) ?hd (xs := ([] : List (S50))) (inner := []) (ok := fun _ => True) (okp := fun _ => True) ?hr ?hp (fun _ hk => hk) trivial (Below.refl _ _) (Nat.le_refl _) (by simp) ?_; (case hd => rfl); (case hg => rfl); (case hr => first | (go_simp; done) | (go_simp; rfl)); (case hp => exact (Reps.none _ _))
          intro v23006 w20 ho21 hb hg_ hnew_
          clear hg_ hnew_
          (first | rw [← Ny23005.out] at ho21 | (simp only [Int.reduceToNat] at ho21; rw [← Ny23005.out] at ho21))
          have n0_ := Aside0.mk (Kd.R_lower ho21 (below_size (by repeat (first | exact HB.out | apply below_alloc | apply pw_below_drewN | apply below_drew1 | refine below_set ?_ GE23001.out | refine below_set ?_ GE23012.out))))
          have n1_ := Aside0.mk (blk_below (g := gb23001) (o := .cells #[.int .i64 x23002000_1, .slice none 0 0, .int .i64 x23002002_1] 25 (0, 0)) (by exact BK23001.out) hb)
          have n2_ := Aside0.mk (blk_below (g := gb23012) (o := .cells #[.int .i64 0, .slice none 0 0, .int .i64 0] 25 (0, 0)) (by exact BK23012.out) hb)
          have n3_ := Aside0.mk (below_step (by repeat (first | exact HB.out | apply below_alloc | apply pw_below_drewN | apply below_drew1 | refine below_set ?_ GE23001.out | refine below_set ?_ GE23012.out)) hb)
          clear BK23001
          clear BK23012
          clear HB
          have HO23007 := n0_
          have BK23001 := n1_
          have BK23012 := n2_
          have HB := n3_
          clear n0_ n1_ n2_ n3_
          clear hb ho21
          refine hK.out _ _ ⟨((HB.out.cell (World.block_lt_of_cell? w _ hw23004_0)).trans hw23004_0), ((HB.out.cell (World.block_lt_of_cell? w _ hw23004_1)).trans hw23004_1), ((HB.out.cell (World.block_lt_of_cell? w _ hw23004_2)).trans hw23004_2), ((HB.out.cell (World.block_lt_of_cell? w _ hw23008_0)).trans hw23008_0), ((HB.out.cell (World.block_lt_of_cell? w _ hw23008_1)).trans hw23008_1), ((HB.out.cell (World.block_lt_of_cell? w _ hw23008_2)).trans hw23008_2)⟩ (fun hHeld => ?_)
          clear hK K
          refine norm_ (a' := ?_) ?_ ?_
          rotate_left
          ·show Act.put _ (some 37) _ = _
           simp only [Act.put, List.setIfInBounds_toArray, List.set_cons_zero, List.set_cons_succ, i64_w, i32_w]
           rfl
          refine one_ (i := 9) (N := some 42) #[true, true, true, true, true, true, true, true, true, true, false, true, false] rfl rfl (one_of HT_.out (by kernel_rfl)) (by decide) (fun K hK => ?_)
          refine Kd.R_append_rows_step k50 (w0 := w) w.heap.size (by rfl) (.tmp 37) (.tmp 41) 22 50 (.agg #[(.int .i64 0), (.int .i64 0)]) 16 rfl Try.underlying22 info50 rfl (by decide) (by omega) v23006 y23005 ((rd_T25 l0 0).f1) _ _ _ (fun _ => True) (fun _ => False) rfl rfl ?aO ?aR (fun _ _ h => h) (fun _ h => h.elim) ?aF ?aB ?aS ?aL ?_
          (case aR => exact (Kd.C_below HR23008_1.out HB.out))
          (case aB => exact (by repeat (first | exact HB.out | apply below_alloc | apply pw_below_drewN | apply below_drew1 | refine below_set ?_ GE23001.out | refine below_set ?_ GE23012.out)))
          (case aF => exact (fun _ _ => trivial))
          (case aO => exact (by exact HO23007.out))
          (case aS => exact (below_size (by repeat (first | exact HB.out | apply below_alloc | apply pw_below_drewN | apply below_drew1 | refine below_set ?_ GE23001.out | refine below_set ?_ GE23012.out))))
          (case aL => have := LMc17.out; omega)
          intro v23010 w22 ho hb hg hat
          rw [← Ny23009.out] at ho
          have n0_ := Aside0.mk (blk_grown (g := gb23001) (o := .cells #[.int .i64 x23002000_1, .slice none 0 0, .int .i64 x23002002_1] 25 (0, 0)) (by exact BK23001.out) hg (Kd.R_ne HO23007.out BK23001.out (by decide)))
          have n1_ := Aside0.mk (blk_grown (g := gb23012) (o := .cells #[.int .i64 0, .slice none 0 0, .int .i64 0] 25 (0, 0)) (by exact BK23012.out) hg (Kd.R_ne HO23007.out BK23012.out (by decide)))
          have n2_ := Aside0.mk (hb)
          have n3_ := Aside0.mk (ho)
          clear BK23001
          clear BK23012
          clear HB
          clear HO23007
          have BK23001 := n0_
          have BK23012 := n1_
          have HB := n2_
          have HO23011 := n3_
          clear n0_ n1_ n2_ n3_
          clear ho hb hg hat
          obtain ⟨Ao23, co23, eo23⟩ := Kd.R_slice HO23011.out
          (first | subst eo23 | (injection eo23 with f1_ f2_ f3_; have f4_ := f1_.symm; have f5_ := f3_.symm; clear f1_ f2_ f3_; subst f4_; subst f5_))
          refine hK.out _ _ ⟨((HB.out.cell (World.block_lt_of_cell? w _ hw23004_0)).trans hw23004_0), ((HB.out.cell (World.block_lt_of_cell? w _ hw23004_1)).trans hw23004_1), ((HB.out.cell (World.block_lt_of_cell? w _ hw23004_2)).trans hw23004_2), ((HB.out.cell (World.block_lt_of_cell? w _ hw23008_0)).trans hw23008_0), ((HB.out.cell (World.block_lt_of_cell? w _ hw23008_1)).trans hw23008_1), ((HB.out.cell (World.block_lt_of_cell? w _ hw23008_2)).trans hw23008_2)⟩ (fun hHeld => ?_)
          clear hK K
          refine norm_ (a' := ?_) ?_ ?_
          rotate_left
          ·show Act.put _ (some 42) _ = _
           simp only [Act.put, List.setIfInBounds_toArray, List.set_cons_zero, List.set_cons_succ, i64_w, i32_w]
           rfl
          refine pure_ (i := 10) (N := some 43) (v := ?_) (a' := ?_) #[true, true, true, true, true, true, true, true, true, true, true, true, false] rfl rfl (any_of HT_.out (by kernel_rfl)) (fun _ _ _ h => h) (Or.inl ⟨by rfl, ?_⟩) ?_ ?_
          rotate_left
          ·intro w'
           go_simp
           with_reducible rfl
          rotate_left
          ·simp only [Act.put, List.setIfInBounds_toArray, List.set_cons_zero, List.set_cons_succ, i64_w, i32_w]
           rfl
          exact norm_ (by simp only [putAll, Act.put, List.setIfInBounds_toArray, List.set_cons_zero, List.set_cons_succ]) (hCont (v23006, .slice Ao23 y23009.length co23, gb23012) _ ⟨hHeld, (by exact HO23011.out), (by exact BK23001.out), (by exact BK23012.out), GW23012.out, GE23012.out, NB23001_23012.out, NB23012_23001.out, (by repeat (first | exact HB.out | apply below_alloc | apply pw_below_drewN | apply below_drew1 | refine below_set ?_ GE23001.out | refine below_set ?_ GE23012.out))⟩)
        rintro ⟨v23006, v23010, gb23012⟩ w24 ⟨hS_, h0_, h1_, h2_, h3_, h4_, h5_, h6_, h7_⟩
        have n0_ : Aside0 (Kd.R k50 50 w24 w.heap.size (fun _ => True) v23010 y23009) := ⟨h0_⟩
        have n1_ : Aside0 (w24.heap[gb23001]? = some (.cells #[.int .i64 x23002000_1, .slice none 0 0, .int .i64 x23002002_1] 25 (0, 0))) := ⟨h1_⟩
        have n2_ : Aside0 (w24.heap[gb23012]? = some (.cells #[.int .i64 0, .slice none 0 0, .int .i64 0] 25 (0, 0))) := ⟨h2_⟩
        have n3_ : Aside0 (w.heap.size ≤ gb23012) := ⟨h3_⟩
        have n4_ : Aside0 (w.heap.size ≤ gb23012) := ⟨h4_⟩
        have n5_ : Aside0 (gb23001 ≠ gb23012) := ⟨h5_⟩
        have n6_ : Aside0 (gb23012 ≠ gb23001) := ⟨h6_⟩
        have n7_ : Aside0 (Below w.heap.size w w24) := ⟨h7_⟩
        clear BK23001
        clear HB
        clear h0_ h1_ h2_ h3_ h4_ h5_ h6_ h7_
        have HO23011 := n0_
        have BK23001 := n1_
        have BK23012 := n2_
        have GW23012 := n3_
        have GE23012 := n4_
        have NB23001_23012 := n5_
        have NB23012_23001 := n6_
        have HB := n7_
        clear n0_ n1_ n2_ n3_ n4_ n5_ n6_ n7_
        have hHeld : w24.cell? ad23004 = some (.int .i64 ((rd_T25 l0 0).f0)) ∧ w24.cell? ⟨ad23004.block, ad23004.off + 1, none⟩ = some (.slice A23004_1 ((rd_T25 l0 0).f1).length c23004_1) ∧ w24.cell? ⟨ad23004.block, ad23004.off + 2, none⟩ = some (.int .i64 ((rd_T25 l0 0).f2)) ∧ w24.cell? ad23004 = some (.int .i64 ((rd_T25 l0 0).f0)) ∧ w24.cell? ⟨ad23004.block, ad23004.off + 1, none⟩ = some (.slice A23004_1 ((rd_T25 l0 0).f1).length c23004_1) ∧ w24.cell? ⟨ad23004.block, ad23004.off + 2, none⟩ = some (.int .i64 ((rd_T25 l0 0).f2)) := hS_
        obtain ⟨Ao25, co25, eo25⟩ := Kd.R_slice HO23011.out
        (first | subst eo25 | (injection eo25 with f1_ f2_ f3_; have f4_ := f1_.symm; have f5_ := f3_.symm; clear f1_ f2_ f3_; subst f4_; subst f5_))
        refine norm_ (a' := ?_) ?_ ?_
        rotate_left
        ·simp only [putAll, Act.put, List.setIfInBounds_toArray, List.set_cons_zero, List.set_cons_succ]
         rfl
        refine one_ (i := 12) (N := none) #[true, true, true, true, true, true, true, true, true, true, true, true, true] rfl rfl (one_of HT_.out (by kernel_rfl)) (by decide) (fun K hK => ?_)
        have hs26 : w24.cell? ⟨gb23012, 0, none⟩ = some (.int .i64 0) := (blk_cell BK23012.out 0).trans rfl
        have hfs26 := blk_frozen BK23012.out 0
        have hns26_0 := NB23001_23012.out
        have hms26_0 := NB23012_23001.out
        have hs27 : w24.cell? ⟨gb23012, 1, none⟩ = some (.slice none 0 0) := (blk_cell BK23012.out 1).trans rfl
        have hfs27 := blk_frozen BK23012.out 1
        have hns27_0 := NB23001_23012.out
        have hms27_0 := NB23012_23001.out
        have hs28 : w24.cell? ⟨gb23012, 2, none⟩ = some (.int .i64 0) := (blk_cell BK23012.out 2).trans rfl
        have hfs28 := blk_frozen BK23012.out 2
        have hns28_0 := NB23001_23012.out
        have hms28_0 := NB23012_23001.out
        refine skip_ (w1 := ?_) (by rfl) rfl ?_ ?_
        rotate_left
        ·go_simp
         rfl
        refine hK.out _ _ ⟨((cell_far (p := ⟨gb23012, _, none⟩) (by first | exact Nat.ne_of_lt (Nat.lt_of_lt_of_le (by have := World.block_lt_of_cell? _ _ hw23004_0; first | rwa [add_block] at this | exact this) GW23012.out) | (rw [add_block]; exact Nat.ne_of_lt (Nat.lt_of_lt_of_le (by have := World.block_lt_of_cell? _ _ hw23004_0; first | rwa [add_block] at this | exact this) GW23012.out)) | (show (Addr.add _ _).block ≠ _; rw [add_block]; exact Nat.ne_of_lt (Nat.lt_of_lt_of_le (by have := World.block_lt_of_cell? _ _ hw23004_0; first | rwa [add_block] at this | exact this) GW23012.out)) | (dsimp only; exact Nat.ne_of_lt (Nat.lt_of_lt_of_le (by have := World.block_lt_of_cell? _ _ hw23004_0; first | rwa [add_block] at this | exact this) GW23012.out))) _).trans (((cell_far (p := ⟨gb23012, _, none⟩) (by first | exact Nat.ne_of_lt (Nat.lt_of_lt_of_le (by have := World.block_lt_of_cell? _ _ hw23004_0; first | rwa [add_block] at this | exact this) GW23012.out) | (rw [add_block]; exact Nat.ne_of_lt (Nat.lt_of_lt_of_le (by have := World.block_lt_of_cell? _ _ hw23004_0; first | rwa [add_block] at this | exact this) GW23012.out)) | (show (Addr.add _ _).block ≠ _; rw [add_block]; exact Nat.ne_of_lt (Nat.lt_of_lt_of_le (by have := World.block_lt_of_cell? _ _ hw23004_0; first | rwa [add_block] at this | exact this) GW23012.out)) | (dsimp only; exact Nat.ne_of_lt (Nat.lt_of_lt_of_le (by have := World.block_lt_of_cell? _ _ hw23004_0; first | rwa [add_block] at this | exact this) GW23012.out))) _).trans (((cell_far (p := ⟨gb23012, _, none⟩) (by first | exact Nat.ne_of_lt (Nat.lt_of_lt_of_le (by have := World.block_lt_of_cell? _ _ hw23004_0; first | rwa [add_block] at this | exact this) GW23012.out) | (rw [add_block]; exact Nat.ne_of_lt (Nat.lt_of_lt_of_le (by have := World.block_lt_of_cell? _ _ hw23004_0; first | rwa [add_block] at this | exact this) GW23012.out)) | (show (Addr.add _ _).block ≠ _; rw [add_block]; exact Nat.ne_of_lt (Nat.lt_of_lt_of_le (by have := World.block_lt_of_cell? _ _ hw23004_0; first | rwa [add_block] at this | exact this) GW23012.out)) | (dsimp only; exact Nat.ne_of_lt (Nat.lt_of_lt_of_le (by have := World.block_lt_of_cell? _ _ hw23004_0; first | rwa [add_block] at this | exact this) GW23012.out))) _).trans (hHeld.1)))))), ((cell_far (p := ⟨gb23012, _, none⟩) (by first | exact Nat.ne_of_lt (Nat.lt_of_lt_of_le (by have := World.block_lt_of_cell? _ _ hw23004_1; first | rwa [add_block] at this | exact this) GW23012.out) | (rw [add_block]; exact Nat.ne_of_lt (Nat.lt_of_lt_of_le (by have := World.block_lt_of_cell? _ _ hw23004_1; first | rwa [add_block] at this | exact this) GW23012.out)) | (show (Addr.add _ _).block ≠ _; rw [add_block]; exact Nat.ne_of_lt (Nat.lt_of_lt_of_le (by have := World.block_lt_of_cell? _ _ hw23004_1; first | rwa [add_block] at this | exact this) GW23012.out)) | (dsimp only; exact Nat.ne_of_lt (Nat.lt_of_lt_of_le (by have := World.block_lt_of_cell? _ _ hw23004_1; first | rwa [add_block] at this | exact this) GW23012.out))) _).trans (((cell_far (p := ⟨gb23012, _, none⟩) (by first | exact Nat.ne_of_lt (Nat.lt_of_lt_of_le (by have := World.block_lt_of_cell? _ _ hw23004_1; first | rwa [add_block] at this | exact this) GW23012.out) | (rw [add_block]; exact Nat.ne_of_lt (Nat.lt_of_lt_of_le (by have := World.block_lt_of_cell? _ _ hw23004_1; first | rwa [add_block] at this | exact this) GW23012.out)) | (show (Addr.add _ _).block ≠ _; rw [add_block]; exact Nat.ne_of_lt (Nat.lt_of_lt_of_le (by have := World.block_lt_of_cell? _ _ hw23004_1; first | rwa [add_block] at this | exact this) GW23012.out)) | (dsimp only; exact Nat.ne_of_lt (Nat.lt_of_lt_of_le (by have := World.block_lt_of_cell? _ _ hw23004_1; first | rwa [add_block] at this | exact this) GW23012.out))) _).trans (((cell_far (p := ⟨gb23012, _, none⟩) (by first | exact Nat.ne_of_lt (Nat.lt_of_lt_of_le (by have := World.block_lt_of_cell? _ _ hw23004_1; first | rwa [add_block] at this | exact this) GW23012.out) | (rw [add_block]; exact Nat.ne_of_lt (Nat.lt_of_lt_of_le (by have := World.block_lt_of_cell? _ _ hw23004_1; first | rwa [add_block] at this | exact this) GW23012.out)) | (show (Addr.add _ _).block ≠ _; rw [add_block]; exact Nat.ne_of_lt (Nat.lt_of_lt_of_le (by have := World.block_lt_of_cell? _ _ hw23004_1; first | rwa [add_block] at this | exact this) GW23012.out)) | (dsimp only; exact Nat.ne_of_lt (Nat.lt_of_lt_of_le (by have := World.block_lt_of_cell? _ _ hw23004_1; first | rwa [add_block] at this | exact this) GW23012.out))) _).trans (hHeld.2.1)))))), ((cell_far (p := ⟨gb23012, _, none⟩) (by first | exact Nat.ne_of_lt (Nat.lt_of_lt_of_le (by have := World.block_lt_of_cell? _ _ hw23004_2; first | rwa [add_block] at this | exact this) GW23012.out) | (rw [add_block]; exact Nat.ne_of_lt (Nat.lt_of_lt_of_le (by have := World.block_lt_of_cell? _ _ hw23004_2; first | rwa [add_block] at this | exact this) GW23012.out)) | (show (Addr.add _ _).block ≠ _; rw [add_block]; exact Nat.ne_of_lt (Nat.lt_of_lt_of_le (by have := World.block_lt_of_cell? _ _ hw23004_2; first | rwa [add_block] at this | exact this) GW23012.out)) | (dsimp only; exact Nat.ne_of_lt (Nat.lt_of_lt_of_le (by have := World.block_lt_of_cell? _ _ hw23004_2; first | rwa [add_block] at this | exact this) GW23012.out))) _).trans (((cell_far (p := ⟨gb23012, _, none⟩) (by first | exact Nat.ne_of_lt (Nat.lt_of_lt_of_le (by have := World.block_lt_of_cell? _ _ hw23004_2; first | rwa [add_block] at this | exact this) GW23012.out) | (rw [add_block]; exact Nat.ne_of_lt (Nat.lt_of_lt_of_le (by have := World.block_lt_of_cell? _ _ hw23004_2; first | rwa [add_block] at this | exact this) GW23012.out)) | (show (Addr.add _ _).block ≠ _; rw [add_block]; exact Nat.ne_of_lt (Nat.lt_of_lt_of_le (by have := World.block_lt_of_cell? _ _ hw23004_2; first | rwa [add_block] at this | exact this) GW23012.out)) | (dsimp only; exact Nat.ne_of_lt (Nat.lt_of_lt_of_le (by have := World.block_lt_of_cell? _ _ hw23004_2; first | rwa [add_block] at this | exact this) GW23012.out))) _).trans (((cell_far (p := ⟨gb23012, _, none⟩) (by first | exact Nat.ne_of_lt (Nat.lt_of_lt_of_le (by have := World.block_lt_of_cell? _ _ hw23004_2; first | rwa [add_block] at this | exact this) GW23012.out) | (rw [add_block]; exact Nat.ne_of_lt (Nat.lt_of_lt_of_le (by have := World.block_lt_of_cell? _ _ hw23004_2; first | rwa [add_block] at this | exact this) GW23012.out)) | (show (Addr.add _ _).block ≠ _; rw [add_block]; exact Nat.ne_of_lt (Nat.lt_of_lt_of_le (by have := World.block_lt_of_cell? _ _ hw23004_2; first | rwa [add_block] at this | exact this) GW23012.out)) | (dsimp only; exact Nat.ne_of_lt (Nat.lt_of_lt_of_le (by have := World.block_lt_of_cell? _ _ hw23004_2; first | rwa [add_block] at this | exact this) GW23012.out))) _).trans (hHeld.2.2.1)))))), ((cell_far (p := ⟨gb23012, _, none⟩) (by first | exact Nat.ne_of_lt (Nat.lt_of_lt_of_le (by have := World.block_lt_of_cell? _ _ hw23008_0; first | rwa [add_block] at this | exact this) GW23012.out) | (rw [add_block]; exact Nat.ne_of_lt (Nat.lt_of_lt_of_le (by have := World.block_lt_of_cell? _ _ hw23008_0; first | rwa [add_block] at this | exact this) GW23012.out)) | (show (Addr.add _ _).block ≠ _; rw [add_block]; exact Nat.ne_of_lt (Nat.lt_of_lt_of_le (by have := World.block_lt_of_cell? _ _ hw23008_0; first | rwa [add_block] at this | exact this) GW23012.out)) | (dsimp only; exact Nat.ne_of_lt (Nat.lt_of_lt_of_le (by have := World.block_lt_of_cell? _ _ hw23008_0; first | rwa [add_block] at this | exact this) GW23012.out))) _).trans (((cell_far (p := ⟨gb23012, _, none⟩) (by first | exact Nat.ne_of_lt (Nat.lt_of_lt_of_le (by have := World.block_lt_of_cell? _ _ hw23008_0; first | rwa [add_block] at this | exact this) GW23012.out) | (rw [add_block]; exact Nat.ne_of_lt (Nat.lt_of_lt_of_le (by have := World.block_lt_of_cell? _ _ hw23008_0; first | rwa [add_block] at this | exact this) GW23012.out)) | (show (Addr.add _ _).block ≠ _; rw [add_block]; exact Nat.ne_of_lt (Nat.lt_of_lt_of_le (by have := World.block_lt_of_cell? _ _ hw23008_0; first | rwa [add_block] at this | exact this) GW23012.out)) | (dsimp only; exact Nat.ne_of_lt (Nat.lt_of_lt_of_le (by have := World.block_lt_of_cell? _ _ hw23008_0; first | rwa [add_block] at this | exact this) GW23012.out))) _).trans (((cell_far (p := ⟨gb23012, _, none⟩) (by first | exact Nat.ne_of_lt (Nat.lt_of_lt_of_le (by have := World.block_lt_of_cell? _ _ hw23008_0; first | rwa [add_block] at this | exact this) GW23012.out) | (rw [add_block]; exact Nat.ne_of_lt (Nat.lt_of_lt_of_le (by have := World.block_lt_of_cell? _ _ hw23008_0; first | rwa [add_block] at this | exact this) GW23012.out)) | (show (Addr.add _ _).block ≠ _; rw [add_block]; exact Nat.ne_of_lt (Nat.lt_of_lt_of_le (by have := World.block_lt_of_cell? _ _ hw23008_0; first | rwa [add_block] at this | exact this) GW23012.out)) | (dsimp only; exact Nat.ne_of_lt (Nat.lt_of_lt_of_le (by have := World.block_lt_of_cell? _ _ hw23008_0; first | rwa [add_block] at this | exact this) GW23012.out))) _).trans (hHeld.2.2.2.1)))))), ((cell_far (p := ⟨gb23012, _, none⟩) (by first | exact Nat.ne_of_lt (Nat.lt_of_lt_of_le (by have := World.block_lt_of_cell? _ _ hw23008_1; first | rwa [add_block] at this | exact this) GW23012.out) | (rw [add_block]; exact Nat.ne_of_lt (Nat.lt_of_lt_of_le (by have := World.block_lt_of_cell? _ _ hw23008_1; first | rwa [add_block] at this | exact this) GW23012.out)) | (show (Addr.add _ _).block ≠ _; rw [add_block]; exact Nat.ne_of_lt (Nat.lt_of_lt_of_le (by have := World.block_lt_of_cell? _ _ hw23008_1; first | rwa [add_block] at this | exact this) GW23012.out)) | (dsimp only; exact Nat.ne_of_lt (Nat.lt_of_lt_of_le (by have := World.block_lt_of_cell? _ _ hw23008_1; first | rwa [add_block] at this | exact this) GW23012.out))) _).trans (((cell_far (p := ⟨gb23012, _, none⟩) (by first | exact Nat.ne_of_lt (Nat.lt_of_lt_of_le (by have := World.block_lt_of_cell? _ _ hw23008_1; first | rwa [add_block] at this | exact this) GW23012.out) | (rw [add_block]; exact Nat.ne_of_lt (Nat.lt_of_lt_of_le (by have := World.block_lt_of_cell? _ _ hw23008_1; first | rwa [add_block] at this | exact this) GW23012.out)) | (show (Addr.add _ _).block ≠ _; rw [add_block]; exact Nat.ne_of_lt (Nat.lt_of_lt_of_le (by have := World.block_lt_of_cell? _ _ hw23008_1; first | rwa [add_block] at this | exact this) GW23012.out)) | (dsimp only; exact Nat.ne_of_lt (Nat.lt_of_lt_of_le (by have := World.block_lt_of_cell? _ _ hw23008_1; first | rwa [add_block] at this | exact this) GW23012.out))) _).trans (((cell_far (p := ⟨gb23012, _, none⟩) (by first | exact Nat.ne_of_lt (Nat.lt_of_lt_of_le (by have := World.block_lt_of_cell? _ _ hw23008_1; first | rwa [add_block] at this | exact this) GW23012.out) | (rw [add_block]; exact Nat.ne_of_lt (Nat.lt_of_lt_of_le (by have := World.block_lt_of_cell? _ _ hw23008_1; first | rwa [add_block] at this | exact this) GW23012.out)) | (show (Addr.add _ _).block ≠ _; rw [add_block]; exact Nat.ne_of_lt (Nat.lt_of_lt_of_le (by have := World.block_lt_of_cell? _ _ hw23008_1; first | rwa [add_block] at this | exact this) GW23012.out)) | (dsimp only; exact Nat.ne_of_lt (Nat.lt_of_lt_of_le (by have := World.block_lt_of_cell? _ _ hw23008_1; first | rwa [add_block] at this | exact this) GW23012.out))) _).trans (hHeld.2.2.2.2.1)))))), ((cell_far (p := ⟨gb23012, _, none⟩) (by first | exact Nat.ne_of_lt (Nat.lt_of_lt_of_le (by have := World.block_lt_of_cell? _ _ hw23008_2; first | rwa [add_block] at this | exact this) GW23012.out) | (rw [add_block]; exact Nat.ne_of_lt (Nat.lt_of_lt_of_le (by have := World.block_lt_of_cell? _ _ hw23008_2; first | rwa [add_block] at this | exact this) GW23012.out)) | (show (Addr.add _ _).block ≠ _; rw [add_block]; exact Nat.ne_of_lt (Nat.lt_of_lt_of_le (by have := World.block_lt_of_cell? _ _ hw23008_2; first | rwa [add_block] at this | exact this) GW23012.out)) | (dsimp only; exact Nat.ne_of_lt (Nat.lt_of_lt_of_le (by have := World.block_lt_of_cell? _ _ hw23008_2; first | rwa [add_block] at this | exact this) GW23012.out))) _).trans (((cell_far (p := ⟨gb23012, _, none⟩) (by first | exact Nat.ne_of_lt (Nat.lt_of_lt_of_le (by have := World.block_lt_of_cell? _ _ hw23008_2; first | rwa [add_block] at this | exact this) GW23012.out) | (rw [add_block]; exact Nat.ne_of_lt (Nat.lt_of_lt_of_le (by have := World.block_lt_of_cell? _ _ hw23008_2; first | rwa [add_block] at this | exact this) GW23012.out)) | (show (Addr.add _ _).block ≠ _; rw [add_block]; exact Nat.ne_of_lt (Nat.lt_of_lt_of_le (by have := World.block_lt_of_cell? _ _ hw23008_2; first | rwa [add_block] at this | exact this) GW23012.out)) | (dsimp only; exact Nat.ne_of_lt (Nat.lt_of_lt_of_le (by have := World.block_lt_of_cell? _ _ hw23008_2; first | rwa [add_block] at this | exact this) GW23012.out))) _).trans (((cell_far (p := ⟨gb23012, _, none⟩) (by first | exact Nat.ne_of_lt (Nat.lt_of_lt_of_le (by have := World.block_lt_of_cell? _ _ hw23008_2; first | rwa [add_block] at this | exact this) GW23012.out) | (rw [add_block]; exact Nat.ne_of_lt (Nat.lt_of_lt_of_le (by have := World.block_lt_of_cell? _ _ hw23008_2; first | rwa [add_block] at this | exact this) GW23012.out)) | (show (Addr.add _ _).block ≠ _; rw [add_block]; exact Nat.ne_of_lt (Nat.lt_of_lt_of_le (by have := World.block_lt_of_cell? _ _ hw23008_2; first | rwa [add_block] at this | exact this) GW23012.out)) | (dsimp only; exact Nat.ne_of_lt (Nat.lt_of_lt_of_le (by have := World.block_lt_of_cell? _ _ hw23008_2; first | rwa [add_block] at this | exact this) GW23012.out))) _).trans (hHeld.2.2.2.2.2))))))⟩ (fun hHeld => ?_)
        clear hK K
        refine done_ (done_of HT_.out (by kernel_rfl)) ?_
        try go_wp2
        go_loopg [7] k1 (fun kq v7 w' => ∃ (x7_2 : Int) (x23002000_2 : Int) (x23002002_2 : Int) (x23013000_2 : Int) (x23013001_2 : List (S50)) (x23013002_2 : Int) (u23013001 : Value), v7 = .int .i64 x7_2 ∧ Aside0 (papermillref52_Together.l1 kq l0 x7_2 x23013000_2 x23013001_2 x23013002_2 = some (r1, r2, r3, r4)) ∧ Aside0 (kq ≤ k1) ∧ Aside0 (Kd.R k50 50 w' w.heap.size (fun _ => True) u23013001 x23013001_2) ∧ Aside0 (w'.heap[gb23001]? = some (.cells #[.int .i64 x23002000_2, (.slice none 0 0), .int .i64 x23002002_2] 25 (0, 0))) ∧ Aside0 (w'.heap[gb23012]? = some (.cells #[.int .i64 x23013000_2, u23013001, .int .i64 x23013002_2] 25 (0, 0))) ∧ Aside0 (Below w.heap.size w w'))
        case atStart => exact ⟨(1), (x23002000_1), (x23002002_1), ((rd_T25 l0 0).f0), (y23009), (0), (.slice Ao25 y23009.length co25), (by first | rfl | (simp; done) | (simp [*]; done)), H', ⟨Nat.le_refl _⟩, ⟨by exact Kd.R_mono (Kd.R_far (p := ⟨gb23012, 2, none⟩) (Kd.R_far (p := ⟨gb23012, 1, none⟩) (Kd.R_far (p := ⟨gb23012, 0, none⟩) (Kd.R_types HO23011.out BK23012.out (by decide)) (fun _ hk => hk.2) (.int .i64 ((rd_T25 l0 0).f0))) (fun _ hk => hk.2) (.slice Ao25 y23009.length co25)) (fun _ hk => hk.2) (.int .i64 0)) (fun _ hk => trivial)⟩, ⟨by refine blk_far ?_ NB23001_23012.out _; refine blk_far ?_ NB23001_23012.out _; refine blk_far ?_ NB23001_23012.out _; exact BK23001.out⟩, ⟨by refine blk_put (cs := #[.int .i64 ((rd_T25 l0 0).f0), .slice Ao25 y23009.length co25, .int .i64 0]) ?_ 2 _ rfl; refine blk_put (cs := #[.int .i64 ((rd_T25 l0 0).f0), .slice none 0 0, .int .i64 0]) ?_ 1 _ rfl; refine blk_put (cs := #[.int .i64 0, .slice none 0 0, .int .i64 0]) ?_ 0 _ rfl; exact BK23012.out⟩, ⟨by repeat (first | exact HB.out | apply below_alloc | apply pw_below_drewN | apply below_drew1 | refine below_set ?_ GE23001.out | refine below_set ?_ GE23012.out)⟩⟩
        case round =>
         clear H'
         try clear c1
         try clear c2
         try clear c2b0
         try clear c2b1
         try clear c2b2
         try clear p2
         try clear q2
         try clear hx2
         try clear qi2
         try clear c4
         try clear c5
         try clear c5b0
         try clear c5b1
         try clear p6
         try clear c9
         try clear c9b0
         try clear c10
         try clear c10b0
         try clear c12
         try clear c12b0
         try clear c12b1
         try clear c16
         try clear c16b0
         try clear c16b1
         try clear c17
         try clear c22
         try clear c23
         try clear p23
         try clear q23
         try clear hx23
         try clear qi23
         try clear hcz15_0
         try clear hcz15_1
         try clear hcz15_2
         try clear hcz4_0
         try clear hcz4_1
         try clear hcz4_2
         try clear hcz7_0
         try clear hcz7_1
         try clear hcz7_2
         try clear hfz15_0
         try clear hfz15_1
         try clear hfz15_2
         try clear hfz4_0
         try clear hfz4_1
         try clear hfz4_2
         try clear hfz7_0
         try clear hfz7_1
         try clear hfz7_2
         try clear hx23002_0
         try clear hx23002_1
         try clear hx23002_2
         try clear hx23004_0
         try clear hx23004_1
         try clear hx23004_2
         try clear hx23008_0
         try clear hx23008_1
         try clear hx23008_2
         try clear p2
         try clear p23002
         try clear p23004
         try clear p23008
         try clear q23002
         try clear q23004
         try clear q23008
         obtain ⟨x7_2, x23002000_2, x23002002_2, x23013000_2, x23013001_2, x23013002_2, u23013001, rfl, HA, HK2, HO_23013001, BK23001, BK23012, HB⟩ := hrel
         cases gk with
         | zero => exact absurd HA.out (by simp [papermillref52_Together.l1])
         | succ k2 =>
          have H := HA.out
          clear HA
          simp only [papermillref52_Together.l1] at H
          by_cases c29 : x7_2 < (l0.length : Int)
          ·rw [if_pos c29] at H
           have c29b0 : decide (x7_2 < (l0.length : Int)) = true := decide_eq_true c29
           clear c29
           by_cases c30 : 0 ≤ x7_2
           ·rw [if_pos c30] at H
            have c30b0 : decide (0 ≤ x7_2) = true := decide_eq_true c30
            clear c30
            replace H := Option.bind_eq_some_iff.mp H
            obtain ⟨⟨t23014, t23015⟩, A310, H⟩ := H
            replace H : (if t23015 = 0 then (papermillref52_Together.l1 k2 l0 (wrap64 (x7_2 + 1)) (mn x23013000_2 ((rd_T25 l0 x7_2).f0)) t23014 0) else (some (0, ([] : List (S50)), 0, t23015))) = some (r1, r2, r3, r4) := H
            have A31 := Aside0.mk A310
            clear A310
            by_cases c32 : t23015 = 0
            ·rw [if_pos c32] at H
             have c32b0 : (t23015 == 0) = true := beq_iff_eq.mpr c32
             have c32b1 : (t23015 != 0) = false := bne_eq_false_iff_eq.mpr c32
             clear c32
             obtain ⟨ji33, hji33⟩ : ∃ j_ : Int, (mn x23013000_2 ((rd_T25 l0 x7_2).f0)) = j_ := ⟨_, rfl⟩
             replace H : (papermillref52_Together.l1 k2 l0 (wrap64 (x7_2 + 1)) ji33 t23014 0) = some (r1, r2, r3, r4) := by first | (rw [hji33] at H; exact H) | (simp only [hji33] at H ⊢; exact H)
             (try rw [hji33] at A31)
             have hji33_ : (if ((rd_T25 l0 x7_2).f0) < x23013000_2 then ((rd_T25 l0 x7_2).f0) else x23013000_2) = ji33 := hji33
             have H' := Aside0.mk H
             clear H
             try go_wp2
             have n0_ := Aside0.mk (Kd.R_drew HO_23013001.out)
             have n1_ := Aside0.mk (blk_drew BK23001.out)
             have n2_ := Aside0.mk (blk_drew BK23012.out)
             have n3_ := Aside0.mk (below_drew1 HB.out)
             clear HO_23013001
             clear BK23001
             clear BK23012
             clear HB
             have HO_23013001 := n0_
             have BK23001 := n1_
             have BK23012 := n2_
             have HB := n3_
             clear n0_ n1_ n2_ n3_
             have p23013 : 0 ≤ (x7_2 : Int) := of_decide_eq_true (by assumption)
             have q23013 : x7_2 < (l0.length : Int) := of_decide_eq_true (by assumption)
             obtain ⟨ad23013, A23013_1, c23013_1, e23013, hx23013_0, hx23013_1, hx23013_2, hl23013_1, hi23013_1⟩ := at_T25 HR0.out x7_2 p23013 q23013
             have hw23013_2 := hx23013_2
             have hw23013_1 := hx23013_1
             have hw23013_0 := hx23013_0
             obtain rfl : ad23004 = ad23013 := (by injection e23013)
             replace hx23013_0 := (HB.out.cell (World.block_lt_of_cell? w _ hx23013_0)).trans hx23013_0
             replace hx23013_1 := (HB.out.cell (World.block_lt_of_cell? w _ hx23013_1)).trans hx23013_1
             replace hx23013_2 := (HB.out.cell (World.block_lt_of_cell? w _ hx23013_2)).trans hx23013_2
             have HR23013_1 := Aside0.mk hi23013_1
             have HC23013_1 := Aside0.mk hl23013_1
             clear hi23013_1 hl23013_1
             replace p23013 := eq_true p23013
             replace q23013 := eq_true q23013
             obtain ⟨Ao35, co35, eo35⟩ := Kd.R_slice HO_23013001.out
             (first | subst eo35 | (injection eo35 with f1_ f2_ f3_; have f4_ := f1_.symm; have f5_ := f3_.symm; clear f1_ f2_ f3_; subst f4_; subst f5_))
             refine start_ (n := 13) (S := fun w' => w'.cell? ⟨gb23012, 0, none⟩ = some (.int .i64 x23013000_2) ∧ w'.cell? ⟨gb23012, 1, none⟩ = some (.slice Ao35 x23013001_2.length co35) ∧ w'.cell? ⟨gb23012, 2, none⟩ = some (.int .i64 x23013002_2) ∧ w'.cell? (ad23004.add ((x7_2).toNat * 3)) = some (.int .i64 ((rd_T25 l0 x7_2).f0)) ∧ w'.cell? ⟨(ad23004.add ((x7_2).toNat * 3)).block, (ad23004.add ((x7_2).toNat * 3)).off + 1, none⟩ = some (.slice A23013_1 ((rd_T25 l0 x7_2).f1).length c23013_1) ∧ w'.cell? ⟨(ad23004.add ((x7_2).toNat * 3)).block, (ad23004.add ((x7_2).toNat * 3)).off + 2, none⟩ = some (.int .i64 ((rd_T25 l0 x7_2).f2))) (ds := []) #[false, false, false, false, false, false, false, false, false, false, false, false, false] (by kernel_rfl) rfl rfl ⟨(blk_cell BK23012.out 0).trans rfl, (blk_cell BK23012.out 1).trans rfl, (blk_cell BK23012.out 2).trans rfl, ((HB.out.cell (World.block_lt_of_cell? w _ hw23013_0)).trans hw23013_0), ((HB.out.cell (World.block_lt_of_cell? w _ hw23013_1)).trans hw23013_1), ((HB.out.cell (World.block_lt_of_cell? w _ hw23013_2)).trans hw23013_2)⟩ (fun hHeld => ?_); refine with_tabW papermillref52_Together.tab15 papermillref52_Together.bits15 (fun HT_ HW_ => ?_)
             generalize wr.drew = w34 at HO_23013001 BK23001 BK23012 HB HR23013_1 hx23013_0 hx23013_1 hx23013_2 hHeld ⊢
             refine pure_ (i := 0) (N := some 51) (v := ?_) (a' := ?_) #[true, false, false, false, false, false, false, false, false, false, false, false, false] rfl rfl (any_of HT_.out (by kernel_rfl)) (fun _ _ _ h => h) (Or.inl ⟨by rfl, ?_⟩) ?_ ?_
             rotate_left
             ·intro w'
              go_simp
              with_reducible rfl
             rotate_left
             ·simp only [Act.put, List.setIfInBounds_toArray, List.set_cons_zero, List.set_cons_succ, i64_w, i32_w]
              rfl
             refine pure_ (i := 2) (N := some 53) (v := ?_) (a' := ?_) #[true, false, true, false, false, false, false, false, false, false, false, false, false] rfl rfl (any_of HT_.out (by kernel_rfl)) (fun _ _ _ h => h) (Or.inl ⟨by rfl, ?_⟩) ?_ ?_
             rotate_left
             ·intro w'
              go_simp
              with_reducible rfl
             rotate_left
             ·simp only [Act.put, List.setIfInBounds_toArray, List.set_cons_zero, List.set_cons_succ, i64_w, i32_w]
              rfl
             refine pure_ (i := 3) (N := some 54) (v := ?_) (a' := ?_) #[true, false, true, true, false, false, false, false, false, false, false, false, false] rfl rfl (any_of HT_.out (by kernel_rfl)) (fun _ _ _ h => h) (Or.inl ⟨by rfl, ?_⟩) ?_ ?_
             rotate_left
             ·intro w'
              go_simp
              with_reducible rfl
             rotate_left
             ·simp only [Act.put, List.setIfInBounds_toArray, List.set_cons_zero, List.set_cons_succ, i64_w, i32_w]
              rfl
             refine pure_ (i := 4) (N := some 55) (v := ?_) (a' := ?_) #[true, false, true, true, true, false, false, false, false, false, false, false, false] rfl rfl (any_of HT_.out (by kernel_rfl)) (fun _ _ _ h => h) (Or.inl ⟨by rfl, ?_⟩) ?_ ?_
             rotate_left
             ·intro w'
              go_simp
              with_reducible rfl
             rotate_left
             ·simp only [Act.put, List.setIfInBounds_toArray, List.set_cons_zero, List.set_cons_succ, i64_w, i32_w]
              rfl
             refine pure_ (i := 5) (N := some 56) (v := ?_) (a' := ?_) #[true, false, true, true, true, true, false, false, false, false, false, false, false] rfl rfl (any_of HT_.out (by kernel_rfl)) (fun _ _ _ h => h) (Or.inl ⟨by rfl, ?_⟩) ?_ ?_
             rotate_left
             ·intro w'
              go_simp
              with_reducible rfl
             rotate_left
             ·simp only [Act.put, List.setIfInBounds_toArray, List.set_cons_zero, List.set_cons_succ, i64_w, i32_w]
              rfl
             refine take_ (i := 1) (N := some 52) (v := ?_) (a' := ?_) #[true, true, true, true, true, true, false, false, false, false, false, false, false] rfl rfl (take_ofW HT_.out HW_.out (by kernel_rfl)) (fun _ _ _ h => h) (Or.inl ⟨by rfl, ?_⟩) hHeld ?_ ?_
             rotate_left
             ·rintro w' ⟨s0, s1, s2, s3, s4, s5⟩
              go_simp
              with_reducible rfl
             rotate_left
             ·simp only [Act.put, List.setIfInBounds_toArray, List.set_cons_zero, List.set_cons_succ, i64_w, i32_w]
              rfl
             refine take_ (i := 6) (N := some 57) (v := ?_) (a' := ?_) #[true, true, true, true, true, true, true, false, false, false, false, false, false] rfl rfl (take_ofW HT_.out HW_.out (by kernel_rfl)) (fun _ _ _ h => h) (Or.inl ⟨by rfl, ?_⟩) hHeld ?_ ?_
             rotate_left
             ·rintro w' ⟨s0, s1, s2, s3, s4, s5⟩
              go_simp
              with_reducible rfl
             rotate_left
             ·simp only [Act.put, List.setIfInBounds_toArray, List.set_cons_zero, List.set_cons_succ, i64_w, i32_w]
              rfl
             refine one_ (i := 7) (N := some 58) #[true, true, true, true, true, true, true, true, false, false, false, false, false] rfl rfl (one_of HT_.out (by kernel_rfl)) (by decide) (fun K hK => ?_)
             refine goes_ Try.func42 (by kernel_rfl) rfl #[.slice Ao35 x23013001_2.length co35, .slice A23013_1 ((rd_T25 l0 x7_2).f1).length c23013_1] (by rfl) rfl rfl (by (try simp only [List.map_toArray, List.map_cons, List.map_nil]); first | done | rfl | (simp only [List.length_drop, List.length_take]; rfl)) ?_
             with_reducible refine (papermillref04_Common.calls k2 _ _ x23013001_2 _ _ ((rd_T25 l0 x7_2).f1) t23014 t23015 _ ?side1 ?side2 ?side3 ?side4 A31.out).mono ?_
             (case side1 => exact (Kd.R_reads' HO_23013001.out).2.2)
             (case side2 => exact (Kd.R_reads' HO_23013001.out).2.1)
             (case side3 => exact (Kd.C_below HR23013_1.out HB.out))
             (case side4 => exact HC23013_1.out)
             rintro e w36 ⟨v23016, rfl, ho0, hb⟩
             refine ⟨_, rfl, ?_⟩
             have n0_ := Aside0.mk (Kd.R_elder' (by exact HO_23013001.out) (Kd.R_base ho0) hb)
             have n1_ := Aside0.mk (Kd.R_lower (Kd.R_new' ho0 (Kd.R_lt (by exact HO_23013001.out))) (below_size (by repeat (first | exact HB.out | apply below_alloc | apply pw_below_drewN | apply below_drew1 | refine below_set ?_ GE23001.out | refine below_set ?_ GE23012.out))))
             have n2_ := Aside0.mk (blk_below (g := gb23001) (o := .cells #[.int .i64 x23002000_2, .slice none 0 0, .int .i64 x23002002_2] 25 (0, 0)) (by exact BK23001.out) hb)
             have n3_ := Aside0.mk (blk_below (g := gb23012) (o := .cells #[.int .i64 x23013000_2, .slice Ao35 x23013001_2.length co35, .int .i64 x23013002_2] 25 (0, 0)) (by exact BK23012.out) hb)
             have n4_ := Aside0.mk (below_step (by repeat (first | exact HB.out | apply below_alloc | apply pw_below_drewN | apply below_drew1 | refine below_set ?_ GE23001.out | refine below_set ?_ GE23012.out)) hb)
             clear HO_23013001
             clear BK23001
             clear BK23012
             clear HB
             have HO_23013001 := n0_
             have HO23017 := n1_
             have BK23001 := n2_
             have BK23012 := n3_
             have HB := n4_
             clear n0_ n1_ n2_ n3_ n4_
             (try clear hb)
             (try clear hb2)
             (try clear hk)
             (try clear hi)
             (try clear ho0)
             refine hK.out _ _ ⟨(blk_cell BK23012.out 0).trans rfl, (blk_cell BK23012.out 1).trans rfl, (blk_cell BK23012.out 2).trans rfl, ((HB.out.cell (World.block_lt_of_cell? w _ hw23013_0)).trans hw23013_0), ((HB.out.cell (World.block_lt_of_cell? w _ hw23013_1)).trans hw23013_1), ((HB.out.cell (World.block_lt_of_cell? w _ hw23013_2)).trans hw23013_2)⟩ (fun hHeld => ?_)
             clear hK K
             refine norm_ (a' := ?_) ?_ ?_
             rotate_left
             ·show Act.put _ (some 58) _ = _
              simp only [Act.put, List.setIfInBounds_toArray, List.set_cons_zero, List.set_cons_succ, i64_w, i32_w]
              rfl
             refine pure_ (i := 8) (N := some 50) (v := ?_) (a' := ?_) #[true, true, true, true, true, true, true, true, true, false, false, false, false] rfl rfl (any_of HT_.out (by kernel_rfl)) (fun _ _ _ h => h) (Or.inl ⟨by rfl, ?_⟩) ?_ ?_
             rotate_left
             ·intro w'
              go_simp
              with_reducible rfl
             rotate_left
             ·simp only [Act.put, List.setIfInBounds_toArray, List.set_cons_zero, List.set_cons_succ, i64_w, i32_w]
              rfl
             refine pure_ (i := 9) (N := some 59) (v := ?_) (a' := ?_) #[true, true, true, true, true, true, true, true, true, true, false, false, false] rfl rfl (any_of HT_.out (by kernel_rfl)) (fun _ _ _ h => h) (Or.inl ⟨by rfl, ?_⟩) ?_ ?_
             rotate_left
             ·intro w'
              go_simp
              with_reducible rfl
             rotate_left
             ·simp only [Act.put, List.setIfInBounds_toArray, List.set_cons_zero, List.set_cons_succ, i64_w, i32_w]
              rfl
             refine pure_ (i := 10) (N := some 60) (v := ?_) (a' := ?_) #[true, true, true, true, true, true, true, true, true, true, true, false, false] rfl rfl (any_of HT_.out (by kernel_rfl)) (fun _ _ _ h => h) (Or.inl ⟨by rfl, ?_⟩) ?_ ?_
             rotate_left
             ·intro w'
              go_simp
              with_reducible rfl
             rotate_left
             ·simp only [Act.put, List.setIfInBounds_toArray, List.set_cons_zero, List.set_cons_succ, i64_w, i32_w]
              rfl
             refine pure_ (i := 11) (N := some 8) (v := ?_) (a' := ?_) #[true, true, true, true, true, true, true, true, true, true, true, true, false] rfl rfl (any_of HT_.out (by kernel_rfl)) (fun _ _ _ h => h) (Or.inl ⟨by rfl, ?_⟩) ?_ ?_
             rotate_left
             ·intro w'
              go_simp
              with_reducible rfl
             rotate_left
             ·simp only [Act.put, List.setIfInBounds_toArray, List.set_cons_zero, List.set_cons_succ, i64_w, i32_w]
              rfl
             refine pure_ (i := 12) (N := some 9) (v := ?_) (a' := ?_) #[true, true, true, true, true, true, true, true, true, true, true, true, true] rfl rfl (any_of HT_.out (by kernel_rfl)) (fun _ _ _ h => h) (Or.inl ⟨by rfl, ?_⟩) ?_ ?_
             rotate_left
             ·intro w'
              go_simp
              with_reducible rfl
             rotate_left
             ·simp only [Act.put, List.setIfInBounds_toArray, List.set_cons_zero, List.set_cons_succ, i64_w, i32_w]
              rfl
             refine done_ (done_of HT_.out (by kernel_rfl)) ?_
             try go_wp2
             have n0_ := Aside0.mk (Kd.R_drew HO_23013001.out)
             have n1_ := Aside0.mk (Kd.R_drew HO23017.out)
             have n2_ := Aside0.mk (blk_drew BK23001.out)
             have n3_ := Aside0.mk (blk_drew BK23012.out)
             have n4_ := Aside0.mk (below_drew1 HB.out)
             clear HO_23013001
             clear HO23017
             clear BK23001
             clear BK23012
             clear HB
             have HO_23013001 := n0_
             have HO23017 := n1_
             have BK23001 := n2_
             have BK23012 := n3_
             have HB := n4_
             clear n0_ n1_ n2_ n3_ n4_
             have p23018 : 0 ≤ (x7_2 : Int) := of_decide_eq_true (by assumption)
             have q23018 : x7_2 < (l0.length : Int) := of_decide_eq_true (by assumption)
             obtain ⟨ad23018, A23018_1, c23018_1, e23018, hx23018_0, hx23018_1, hx23018_2, hl23018_1, hi23018_1⟩ := at_T25 HR0.out x7_2 p23018 q23018
             have hw23018_2 := hx23018_2
             have hw23018_1 := hx23018_1
             have hw23018_0 := hx23018_0
             obtain rfl : ad23004 = ad23018 := (by injection e23018)
             replace hx23018_0 := (HB.out.cell (World.block_lt_of_cell? w _ hx23018_0)).trans hx23018_0
             replace hx23018_1 := (HB.out.cell (World.block_lt_of_cell? w _ hx23018_1)).trans hx23018_1
             replace hx23018_2 := (HB.out.cell (World.block_lt_of_cell? w _ hx23018_2)).trans hx23018_2
             have HR23018_1 := Aside0.mk hi23018_1
             have HC23018_1 := Aside0.mk hl23018_1
             clear hi23018_1 hl23018_1
             replace p23018 := eq_true p23018
             replace q23018 := eq_true q23018
             obtain ⟨Ao38, co38, eo38⟩ := Kd.R_slice HO23017.out
             (first | subst eo38 | (injection eo38 with f1_ f2_ f3_; have f4_ := f1_.symm; have f5_ := f3_.symm; clear f1_ f2_ f3_; subst f4_; subst f5_))
             refine start_ (n := 11) (S := fun w' => w'.cell? ⟨gb23012, 0, none⟩ = some (.int .i64 x23013000_2) ∧ w'.cell? ⟨gb23012, 1, none⟩ = some (.slice Ao35 x23013001_2.length co35) ∧ w'.cell? ⟨gb23012, 2, none⟩ = some (.int .i64 x23013002_2) ∧ w'.cell? (ad23004.add ((x7_2).toNat * 3)) = some (.int .i64 ((rd_T25 l0 x7_2).f0)) ∧ w'.cell? ⟨(ad23004.add ((x7_2).toNat * 3)).block, (ad23004.add ((x7_2).toNat * 3)).off + 1, none⟩ = some (.slice A23018_1 ((rd_T25 l0 x7_2).f1).length c23018_1) ∧ w'.cell? ⟨(ad23004.add ((x7_2).toNat * 3)).block, (ad23004.add ((x7_2).toNat * 3)).off + 2, none⟩ = some (.int .i64 ((rd_T25 l0 x7_2).f2))) (ds := [10]) #[false, false, false, false, false, false, false, false, false, false, false] (by kernel_rfl) rfl rfl ⟨(blk_cell BK23012.out 0).trans rfl, (blk_cell BK23012.out 1).trans rfl, (blk_cell BK23012.out 2).trans rfl, ((HB.out.cell (World.block_lt_of_cell? w _ hw23018_0)).trans hw23018_0), ((HB.out.cell (World.block_lt_of_cell? w _ hw23018_1)).trans hw23018_1), ((HB.out.cell (World.block_lt_of_cell? w _ hw23018_2)).trans hw23018_2)⟩ (fun hHeld => ?_); refine with_tabW papermillref52_Together.tab18 papermillref52_Together.bits18 (fun HT_ HW_ => ?_)
             generalize w36.drew = w37 at HO_23013001 HO23017 BK23001 BK23012 HB HR23018_1 hx23018_0 hx23018_1 hx23018_2 hHeld ⊢
             refine pure_ (i := 0) (N := some 65) (v := ?_) (a' := ?_) #[true, false, false, false, false, false, false, false, false, false, false] rfl rfl (any_of HT_.out (by kernel_rfl)) (fun _ _ _ h => h) (Or.inl ⟨by rfl, ?_⟩) ?_ ?_
             rotate_left
             ·intro w'
              go_simp
              with_reducible rfl
             rotate_left
             ·simp only [Act.put, List.setIfInBounds_toArray, List.set_cons_zero, List.set_cons_succ, i64_w, i32_w]
              rfl
             refine pure_ (i := 2) (N := some 67) (v := ?_) (a' := ?_) #[true, false, true, false, false, false, false, false, false, false, false] rfl rfl (any_of HT_.out (by kernel_rfl)) (fun _ _ _ h => h) (Or.inl ⟨by rfl, ?_⟩) ?_ ?_
             rotate_left
             ·intro w'
              go_simp
              with_reducible rfl
             rotate_left
             ·simp only [Act.put, List.setIfInBounds_toArray, List.set_cons_zero, List.set_cons_succ, i64_w, i32_w]
              rfl
             refine pure_ (i := 3) (N := some 68) (v := ?_) (a' := ?_) #[true, false, true, true, false, false, false, false, false, false, false] rfl rfl (any_of HT_.out (by kernel_rfl)) (fun _ _ _ h => h) (Or.inl ⟨by rfl, ?_⟩) ?_ ?_
             rotate_left
             ·intro w'
              go_simp
              with_reducible rfl
             rotate_left
             ·simp only [Act.put, List.setIfInBounds_toArray, List.set_cons_zero, List.set_cons_succ, i64_w, i32_w]
              rfl
             refine pure_ (i := 4) (N := some 69) (v := ?_) (a' := ?_) #[true, false, true, true, true, false, false, false, false, false, false] rfl rfl (any_of HT_.out (by kernel_rfl)) (fun _ _ _ h => h) (Or.inl ⟨by rfl, ?_⟩) ?_ ?_
             rotate_left
             ·intro w'
              go_simp
              with_reducible rfl
             rotate_left
             ·simp only [Act.put, List.setIfInBounds_toArray, List.set_cons_zero, List.set_cons_succ, i64_w, i32_w]
              rfl
             refine pure_ (i := 5) (N := some 70) (v := ?_) (a' := ?_) #[true, false, true, true, true, true, false, false, false, false, false] rfl rfl (any_of HT_.out (by kernel_rfl)) (fun _ _ _ h => h) (Or.inl ⟨by rfl, ?_⟩) ?_ ?_
             rotate_left
             ·intro w'
              go_simp
              with_reducible rfl
             rotate_left
             ·simp only [Act.put, List.setIfInBounds_toArray, List.set_cons_zero, List.set_cons_succ, i64_w, i32_w]
              rfl
             refine pure_ (i := 8) (N := some 73) (v := ?_) (a' := ?_) #[true, false, true, true, true, true, false, false, true, false, false] rfl rfl (any_of HT_.out (by kernel_rfl)) (fun _ _ _ h => h) (Or.inl ⟨by rfl, ?_⟩) ?_ ?_
             rotate_left
             ·intro w'
              go_simp
              with_reducible rfl
             rotate_left
             ·simp only [Act.put, List.setIfInBounds_toArray, List.set_cons_zero, List.set_cons_succ, i64_w, i32_w]
              rfl
             refine take_ (i := 1) (N := some 66) (v := ?_) (a' := ?_) #[true, true, true, true, true, true, false, false, true, false, false] rfl rfl (take_ofW HT_.out HW_.out (by kernel_rfl)) (fun _ _ _ h => h) (Or.inl ⟨by rfl, ?_⟩) hHeld ?_ ?_
             rotate_left
             ·rintro w' ⟨s0, s1, s2, s3, s4, s5⟩
              go_simp
              with_reducible rfl
             rotate_left
             ·simp only [Act.put, List.setIfInBounds_toArray, List.set_cons_zero, List.set_cons_succ, i64_w, i32_w]
              rfl
             refine take_ (i := 6) (N := some 71) (v := ?_) (a' := ?_) #[true, true, true, true, true, true, true, false, true, false, false] rfl rfl (take_ofW HT_.out HW_.out (by kernel_rfl)) (fun _ _ _ h => h) (Or.inl ⟨by rfl, ?_⟩) hHeld ?_ ?_
             rotate_left
             ·rintro w' ⟨s0, s1, s2, s3, s4, s5⟩
              go_simp
              with_reducible rfl
             rotate_left
             ·simp only [Act.put, List.setIfInBounds_toArray, List.set_cons_zero, List.set_cons_succ, i64_w, i32_w]
              rfl
             refine pure_ (i := 7) (N := some 72) (v := ?_) (a' := ?_) #[true, true, true, true, true, true, true, true, true, false, false] rfl rfl (any_of HT_.out (by kernel_rfl)) (fun _ _ _ h => h) (Or.inl ⟨by rfl, ?_⟩) ?_ ?_
             rotate_left
             ·intro w'
              go_simp
              with_reducible rfl
             rotate_left
             ·simp only [Act.put, List.setIfInBounds_toArray, List.set_cons_zero, List.set_cons_succ, i64_w, i32_w]
              rfl
             refine pure_ (i := 9) (N := some 74) (v := ?_) (a' := ?_) #[true, true, true, true, true, true, true, true, true, true, false] rfl rfl (any_of HT_.out (by kernel_rfl)) (fun _ _ _ h => h) (Or.inl ⟨by rfl, ?_⟩) ?_ ?_
             rotate_left
             ·intro w'
              go_simp
              with_reducible rfl
             rotate_left
             ·simp only [Act.put, List.setIfInBounds_toArray, List.set_cons_zero, List.set_cons_succ, i64_w, i32_w]
              rfl
             refine last_ (i := 10) (N := none) #[true, true, true, true, true, true, true, true, true, true, true] rfl rfl (one_of HT_.out (by kernel_rfl)) (by decide) (fun K hK => ?_)
             have hs39 : w37.cell? ⟨gb23012, 0, none⟩ = some (.int .i64 x23013000_2) := (blk_cell BK23012.out 0).trans rfl
             have hfs39 := blk_frozen BK23012.out 0
             have hns39_0 := NB23001_23012.out
             have hms39_0 := NB23012_23001.out
             have hs40 : w37.cell? ⟨gb23012, 1, none⟩ = some (.slice Ao35 x23013001_2.length co35) := (blk_cell BK23012.out 1).trans rfl
             have hfs40 := blk_frozen BK23012.out 1
             have hns40_0 := NB23001_23012.out
             have hms40_0 := NB23012_23001.out
             have hs41 : w37.cell? ⟨gb23012, 2, none⟩ = some (.int .i64 x23013002_2) := (blk_cell BK23012.out 2).trans rfl
             have hfs41 := blk_frozen BK23012.out 2
             have hns41_0 := NB23001_23012.out
             have hms41_0 := NB23012_23001.out
             refine skip_ (w1 := ?_) (by rfl) rfl ?_ ?_
             rotate_left
             ·go_simp
              rfl
             refine hK.out _ _ ?_
             clear hK K
             refine done_ (done_of HT_.out (by kernel_rfl)) ?_
             try go_wp2
             go_roundg k2
             case measure => have := HK1.out; have := HK2.out; omega
             case rel => exact ⟨(wrap64 (x7_2 + 1)), (x23002000_2), (x23002002_2), (ji33), (t23014), (0), (.slice Ao38 t23014.length co38), (by first | rfl | (simp; done) | (simp [*]; done)), H', ⟨by have := HK1.out; have := HK2.out; omega⟩, ⟨by exact Kd.R_mono (Kd.R_far (p := ⟨gb23012, 2, none⟩) (Kd.R_far (p := ⟨gb23012, 1, none⟩) (Kd.R_far (p := ⟨gb23012, 0, none⟩) (Kd.R_types HO23017.out BK23012.out (by decide)) (fun _ hk => hk.2) (.int .i64 ji33)) (fun _ hk => hk.2) (.slice Ao38 t23014.length co38)) (fun _ hk => hk.2) (.int .i64 0)) (fun _ hk => trivial)⟩, ⟨by refine blk_far ?_ NB23001_23012.out _; refine blk_far ?_ NB23001_23012.out _; refine blk_far ?_ NB23001_23012.out _; exact BK23001.out⟩, ⟨by refine blk_put (cs := #[.int .i64 ji33, .slice Ao38 t23014.length co38, .int .i64 x23013002_2]) ?_ 2 _ rfl; refine blk_put (cs := #[.int .i64 ji33, .slice Ao35 x23013001_2.length co35, .int .i64 x23013002_2]) ?_ 1 _ rfl; refine blk_put (cs := #[.int .i64 x23013000_2, .slice Ao35 x23013001_2.length co35, .int .i64 x23013002_2]) ?_ 0 _ rfl; exact BK23012.out⟩, ⟨by repeat (first | exact HB.out | apply below_alloc | apply pw_below_drewN | apply below_drew1 | refine below_set ?_ GE23001.out | refine below_set ?_ GE23012.out)⟩⟩
            ·rw [if_neg c32] at H
             have c32b0 : (t23015 == 0) = false := beq_eq_false_iff_ne.mpr c32
             have c32b1 : (t23015 != 0) = true := bne_iff_ne.mpr c32
             simp only [Option.some.injEq, Prod.mk.injEq] at H
             obtain ⟨rfl, rfl, rfl, rfl⟩ := H
             try go_wp2
             have n0_ := Aside0.mk (Kd.R_drew HO_23013001.out)
             have n1_ := Aside0.mk (blk_drew BK23001.out)
             have n2_ := Aside0.mk (blk_drew BK23012.out)
             have n3_ := Aside0.mk (below_drew1 HB.out)
             clear HO_23013001
             clear BK23001
             clear BK23012
             clear HB
             have HO_23013001 := n0_
             have BK23001 := n1_
             have BK23012 := n2_
             have HB := n3_
             clear n0_ n1_ n2_ n3_
             have p23013 : 0 ≤ (x7_2 : Int) := of_decide_eq_true (by assumption)
             have q23013 : x7_2 < (l0.length : Int) := of_decide_eq_true (by assumption)
             obtain ⟨ad23013, A23013_1, c23013_1, e23013, hx23013_0, hx23013_1, hx23013_2, hl23013_1, hi23013_1⟩ := at_T25 HR0.out x7_2 p23013 q23013
             have hw23013_2 := hx23013_2
             have hw23013_1 := hx23013_1
             have hw23013_0 := hx23013_0
             obtain rfl : ad23004 = ad23013 := (by injection e23013)
             replace hx23013_0 := (HB.out.cell (World.block_lt_of_cell? w _ hx23013_0)).trans hx23013_0
             replace hx23013_1 := (HB.out.cell (World.block_lt_of_cell? w _ hx23013_1)).trans hx23013_1
             replace hx23013_2 := (HB.out.cell (World.block_lt_of_cell? w _ hx23013_2)).trans hx23013_2
             have HR23013_1 := Aside0.mk hi23013_1
             have HC23013_1 := Aside0.mk hl23013_1
             clear hi23013_1 hl23013_1
             replace p23013 := eq_true p23013
             replace q23013 := eq_true q23013
             obtain ⟨Ao43, co43, eo43⟩ := Kd.R_slice HO_23013001.out
             (first | subst eo43 | (injection eo43 with f1_ f2_ f3_; have f4_ := f1_.symm; have f5_ := f3_.symm; clear f1_ f2_ f3_; subst f4_; subst f5_))
             refine start_ (n := 13) (S := fun w' => w'.cell? ⟨gb23012, 0, none⟩ = some (.int .i64 x23013000_2) ∧ w'.cell? ⟨gb23012, 1, none⟩ = some (.slice Ao43 x23013001_2.length co43) ∧ w'.cell? ⟨gb23012, 2, none⟩ = some (.int .i64 x23013002_2) ∧ w'.cell? (ad23004.add ((x7_2).toNat * 3)) = some (.int .i64 ((rd_T25 l0 x7_2).f0)) ∧ w'.cell? ⟨(ad23004.add ((x7_2).toNat * 3)).block, (ad23004.add ((x7_2).toNat * 3)).off + 1, none⟩ = some (.slice A23013_1 ((rd_T25 l0 x7_2).f1).length c23013_1) ∧ w'.cell? ⟨(ad23004.add ((x7_2).toNat * 3)).block, (ad23004.add ((x7_2).toNat * 3)).off + 2, none⟩ = some (.int .i64 ((rd_T25 l0 x7_2).f2))) (ds := []) #[false, false, false, false, false, false, false, false, false, false, false, false, false] (by kernel_rfl) rfl rfl ⟨(blk_cell BK23012.out 0).trans rfl, (blk_cell BK23012.out 1).trans rfl, (blk_cell BK23012.out 2).trans rfl, ((HB.out.cell (World.block_lt_of_cell? w _ hw23013_0)).trans hw23013_0), ((HB.out.cell (World.block_lt_of_cell? w _ hw23013_1)).trans hw23013_1), ((HB.out.cell (World.block_lt_of_cell? w _ hw23013_2)).trans hw23013_2)⟩ (fun hHeld => ?_); refine with_tabW papermillref52_Together.tab15 papermillref52_Together.bits15 (fun HT_ HW_ => ?_)
             generalize wr.drew = w42 at HO_23013001 BK23001 BK23012 HB HR23013_1 hx23013_0 hx23013_1 hx23013_2 hHeld ⊢
             refine pure_ (i := 0) (N := some 51) (v := ?_) (a' := ?_) #[true, false, false, false, false, false, false, false, false, false, false, false, false] rfl rfl (any_of HT_.out (by kernel_rfl)) (fun _ _ _ h => h) (Or.inl ⟨by rfl, ?_⟩) ?_ ?_
             rotate_left
             ·intro w'
              go_simp
              with_reducible rfl
             rotate_left
             ·simp only [Act.put, List.setIfInBounds_toArray, List.set_cons_zero, List.set_cons_succ, i64_w, i32_w]
              rfl
             refine pure_ (i := 2) (N := some 53) (v := ?_) (a' := ?_) #[true, false, true, false, false, false, false, false, false, false, false, false, false] rfl rfl (any_of HT_.out (by kernel_rfl)) (fun _ _ _ h => h) (Or.inl ⟨by rfl, ?_⟩) ?_ ?_
             rotate_left
             ·intro w'
              go_simp
              with_reducible rfl
             rotate_left
             ·simp only [Act.put, List.setIfInBounds_toArray, List.set_cons_zero, List.set_cons_succ, i64_w, i32_w]
              rfl
             refine pure_ (i := 3) (N := some 54) (v := ?_) (a' := ?_) #[true, false, true, true, false, false, false, false, false, false, false, false, false] rfl rfl (any_of HT_.out (by kernel_rfl)) (fun _ _ _ h => h) (Or.inl ⟨by rfl, ?_⟩) ?_ ?_
             rotate_left
             ·intro w'
              go_simp
              with_reducible rfl
             rotate_left
             ·simp only [Act.put, List.setIfInBounds_toArray, List.set_cons_zero, List.set_cons_succ, i64_w, i32_w]
              rfl
             refine pure_ (i := 4) (N := some 55) (v := ?_) (a' := ?_) #[true, false, true, true, true, false, false, false, false, false, false, false, false] rfl rfl (any_of HT_.out (by kernel_rfl)) (fun _ _ _ h => h) (Or.inl ⟨by rfl, ?_⟩) ?_ ?_
             rotate_left
             ·intro w'
              go_simp
              with_reducible rfl
             rotate_left
             ·simp only [Act.put, List.setIfInBounds_toArray, List.set_cons_zero, List.set_cons_succ, i64_w, i32_w]
              rfl
             refine pure_ (i := 5) (N := some 56) (v := ?_) (a' := ?_) #[true, false, true, true, true, true, false, false, false, false, false, false, false] rfl rfl (any_of HT_.out (by kernel_rfl)) (fun _ _ _ h => h) (Or.inl ⟨by rfl, ?_⟩) ?_ ?_
             rotate_left
             ·intro w'
              go_simp
              with_reducible rfl
             rotate_left
             ·simp only [Act.put, List.setIfInBounds_toArray, List.set_cons_zero, List.set_cons_succ, i64_w, i32_w]
              rfl
             refine take_ (i := 1) (N := some 52) (v := ?_) (a' := ?_) #[true, true, true, true, true, true, false, false, false, false, false, false, false] rfl rfl (take_ofW HT_.out HW_.out (by kernel_rfl)) (fun _ _ _ h => h) (Or.inl ⟨by rfl, ?_⟩) hHeld ?_ ?_
             rotate_left
             ·rintro w' ⟨s0, s1, s2, s3, s4, s5⟩
              go_simp
              with_reducible rfl
             rotate_left
             ·simp only [Act.put, List.setIfInBounds_toArray, List.set_cons_zero, List.set_cons_succ, i64_w, i32_w]
              rfl
             refine take_ (i := 6) (N := some 57) (v := ?_) (a' := ?_) #[true, true, true, true, true, true, true, false, false, false, false, false, false] rfl rfl (take_ofW HT_.out HW_.out (by kernel_rfl)) (fun _ _ _ h => h) (Or.inl ⟨by rfl, ?_⟩) hHeld ?_ ?_
             rotate_left
             ·rintro w' ⟨s0, s1, s2, s3, s4, s5⟩
              go_simp
              with_reducible rfl
             rotate_left
             ·simp only [Act.put, List.setIfInBounds_toArray, List.set_cons_zero, List.set_cons_succ, i64_w, i32_w]
              rfl
             refine one_ (i := 7) (N := some 58) #[true, true, true, true, true, true, true, true, false, false, false, false, false] rfl rfl (one_of HT_.out (by kernel_rfl)) (by decide) (fun K hK => ?_)
             refine goes_ Try.func42 (by kernel_rfl) rfl #[.slice Ao43 x23013001_2.length co43, .slice A23013_1 ((rd_T25 l0 x7_2).f1).length c23013_1] (by rfl) rfl rfl (by (try simp only [List.map_toArray, List.map_cons, List.map_nil]); first | done | rfl | (simp only [List.length_drop, List.length_take]; rfl)) ?_
             with_reducible refine (papermillref04_Common.calls k2 _ _ x23013001_2 _ _ ((rd_T25 l0 x7_2).f1) t23014 t23015 _ ?side1 ?side2 ?side3 ?side4 A31.out).mono ?_
             (case side1 => exact (Kd.R_reads' HO_23013001.out).2.2)
             (case side2 => exact (Kd.R_reads' HO_23013001.out).2.1)
             (case side3 => exact (Kd.C_below HR23013_1.out HB.out))
             (case side4 => exact HC23013_1.out)
             rintro e w44 ⟨v23016, rfl, ho0, hb⟩
             refine ⟨_, rfl, ?_⟩
             have n0_ := Aside0.mk (Kd.R_elder' (by exact HO_23013001.out) (Kd.R_base ho0) hb)
             have n1_ := Aside0.mk (Kd.R_lower (Kd.R_new' ho0 (Kd.R_lt (by exact HO_23013001.out))) (below_size (by repeat (first | exact HB.out | apply below_alloc | apply pw_below_drewN | apply below_drew1 | refine below_set ?_ GE23001.out | refine below_set ?_ GE23012.out))))
             have n2_ := Aside0.mk (blk_below (g := gb23001) (o := .cells #[.int .i64 x23002000_2, .slice none 0 0, .int .i64 x23002002_2] 25 (0, 0)) (by exact BK23001.out) hb)
             have n3_ := Aside0.mk (blk_below (g := gb23012) (o := .cells #[.int .i64 x23013000_2, .slice Ao43 x23013001_2.length co43, .int .i64 x23013002_2] 25 (0, 0)) (by exact BK23012.out) hb)
             have n4_ := Aside0.mk (below_step (by repeat (first | exact HB.out | apply below_alloc | apply pw_below_drewN | apply below_drew1 | refine below_set ?_ GE23001.out | refine below_set ?_ GE23012.out)) hb)
             clear HO_23013001
             clear BK23001
             clear BK23012
             clear HB
             have HO_23013001 := n0_
             have HO23017 := n1_
             have BK23001 := n2_
             have BK23012 := n3_
             have HB := n4_
             clear n0_ n1_ n2_ n3_ n4_
             (try clear hb)
             (try clear hb2)
             (try clear hk)
             (try clear hi)
             (try clear ho0)
             refine hK.out _ _ ⟨(blk_cell BK23012.out 0).trans rfl, (blk_cell BK23012.out 1).trans rfl, (blk_cell BK23012.out 2).trans rfl, ((HB.out.cell (World.block_lt_of_cell? w _ hw23013_0)).trans hw23013_0), ((HB.out.cell (World.block_lt_of_cell? w _ hw23013_1)).trans hw23013_1), ((HB.out.cell (World.block_lt_of_cell? w _ hw23013_2)).trans hw23013_2)⟩ (fun hHeld => ?_)
             clear hK K
             refine norm_ (a' := ?_) ?_ ?_
             rotate_left
             ·show Act.put _ (some 58) _ = _
              simp only [Act.put, List.setIfInBounds_toArray, List.set_cons_zero, List.set_cons_succ, i64_w, i32_w]
              rfl
             refine pure_ (i := 8) (N := some 50) (v := ?_) (a' := ?_) #[true, true, true, true, true, true, true, true, true, false, false, false, false] rfl rfl (any_of HT_.out (by kernel_rfl)) (fun _ _ _ h => h) (Or.inl ⟨by rfl, ?_⟩) ?_ ?_
             rotate_left
             ·intro w'
              go_simp
              with_reducible rfl
             rotate_left
             ·simp only [Act.put, List.setIfInBounds_toArray, List.set_cons_zero, List.set_cons_succ, i64_w, i32_w]
              rfl
             refine pure_ (i := 9) (N := some 59) (v := ?_) (a' := ?_) #[true, true, true, true, true, true, true, true, true, true, false, false, false] rfl rfl (any_of HT_.out (by kernel_rfl)) (fun _ _ _ h => h) (Or.inl ⟨by rfl, ?_⟩) ?_ ?_
             rotate_left
             ·intro w'
              go_simp
              with_reducible rfl
             rotate_left
             ·simp only [Act.put, List.setIfInBounds_toArray, List.set_cons_zero, List.set_cons_succ, i64_w, i32_w]
              rfl
             refine pure_ (i := 10) (N := some 60) (v := ?_) (a' := ?_) #[true, true, true, true, true, true, true, true, true, true, true, false, false] rfl rfl (any_of HT_.out (by kernel_rfl)) (fun _ _ _ h => h) (Or.inl ⟨by rfl, ?_⟩) ?_ ?_
             rotate_left
             ·intro w'
              go_simp
              with_reducible rfl
             rotate_left
             ·simp only [Act.put, List.setIfInBounds_toArray, List.set_cons_zero, List.set_cons_succ, i64_w, i32_w]
              rfl
             refine pure_ (i := 11) (N := some 8) (v := ?_) (a' := ?_) #[true, true, true, true, true, true, true, true, true, true, true, true, false] rfl rfl (any_of HT_.out (by kernel_rfl)) (fun _ _ _ h => h) (Or.inl ⟨by rfl, ?_⟩) ?_ ?_
             rotate_left
             ·intro w'
              go_simp
              with_reducible rfl
             rotate_left
             ·simp only [Act.put, List.setIfInBounds_toArray, List.set_cons_zero, List.set_cons_succ, i64_w, i32_w]
              rfl
             refine pure_ (i := 12) (N := some 9) (v := ?_) (a' := ?_) #[true, true, true, true, true, true, true, true, true, true, true, true, true] rfl rfl (any_of HT_.out (by kernel_rfl)) (fun _ _ _ h => h) (Or.inl ⟨by rfl, ?_⟩) ?_ ?_
             rotate_left
             ·intro w'
              go_simp
              with_reducible rfl
             rotate_left
             ·simp only [Act.put, List.setIfInBounds_toArray, List.set_cons_zero, List.set_cons_succ, i64_w, i32_w]
              rfl
             refine done_ (done_of HT_.out (by kernel_rfl)) ?_
             have hnb45 := NB23001_23012.out
             have hnc45 := NB23012_23001.out
             have hcz46_0 : w44.cell? ⟨gb23001, 0, none⟩ = some (.int .i64 x23002000_2) := (blk_cell BK23001.out 0).trans rfl
             have hcz46_1 : w44.cell? ⟨gb23001, 1, none⟩ = some (.slice none 0 0) := (blk_cell BK23001.out 1).trans rfl
             have hcz46_2 : w44.cell? ⟨gb23001, 2, none⟩ = some (.int .i64 x23002002_2) := (blk_cell BK23001.out 2).trans rfl
             have hfz46_0 := blk_frozen BK23001.out 0
             have hfz46_1 := blk_frozen BK23001.out 1
             have hfz46_2 := blk_frozen BK23001.out 2
             try go_wp2
             refine bodyPost_ret (results_ct rfl _ _ gb23001 25 #[.int .i64 0, .slice none 0 0, .int .i64 0] (0, 0) _ rfl (by refine blk_put (cs := #[.int .i64 0, .slice none 0 0, .int .i64 x23002002_2]) ?_ 2 _ rfl; refine blk_put (cs := #[.int .i64 0, .slice none 0 0, .int .i64 x23002002_2]) ?_ 1 _ rfl; refine blk_put (cs := #[.int .i64 x23002000_2, .slice none 0 0, .int .i64 x23002002_2]) ?_ 0 _ rfl; exact BK23001.out) Try.underlying25 rfl (by kernel_rfl)) rfl ?_
             exact ⟨_, by first | rfl | (simp [errW_none, errW_some] <;> rfl) | (simp [*, errW_none, errW_some] <;> rfl), by first | exact Kd.R_nil _ _ _ _ _ | exact Kd.N_nil _ _ _ _ _ | exact Kd.V_nil _ _ _ _ _ | exact Kd.Q_nil _ _ _ _ _ | exact Kd.S_nil _ _ _ _ _, by repeat (first | exact HB.out | apply below_alloc | apply pw_below_drewN | apply below_drew1 | refine below_set ?_ GE23001.out | refine below_set ?_ GE23012.out)⟩
           ·rw [if_neg c30] at H
            exact absurd H (by simp)
          ·rw [if_neg c29] at H
           have c29b0 : decide (x7_2 < (l0.length : Int)) = false := decide_eq_false c29
           clear c29
           simp only [Option.some.injEq, Prod.mk.injEq] at H
           obtain ⟨rfl, rfl, rfl, rfl⟩ := H
           have hnb47 := NB23012_23001.out
           have hnc47 := NB23001_23012.out
           have hcz48_0 : wr.cell? ⟨gb23012, 0, none⟩ = some (.int .i64 x23013000_2) := (blk_cell BK23012.out 0).trans rfl
           have hcz48_1 : wr.cell? ⟨gb23012, 1, none⟩ = some (u23013001) := (blk_cell BK23012.out 1).trans rfl
           have hcz48_2 : wr.cell? ⟨gb23012, 2, none⟩ = some (.int .i64 x23013002_2) := (blk_cell BK23012.out 2).trans rfl
           have hfz48_0 := blk_frozen BK23012.out 0
           have hfz48_1 := blk_frozen BK23012.out 1
           have hfz48_2 := blk_frozen BK23012.out 2
           have hcz49_0 : wr.cell? ⟨gb23001, 0, none⟩ = some (.int .i64 x23002000_2) := (blk_cell BK23001.out 0).trans rfl
           have hcz49_1 : wr.cell? ⟨gb23001, 1, none⟩ = some (.slice none 0 0) := (blk_cell BK23001.out 1).trans rfl
           have hcz49_2 : wr.cell? ⟨gb23001, 2, none⟩ = some (.int .i64 x23002002_2) := (blk_cell BK23001.out 2).trans rfl
           have hfz49_0 := blk_frozen BK23001.out 0
           have hfz49_1 := blk_frozen BK23001.out 1
           have hfz49_2 := blk_frozen BK23001.out 2
           obtain ⟨Ao50, co50, eo50⟩ := Kd.R_slice HO_23013001.out
           subst eo50
           go_wp2
           refine bodyPost_ret (results_ct rfl _ _ gb23001 25 #[.int .i64 x23013000_2, .slice Ao50 x23013001_2.length co50, .int .i64 x23013002_2] (0, 0) _ rfl (by refine blk_put (cs := #[.int .i64 x23013000_2, .slice Ao50 x23013001_2.length co50, .int .i64 x23002002_2]) ?_ 2 _ rfl; refine blk_put (cs := #[.int .i64 x23013000_2, .slice none 0 0, .int .i64 x23002002_2]) ?_ 1 _ rfl; refine blk_put (cs := #[.int .i64 x23002000_2, .slice none 0 0, .int .i64 x23002002_2]) ?_ 0 _ rfl; exact BK23001.out) Try.underlying25 rfl (by kernel_rfl)) rfl ?_
           exact ⟨_, by first | rfl | (simp [errW_none, errW_some] <;> rfl) | (simp [*, errW_none, errW_some] <;> rfl), by exact Kd.R_mono (Kd.R_far (p := ⟨gb23001, 2, none⟩) (Kd.R_far (p := ⟨gb23001, 1, none⟩) (Kd.R_far (p := ⟨gb23001, 0, none⟩) (Kd.R_types HO_23013001.out BK23001.out (by decide)) (fun _ hk => hk.2) (.int .i64 x23013000_2)) (fun _ hk => hk.2) (.slice Ao50 x23013001_2.length co50)) (fun _ hk => hk.2) (.int .i64 x23013002_2)) (fun _ hk => trivial), by repeat (first | exact HB.out | apply below_alloc | apply pw_below_drewN | apply below_drew1 | refine below_set ?_ GE23001.out | refine below_set ?_ GE23012.out)⟩
       ·rw [if_neg c17] at H
        exact absurd H (by simp)
      ·rw [if_neg c16] at H
       exact absurd H (by simp)

end Go.Proofs.Ytnfcpcgbdoiiiaa.G

namespace Go.Proofs.Ytnfcpcgbdoiiiaa.G
open Go.RowKit Go.Proofs.YtnfcpcgbdoiiiaaW.PrintWords Go.Proofs.YtnfcpcgbdoiiiaaW.PrintLast Go.Proofs.YtnfcpcgbdoiiiaaW.PrintMore
set_option linter.unusedVariables false
set_option linter.unusedSimpArgs false
theorem rtnorm_ends (l : List S50) : Ends (fun k => papermillref04_Norm.f k l) (bothOf l [] 0) := by
  unfold papermillref04_Norm.f
  exact Ends.bind (both_ends l [] 0 (.inl rfl)) (Ends.ret _)
theorem rtcommon_ends (a b : List S50) : Ends (fun k => papermillref04_Common.f k a b) (bothOf a b 1) := by
  unfold papermillref04_Common.f
  exact Ends.bind (both_ends a b 1 (.inr (.inl rfl))) (Ends.ret _)
theorem rone_j (c : Int) (g : List S50) (r : Int) (b : Bool) (hb : b = decide (c < 0 ∨ c > 17179869184)) : Ends (fun k => papermillref52_one.j0 k b c g r) (oneOf c g) := by
  refine Ends.succ ?_
  simp only [papermillref52_one.j0]
  unfold oneOf
  by_cases h : c < 0 ∨ c > 17179869184
  · exact (Ends.pos (by rw [hb]; simpa using h) (Ends.ret _)).congr (by rw [if_pos h])
  · rw [if_neg h]
    refine Ends.neg (by rw [hb]; simpa using h) (Ends.bind (check04_ends g) ?_)
    by_cases h0 : check04 g = 0
    · obtain ⟨g0, v0⟩ := good04 h0
      have n0 := joinOf_len g (-1) (fun s hs => by have := v0 s hs; omega)
      refine Ends.pos h0 (Ends.bind (rtnorm_ends g) ?_)
      rw [norm_fits h0, if_pos h0]
      refine Ends.bind (rspans_ends (joinOf g) g (by omega)) ?_
      cases hs : sameL (joinOf g) g with
      | false => exact (Ends.neg (by simp) (Ends.ret _)).congr (by simp)
      | true =>
        refine Ends.pos rfl ?_
        rw [if_pos rfl]
        unfold overOf
        by_cases hl : 0 < (joinOf g).length
        · rw [if_pos hl]
          simp only [wrap_pred (joinOf g).length (by omega) (by omega)]
          refine Ends.pos (by omega) (Ends.pos (by omega) (Ends.pos (by omega) ?_))
          by_cases ho : (rd_T50 (joinOf g) (((joinOf g).length - 1 : Nat) : Int)).f1 > c
          · exact (Ends.pos ho (Ends.ret _)).congr (by rw [if_pos ho])
          · exact (Ends.neg ho (Ends.ret _)).congr (by rw [if_neg ho])
        · exact (Ends.neg (show ¬ ((joinOf g).length : Int) > 0 by omega) (Ends.ret _)).congr (by rw [if_neg hl])
    · rw [if_neg h0]
      exact Ends.neg h0 (Ends.ret _)
theorem rone_ends (c : Int) (g : List S50) (r : Int) : Ends (fun k => papermillref52_one.f k c g r) (oneOf c g) := by
  unfold papermillref52_one.f
  by_cases h : c < 0
  · exact Ends.pos h (rone_j c g r true (by simp [h]))
  · exact Ends.neg h (rone_j c g r _ (by simp [h]))
theorem rtog_l1 (l : List S25) (hl : l.length ≤ 16) : ∀ (d i : Nat) (c : Int) (g : List S50), l.length - i = d → i ≤ l.length → Ends (fun k => papermillref52_Together.l1 k l (i : Int) c g 0) (foldT c g (l.drop i)) := by
  intro d
  induction d with
  | zero =>
    intro i c g hd hi
    refine Ends.succ ?_
    simp only [papermillref52_Together.l1]
    rw [List.drop_of_length_le (by omega)]
    exact Ends.neg (by omega) (Ends.ret _)
  | succ d ih =>
    intro i c g hd hi
    refine Ends.succ ?_
    simp only [papermillref52_Together.l1, wrap_nat i (by omega)]
    rw [drop25 l i (by omega)]
    refine Ends.pos (by omega) (Ends.pos (by omega) (Ends.bind (rtcommon_ends g _) ?_))
    rw [foldT]
    by_cases h : (bothOf g (rd_T25 l (i : Int)).f1 1).2 = 0
    · rw [if_pos h]
      exact Ends.pos h (ih (i + 1) _ _ (by omega) (by omega))
    · rw [if_neg h]
      exact Ends.neg h (Ends.ret _)
theorem rtog_l0 (l : List S25) (hl : l.length ≤ 16) (h0 : 0 < l.length) : ∀ (d i : Nat), l.length - i = d → i ≤ l.length → (∀ s ∈ l.take i, oneOf s.f0 s.f1 = 0) → Ends (fun k => papermillref52_Together.l0 k l (i : Int)) (if firstOne (l.drop i) = 0 then foldT (rd_T25 l 0).f0 (rd_T25 l 0).f1 (l.drop 1) else (0, [], 0, firstOne (l.drop i))) := by
  intro d
  induction d with
  | zero =>
    intro i hd hi hp
    refine Ends.succ ?_
    simp only [papermillref52_Together.l0, Option.bind_some, List.nil_append, List.length_nil]
    have hz := hp (rd_T25 l 0) (by rw [List.take_of_length_le (by omega), show (0 : Int) = ((0 : Nat) : Int) from rfl, rd25 l 0 h0]; exact List.getElem_mem _)
    obtain ⟨_, _, hc, _, _⟩ := one_zero hz
    obtain ⟨g0, _⟩ := good04 hc
    rw [List.drop_of_length_le (by omega), firstOne, if_pos rfl]
    exact Ends.neg (by omega) (Ends.pos (by omega) (Ends.pos (by omega) (rtog_l1 l hl _ 1 _ _ rfl (by omega))))
  | succ d ih =>
    intro i hd hi hp
    refine Ends.succ ?_
    simp only [papermillref52_Together.l0, wrap_nat i (by omega)]
    rw [drop25 l i (by omega), firstOne]
    refine Ends.pos (by omega) (Ends.pos (by omega) (Ends.bind (rone_ends _ _ _) ?_))
    by_cases h : oneOf (rd_T25 l (i : Int)).f0 (rd_T25 l (i : Int)).f1 = 0
    · rw [if_pos h]
      refine Ends.pos h (ih (i + 1) (by omega) (by omega) (fun s hs => ?_))
      rw [List.take_succ_eq_append_getElem (by omega)] at hs
      rcases List.mem_append.1 hs with hs | hs
      · exact hp s hs
      · obtain rfl := List.mem_singleton.1 hs
        rw [← rd25 l i (by omega)]; exact h
    · rw [if_neg h, if_neg h]
      exact Ends.neg h (Ends.ret _)
theorem rtog_ends (l : List S25) : Ends (fun k => papermillref52_Together.f k l) (togOf l) := by
  unfold papermillref52_Together.f togOf
  by_cases h : l.length = 0
  · rw [if_pos h]; exact Ends.pos (by omega) (Ends.ret _)
  · rw [if_neg h]
    refine Ends.neg (by omega) ?_
    by_cases h2 : l.length > 16
    · rw [if_pos h2]; exact Ends.pos (by omega) (Ends.ret _)
    · rw [if_neg h2]
      exact Ends.neg (by omega) (rtog_l0 l (by omega) (by omega) _ 0 rfl (by omega) (by simp))
end Go.Proofs.Ytnfcpcgbdoiiiaa.G
