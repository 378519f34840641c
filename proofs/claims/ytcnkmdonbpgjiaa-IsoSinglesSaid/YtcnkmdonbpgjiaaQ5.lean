import Derived.Test.YtcnkmdonbpgjiaaQ1
import Derived.Test.YtcnkmdonbpgjiaaQ3
import Derived.Test.YtcnkmdonbpgjiaaQ4
import Derived.RangeFuncRecord
import Derived.Deep.Slices
import Derived.Deep.Fields
import Derived.ChangeSame
import Derived.ChangeArms
namespace Go.Proofs.Ytcnkmdonbpgjiaa.G
open Go.RowKit Go.Proofs.YtcnkmdonbpgjiaaW.PrintWords Go.Proofs.YtcnkmdonbpgjiaaW.PrintLast Go.Proofs.YtcnkmdonbpgjiaaW.PrintMore
attribute [local go_sem] max2_int min2_int max_two min_two max_three min_three max_four min_four   -- for this text's walks alone
set_option linter.unusedVariables false
set_option linter.unusedSimpArgs false

mutual
def iso_Find.j0 : Nat → List (S32) → Bool → Int → Int → Option ((List (S37)) × Int)
 | 0, _, _, _, _ => none
 | k + 1, x0, x34, x32002000, x32002001 => if x34 = true then (some (([] : List (S37)), 1)) else (iso_Find.l0 k ([] : List (S37)) 0 x0 (x0.length : Int) 0 x32002000 x32002001)
def iso_Find.l0 : Nat → List (S37) → Int → List (S32) → Int → Int → Int → Int → Option ((List (S37)) × Int)
 | 0, _, _, _, _, _, _, _ => none
 | k + 1, x7, x8, x35, x36, x37, x32002000, x32002001 => if x37 < x36 then (if 0 ≤ x37 then (if x37 < (x35.length : Int) then ((iso_images.f ((rd_T32 x35 x37).f0) ((rd_T32 x35 x37).f1) ((rd_T32 x35 x37).f2)).bind fun bt32009 => (if (mx bt32009.1 x32002000) < (mn bt32009.2 x32002001) then (if (rd_T32 x35 x37).f2 = true then (if x7.length < 8796093022208 then (iso_Find.l0 k (x7 ++ [(⟨wrap64 (x8 + (wrap64 (bt32009.2 - (mn bt32009.2 x32002001)))), wrap64 ((wrap64 ((wrap64 (x8 + (wrap64 (bt32009.2 - (mn bt32009.2 x32002001))))) + (mn bt32009.2 x32002001))) - (mx bt32009.1 x32002000))⟩ : S37)]) (wrap64 (x8 + ((rd_T32 x35 x37).f1))) x35 x36 (wrap64 (x37 + 1)) x32002000 x32002001) else (none)) else (if x7.length < 8796093022208 then (iso_Find.l0 k (x7 ++ [(⟨wrap64 (x8 + (wrap64 ((mx bt32009.1 x32002000) - bt32009.1))), wrap64 ((wrap64 ((wrap64 (x8 + (wrap64 ((mx bt32009.1 x32002000) - bt32009.1)))) + (mn bt32009.2 x32002001))) - (mx bt32009.1 x32002000))⟩ : S37)]) (wrap64 (x8 + ((rd_T32 x35 x37).f1))) x35 x36 (wrap64 (x37 + 1)) x32002000 x32002001) else (none))) else (iso_Find.l0 k x7 (wrap64 (x8 + ((rd_T32 x35 x37).f1))) x35 x36 (wrap64 (x37 + 1)) x32002000 x32002001))) else (none)) else (none)) else ((span_Norm.f k x7).bind fun bt32003 => (some (bt32003.1, bt32003.2)))
end
def iso_Find.f (k : Nat) (l0 : List (S32)) (a1_0 : Int) (a1_1 : Int) : Option ((List (S37)) × Int) := (iso_Check.f k l0).bind fun t32002 => (if t32002 = 0 then (if a1_0 < 0 then (iso_Find.j0 k l0 true a1_0 a1_1) else (if a1_0 > a1_1 then (iso_Find.j0 k l0 true a1_0 a1_1) else (iso_Find.j0 k l0 (decide (a1_1 > 17179869184)) a1_0 a1_1))) else (some (([] : List (S37)), t32002)))
theorem iso_Find.mono_l : ∀ k, (∀ y0 y1 y2 y3, LeO (iso_Find.j0 k y0 y1 y2 y3) (iso_Find.j0 (k + 1) y0 y1 y2 y3)) ∧ (∀ y0 y1 y2 y3 y4 y5 y6, LeO (iso_Find.l0 k y0 y1 y2 y3 y4 y5 y6) (iso_Find.l0 (k + 1) y0 y1 y2 y3 y4 y5 y6))
 | 0 => ⟨fun _ _ _ _ r h => by simp [iso_Find.j0] at h, fun _ _ _ _ _ _ _ r h => by simp [iso_Find.l0] at h⟩
 | k + 1 => by
  obtain ⟨ih0, ih1⟩ := iso_Find.mono_l k
  refine ⟨?_, ?_⟩
  ·intro y0 y1 y2 y3
   unfold iso_Find.j0
   repeat' first
   | (with_reducible exact ih0 _ _ _ _)
   | (with_reducible exact ih1 _ _ _ _ _ _ _)
   | (with_reducible exact iso_Check.mono _ _)
   | (with_reducible exact span_Norm.mono _ _)
   | (with_reducible exact LeO.refl _)
   | (with_reducible exact LeO.none _)
   | (with_reducible refine LeO.ite ?_ ?_)
   | (with_reducible refine LeO.bind ?_ (fun _ => ?_))
   | exact ih0 _ _ _ _
   | exact ih1 _ _ _ _ _ _ _
   | exact iso_Check.mono _ _
   | exact span_Norm.mono _ _
   | exact LeO.none _
   | refine LeO.ite ?_ ?_
   | refine LeO.bind ?_ (fun _ => ?_)
  ·intro y0 y1 y2 y3 y4 y5 y6
   unfold iso_Find.l0
   repeat' first
   | (with_reducible exact ih0 _ _ _ _)
   | (with_reducible exact ih1 _ _ _ _ _ _ _)
   | (with_reducible exact iso_Check.mono _ _)
   | (with_reducible exact span_Norm.mono _ _)
   | (with_reducible exact LeO.refl _)
   | (with_reducible exact LeO.none _)
   | (with_reducible refine LeO.ite ?_ ?_)
   | (with_reducible refine LeO.bind ?_ (fun _ => ?_))
   | exact ih0 _ _ _ _
   | exact ih1 _ _ _ _ _ _ _
   | exact iso_Check.mono _ _
   | exact span_Norm.mono _ _
   | exact LeO.none _
   | refine LeO.ite ?_ ?_
   | refine LeO.bind ?_ (fun _ => ?_)
theorem iso_Find.mono : ∀ a0 a1 a2 k, LeO (iso_Find.f k a0 a1 a2) (iso_Find.f (k + 1) a0 a1 a2) := by
 intro a0 a1 a2 k
 obtain ⟨ih0, ih1⟩ := iso_Find.mono_l k
 unfold iso_Find.f
 repeat' first
   | (with_reducible exact ih0 _ _ _ _)
   | (with_reducible exact ih1 _ _ _ _ _ _ _)
   | (with_reducible exact iso_Check.mono _ _)
   | (with_reducible exact span_Norm.mono _ _)
   | (with_reducible exact LeO.refl _)
   | (with_reducible exact LeO.none _)
   | (with_reducible refine LeO.ite ?_ ?_)
   | (with_reducible refine LeO.bind ?_ (fun _ => ?_))
   | exact ih0 _ _ _ _
   | exact ih1 _ _ _ _ _ _ _
   | exact iso_Check.mono _ _
   | exact span_Norm.mono _ _
   | exact LeO.none _
   | refine LeO.ite ?_ ?_
   | refine LeO.bind ?_ (fun _ => ?_)
set_option maxHeartbeats 8000000 in
set_option maxRecDepth 100000 in
theorem iso_Find.calls (k : Nat) (A0 : Option Addr) (c0 : Nat) (l0 : List (S32)) (a1_0 : Int) (a1_1 : Int) (r1 : List (S37)) (r2 : Int) (w : World) (hr0 : Kd.C k32 w A0 l0.length l0) (hc0 : l0.length ≤ c0) (h : iso_Find.f k l0 a1_0 a1_1 = some (r1, r2)) :
  Calls Try.prog 31 #[.slice A0 l0.length c0, .agg #[.int .i64 a1_0, .int .i64 a1_1]] w fun e w' => ∃ v0_ : Value, e = .returned (.tuple #[v0_, .int .i64 r2]) ∧ Kd.R k37 37 w' w.heap.size (fun _ => True) v0_ r1 ∧ Below w.heap.size w w' := by
 have hu37 := Try.underlying37
 have hu32 := Try.underlying32
 have HR0 := Aside0.mk hr0
 have HC0 := Aside0.mk hc0
 clear hr0 hc0
 have HB := Aside0.mk (Below.refl w.heap.size w)
 have H : ((iso_Check.f k l0).bind fun t32002 => (if t32002 = 0 then (if a1_0 < 0 then (iso_Find.j0 k l0 true a1_0 a1_1) else (if a1_0 > a1_1 then (iso_Find.j0 k l0 true a1_0 a1_1) else (iso_Find.j0 k l0 (decide (a1_1 > 17179869184)) a1_0 a1_1))) else (some (([] : List (S37)), t32002)))) = some (r1, r2) := h
 clear h
 replace H := Option.bind_eq_some_iff.mp H
 obtain ⟨t32002, A30, H⟩ := H
 replace H : (if t32002 = 0 then (if a1_0 < 0 then (iso_Find.j0 k l0 true a1_0 a1_1) else (if a1_0 > a1_1 then (iso_Find.j0 k l0 true a1_0 a1_1) else (iso_Find.j0 k l0 (decide (a1_1 > 17179869184)) a1_0 a1_1))) else (some (([] : List (S37)), t32002))) = some (r1, r2) := H
 have A3 := Aside0.mk A30
 clear A30
 by_cases c4 : t32002 = 0
 ·rw [if_pos c4] at H
  have c4b0 : (t32002 == 0) = true := beq_iff_eq.mpr c4
  have c4b1 : (t32002 != 0) = false := bne_eq_false_iff_eq.mpr c4
  clear c4
  have HC5 := Aside0.mk H
  clear H
  go_enter Try.func31, Try.ntmps31
  go_upto_region 4 with (first | ((with_reducible refine gate_dst (N := 3) rfl ?_); refine box_event ?hg (N := 3) ?hd (cs := #[.int .i64 a1_0, .int .i64 a1_1]) (t := 37) ?hr ?_; (case hd => rfl); (case hg => rfl); (case hr => first | (go_simp; done) | (go_simp; rfl)); intro gb32001 hg w6 hbox hb; have n0_ := Aside0.mk (below_step (by repeat (first | exact HB.out | apply below_alloc | apply pw_below_drewN | apply below_drew1)) hb); have n1_ := Aside0.mk (hbox); have n2_ := Aside0.mk ((by rw [hg]; exact (below_size (by repeat (first | exact HB.out | apply below_alloc | apply pw_below_drewN | apply below_drew1))) : w.heap.size ≤ gb32001)); have n3_ := Aside0.mk ((by rw [hg]; exact (below_size (by repeat (first | exact HB.out | apply below_alloc | apply pw_below_drewN | apply below_drew1))) : w.heap.size ≤ gb32001)); clear HB; have HB := n0_; have BK32001 := n1_; have GW32001 := n2_; have GE32001 := n3_; clear n0_ n1_ n2_ n3_; clear hb hbox hg) | (go_at_call 14; (with_reducible refine (iso_Check.calls k _ _ l0 t32002 _ ?side1 ?side2 A3.out).mono ?_); (case side1 => exact (Kd.C_below HR0.out HB.out)); (case side2 => exact HC0.out); rintro e w7 ⟨rfl, hb⟩; have n0_ := Aside0.mk (blk_below (g := gb32001) (o := .cells #[.int .i64 a1_0, .int .i64 a1_1] 37 (0, 0)) (BK32001.out) hb); have n1_ := Aside0.mk (below_step (by repeat (first | exact HB.out | apply below_alloc | apply pw_below_drewN | apply below_drew1 | refine below_set ?_ GE32001.out)) hb); clear BK32001; clear HB; have BK32001 := n0_; have HB := n1_; clear n0_ n1_; (try clear hb); (try clear hb2); (try clear hk); (try clear hi)))
  repeat (go_quiet (first | ((with_reducible refine gate_dst (N := 3) rfl ?_); refine box_event ?hg (N := 3) ?hd (cs := #[.int .i64 a1_0, .int .i64 a1_1]) (t := 37) ?hr ?_; (case hd => rfl); (case hg => rfl); (case hr => first | (go_simp; done) | (go_simp; rfl)); intro gb32001 hg w6 hbox hb; have n0_ := Aside0.mk (below_step (by repeat (first | exact HB.out | apply below_alloc | apply pw_below_drewN | apply below_drew1)) hb); have n1_ := Aside0.mk (hbox); have n2_ := Aside0.mk ((by rw [hg]; exact (below_size (by repeat (first | exact HB.out | apply below_alloc | apply pw_below_drewN | apply below_drew1))) : w.heap.size ≤ gb32001)); have n3_ := Aside0.mk ((by rw [hg]; exact (below_size (by repeat (first | exact HB.out | apply below_alloc | apply pw_below_drewN | apply below_drew1))) : w.heap.size ≤ gb32001)); clear HB; have HB := n0_; have BK32001 := n1_; have GW32001 := n2_; have GE32001 := n3_; clear n0_ n1_ n2_ n3_; clear hb hbox hg) | (go_at_call 14; (with_reducible refine (iso_Check.calls k _ _ l0 t32002 _ ?side1 ?side2 A3.out).mono ?_); (case side1 => exact (Kd.C_below HR0.out HB.out)); (case side2 => exact HC0.out); rintro e w7 ⟨rfl, hb⟩; have n0_ := Aside0.mk (blk_below (g := gb32001) (o := .cells #[.int .i64 a1_0, .int .i64 a1_1] 37 (0, 0)) (BK32001.out) hb); have n1_ := Aside0.mk (below_step (by repeat (first | exact HB.out | apply below_alloc | apply pw_below_drewN | apply below_drew1 | refine below_set ?_ GE32001.out)) hb); clear BK32001; clear HB; have BK32001 := n0_; have HB := n1_; clear n0_ n1_; (try clear hb); (try clear hb2); (try clear hk); (try clear hi))); go_upto_region 4 with (first | ((with_reducible refine gate_dst (N := 3) rfl ?_); refine box_event ?hg (N := 3) ?hd (cs := #[.int .i64 a1_0, .int .i64 a1_1]) (t := 37) ?hr ?_; (case hd => rfl); (case hg => rfl); (case hr => first | (go_simp; done) | (go_simp; rfl)); intro gb32001 hg w6 hbox hb; have n0_ := Aside0.mk (below_step (by repeat (first | exact HB.out | apply below_alloc | apply pw_below_drewN | apply below_drew1)) hb); have n1_ := Aside0.mk (hbox); have n2_ := Aside0.mk ((by rw [hg]; exact (below_size (by repeat (first | exact HB.out | apply below_alloc | apply pw_below_drewN | apply below_drew1))) : w.heap.size ≤ gb32001)); have n3_ := Aside0.mk ((by rw [hg]; exact (below_size (by repeat (first | exact HB.out | apply below_alloc | apply pw_below_drewN | apply below_drew1))) : w.heap.size ≤ gb32001)); clear HB; have HB := n0_; have BK32001 := n1_; have GW32001 := n2_; have GE32001 := n3_; clear n0_ n1_ n2_ n3_; clear hb hbox hg) | (go_at_call 14; (with_reducible refine (iso_Check.calls k _ _ l0 t32002 _ ?side1 ?side2 A3.out).mono ?_); (case side1 => exact (Kd.C_below HR0.out HB.out)); (case side2 => exact HC0.out); rintro e w7 ⟨rfl, hb⟩; have n0_ := Aside0.mk (blk_below (g := gb32001) (o := .cells #[.int .i64 a1_0, .int .i64 a1_1] 37 (0, 0)) (BK32001.out) hb); have n1_ := Aside0.mk (below_step (by repeat (first | exact HB.out | apply below_alloc | apply pw_below_drewN | apply below_drew1 | refine below_set ?_ GE32001.out)) hb); clear BK32001; clear HB; have BK32001 := n0_; have HB := n1_; clear n0_ n1_; (try clear hb); (try clear hb2); (try clear hk); (try clear hi))))
  (try simp only [Act.put, List.setIfInBounds_toArray, List.set_cons_zero, List.set_cons_succ])
  go_cut [34] (fun v34 wc => ∃ (kq : Nat) (x34_4 : Bool), v34 = .bool x34_4 ∧ Aside0 (iso_Find.j0 kq l0 x34_4 a1_0 a1_1 = some (r1, r2)) ∧ Aside0 (kq ≤ k) ∧ Aside0 (wc.heap[gb32001]? = some (.cells #[.int .i64 a1_0, .int .i64 a1_1] 37 (0, 0))) ∧ Aside0 (Below w.heap.size w wc))
  case first =>
   have H := HC5.out
   clear HC5
   by_cases c8 : a1_0 < 0
   ·rw [if_pos c8] at H
    have c8b0 : decide (a1_0 < 0) = true := decide_eq_true c8
    clear c8
    (first | rw [c8b0] | (simp only [i64_w, i32_w]; rw [c8b0]) | skip)
    have H' := Aside0.mk H
    clear H
    have hcz9_0 : w7.cell? ⟨gb32001, 0, none⟩ = some (.int .i64 a1_0) := (blk_cell BK32001.out 0).trans rfl
    have hcz9_1 : w7.cell? ⟨gb32001, 1, none⟩ = some (.int .i64 a1_1) := (blk_cell BK32001.out 1).trans rfl
    have hfz9_0 := blk_frozen BK32001.out 0
    have hfz9_1 := blk_frozen BK32001.out 1
    go_wp2
    repeat (go_quiet (fail); try go_wp2)
    go_meet
    case rel => exact ⟨_, (true), (by first | rfl | (simp; done) | (simp [*]; done)), H', ⟨by first | omega | exact Nat.le_refl _⟩, ⟨BK32001.out⟩, ⟨by repeat (first | exact HB.out | apply below_alloc | apply pw_below_drewN | apply below_drew1 | refine below_set ?_ GE32001.out)⟩⟩
   ·rw [if_neg c8] at H
    have c8b0 : decide (a1_0 < 0) = false := decide_eq_false c8
    clear c8
    (first | rw [c8b0] | (simp only [i64_w, i32_w]; rw [c8b0]) | skip)
    by_cases c10 : a1_0 > a1_1
    ·rw [if_pos c10] at H
     have c10b0 : decide (a1_1 < a1_0) = true := decide_eq_true c10
     clear c10
     have H' := Aside0.mk H
     clear H
     have hcz11_0 : w7.cell? ⟨gb32001, 0, none⟩ = some (.int .i64 a1_0) := (blk_cell BK32001.out 0).trans rfl
     have hcz11_1 : w7.cell? ⟨gb32001, 1, none⟩ = some (.int .i64 a1_1) := (blk_cell BK32001.out 1).trans rfl
     have hfz11_0 := blk_frozen BK32001.out 0
     have hfz11_1 := blk_frozen BK32001.out 1
     go_wp2
     repeat (go_quiet (fail); try go_wp2)
     go_meet
     case rel => exact ⟨_, (true), (by first | rfl | (simp; done) | (simp [*]; done)), H', ⟨by first | omega | exact Nat.le_refl _⟩, ⟨BK32001.out⟩, ⟨by repeat (first | exact HB.out | apply below_alloc | apply pw_below_drewN | apply below_drew1 | refine below_set ?_ GE32001.out)⟩⟩
    ·rw [if_neg c10] at H
     have c10b0 : decide (a1_1 < a1_0) = false := decide_eq_false c10
     clear c10
     have H' := Aside0.mk H
     clear H
     have hcz12_0 : w7.cell? ⟨gb32001, 0, none⟩ = some (.int .i64 a1_0) := (blk_cell BK32001.out 0).trans rfl
     have hcz12_1 : w7.cell? ⟨gb32001, 1, none⟩ = some (.int .i64 a1_1) := (blk_cell BK32001.out 1).trans rfl
     have hfz12_0 := blk_frozen BK32001.out 0
     have hfz12_1 := blk_frozen BK32001.out 1
     go_wp2
     repeat (go_quiet (fail); try go_wp2)
     go_meet
     case rel => exact ⟨_, (decide (a1_1 > 17179869184)), (by first | rfl | (simp; done) | (simp [*]; done)), H', ⟨by first | omega | exact Nat.le_refl _⟩, ⟨BK32001.out⟩, ⟨by repeat (first | exact HB.out | apply below_alloc | apply pw_below_drewN | apply below_drew1 | refine below_set ?_ GE32001.out)⟩⟩
  case rest =>
   clear HC5
   try clear c1
   try clear p2
   try clear c3
   try clear c4
   try clear c4b0
   try clear c4b1
   try clear c8
   try clear c8b0
   try clear c10
   try clear c10b0
   try clear hcz11_0
   try clear hcz11_1
   try clear hcz12_0
   try clear hcz12_1
   try clear hcz9_0
   try clear hcz9_1
   try clear hfz11_0
   try clear hfz11_1
   try clear hfz12_0
   try clear hfz12_1
   try clear hfz9_0
   try clear hfz9_1
   obtain ⟨kq, x34_4, rfl, HA, HJ4, BK32001, HB⟩ := hcut
   cases kq with
   | zero => exact absurd HA.out (by simp [iso_Find.j0])
   | succ kj4 =>
    have H := HA.out
    clear HA
    simp only [iso_Find.j0] at H
    by_cases c13 : x34_4 = true
    ·subst c13
     have H1 : (some (([] : List (S37)), 1)) = some (r1, r2) := by rw [if_pos rfl] at H; exact H
     clear H
     have H := H1
     clear H1
     simp only [Option.some.injEq, Prod.mk.injEq] at H
     obtain ⟨rfl, rfl⟩ := H
     go_wp2
     repeat (go_quiet (fail); try go_wp2)
     go_ret2
     exact ⟨_, by first | rfl | (simp [errW_none, errW_some] <;> rfl) | (simp [*, errW_none, errW_some] <;> rfl), by first | exact Kd.R_nil _ _ _ _ _ | exact Kd.N_nil _ _ _ _ _ | exact Kd.V_nil _ _ _ _ _ | exact Kd.Q_nil _ _ _ _ _ | exact Kd.S_nil _ _ _ _ _, by repeat (first | exact HB.out | apply below_alloc | apply pw_below_drewN | apply below_drew1 | refine below_set ?_ GE32001.out)⟩
    ·replace c13 := Bool.eq_false_iff.mpr c13
     subst c13
     have H1 : (iso_Find.l0 kj4 ([] : List (S37)) 0 l0 (l0.length : Int) 0 a1_0 a1_1) = some (r1, r2) := by rw [if_neg (show ¬ (false = true) by decide)] at H; first | exact H | simpa using H
     clear H
     have H := H1
     clear H1
     have H' := Aside0.mk H
     clear H
     go_wp2
     repeat (go_quiet (fail); try go_wp2)
     go_loopg [7, 8, 37] kj4 (fun kq v7 v8 v37 w' => ∃ (x7_2 : List (S37)) (x8_2 : Int) (x37_2 : Int), v8 = .int .i64 x8_2 ∧ v37 = .int .i64 x37_2 ∧ Aside0 (iso_Find.l0 kq x7_2 x8_2 l0 (l0.length : Int) x37_2 a1_0 a1_1 = some (r1, r2)) ∧ Aside0 (kq ≤ kj4) ∧ Aside0 (Kd.R k37 37 w' w.heap.size (fun k_ => k_ ≠ gb32001) v7 x7_2) ∧ Aside0 (w'.heap[gb32001]? = some (.cells #[.int .i64 a1_0, .int .i64 a1_1] 37 (0, 0))) ∧ Aside0 (Below w.heap.size w w'))
     case atStart => exact ⟨(([] : List (S37))), (0), (0), (by first | rfl | (simp; done) | (simp [*]; done)), (by first | rfl | (simp; done) | (simp [*]; done)), H', ⟨Nat.le_refl _⟩, ⟨by first | exact Kd.R_nil _ _ _ _ _ | exact Kd.N_nil _ _ _ _ _ | exact Kd.V_nil _ _ _ _ _ | exact Kd.Q_nil _ _ _ _ _ | exact Kd.S_nil _ _ _ _ _⟩, ⟨BK32001.out⟩, ⟨by repeat (first | exact HB.out | apply below_alloc | apply pw_below_drewN | apply below_drew1 | refine below_set ?_ GE32001.out)⟩⟩
     case round =>
      clear H'
      try clear c1
      try clear p2
      try clear c3
      try clear c4
      try clear c4b0
      try clear c4b1
      try clear c8
      try clear c8b0
      try clear c10
      try clear c10b0
      try clear c13
      try clear hcz11_0
      try clear hcz11_1
      try clear hcz12_0
      try clear hcz12_1
      try clear hcz9_0
      try clear hcz9_1
      try clear hfz11_0
      try clear hfz11_1
      try clear hfz12_0
      try clear hfz12_1
      try clear hfz9_0
      try clear hfz9_1
      try clear p2
      obtain ⟨x7_2, x8_2, x37_2, rfl, rfl, HA, HK2, HO_7, BK32001, HB⟩ := hrel
      cases gk with
      | zero => exact absurd HA.out (by simp [iso_Find.l0])
      | succ k2 =>
       have H := HA.out
       clear HA
       simp only [iso_Find.l0] at H
       by_cases c14 : x37_2 < (l0.length : Int)
       ·rw [if_pos c14] at H
        have c14b0 : decide (x37_2 < (l0.length : Int)) = true := decide_eq_true c14
        clear c14
        by_cases c15 : 0 ≤ x37_2
        ·rw [if_pos c15] at H
         have c15b0 : decide (0 ≤ x37_2) = true := decide_eq_true c15
         clear c15
         by_cases c16 : x37_2 < (l0.length : Int)
         ·rw [if_pos c16] at H
          have c16b0 : decide (x37_2 < (l0.length : Int)) = true := decide_eq_true c16
          clear c16
          replace H := Option.bind_eq_some_iff.mp H
          obtain ⟨⟨t32009, t32010⟩, A170, H⟩ := H
          replace H : (if (mx t32009 a1_0) < (mn t32010 a1_1) then (if (rd_T32 l0 x37_2).f2 = true then (if x7_2.length < 8796093022208 then (iso_Find.l0 k2 (x7_2 ++ [(⟨wrap64 (x8_2 + (wrap64 (t32010 - (mn t32010 a1_1)))), wrap64 ((wrap64 ((wrap64 (x8_2 + (wrap64 (t32010 - (mn t32010 a1_1))))) + (mn t32010 a1_1))) - (mx t32009 a1_0))⟩ : S37)]) (wrap64 (x8_2 + ((rd_T32 l0 x37_2).f1))) l0 (l0.length : Int) (wrap64 (x37_2 + 1)) a1_0 a1_1) else (none)) else (if x7_2.length < 8796093022208 then (iso_Find.l0 k2 (x7_2 ++ [(⟨wrap64 (x8_2 + (wrap64 ((mx t32009 a1_0) - t32009))), wrap64 ((wrap64 ((wrap64 (x8_2 + (wrap64 ((mx t32009 a1_0) - t32009)))) + (mn t32010 a1_1))) - (mx t32009 a1_0))⟩ : S37)]) (wrap64 (x8_2 + ((rd_T32 l0 x37_2).f1))) l0 (l0.length : Int) (wrap64 (x37_2 + 1)) a1_0 a1_1) else (none))) else (iso_Find.l0 k2 x7_2 (wrap64 (x8_2 + ((rd_T32 l0 x37_2).f1))) l0 (l0.length : Int) (wrap64 (x37_2 + 1)) a1_0 a1_1)) = some (r1, r2) := H
          have A17 := Aside0.mk A170
          clear A170
          obtain ⟨ji18, hji18⟩ : ∃ j_ : Int, (mx t32009 a1_0) = j_ := ⟨_, rfl⟩
          replace H : (if (ji18) < (mn t32010 a1_1) then (if (rd_T32 l0 x37_2).f2 = true then (if x7_2.length < 8796093022208 then (iso_Find.l0 k2 (x7_2 ++ [(⟨wrap64 (x8_2 + (wrap64 (t32010 - (mn t32010 a1_1)))), wrap64 ((wrap64 ((wrap64 (x8_2 + (wrap64 (t32010 - (mn t32010 a1_1))))) + (mn t32010 a1_1))) - (ji18))⟩ : S37)]) (wrap64 (x8_2 + ((rd_T32 l0 x37_2).f1))) l0 (l0.length : Int) (wrap64 (x37_2 + 1)) a1_0 a1_1) else (none)) else (if x7_2.length < 8796093022208 then (iso_Find.l0 k2 (x7_2 ++ [(⟨wrap64 (x8_2 + (wrap64 ((ji18) - t32009))), wrap64 ((wrap64 ((wrap64 (x8_2 + (wrap64 ((ji18) - t32009)))) + (mn t32010 a1_1))) - (ji18))⟩ : S37)]) (wrap64 (x8_2 + ((rd_T32 l0 x37_2).f1))) l0 (l0.length : Int) (wrap64 (x37_2 + 1)) a1_0 a1_1) else (none))) else (iso_Find.l0 k2 x7_2 (wrap64 (x8_2 + ((rd_T32 l0 x37_2).f1))) l0 (l0.length : Int) (wrap64 (x37_2 + 1)) a1_0 a1_1)) = some (r1, r2) := by first | (rw [hji18] at H; exact H) | (simp only [hji18] at H ⊢; exact H)
          (try rw [hji18] at A17)
          have hji18_ : (if t32009 < a1_0 then a1_0 else t32009) = ji18 := hji18
          obtain ⟨ji19, hji19⟩ : ∃ j_ : Int, (mn t32010 a1_1) = j_ := ⟨_, rfl⟩
          replace H : (if (ji18) < (ji19) then (if (rd_T32 l0 x37_2).f2 = true then (if x7_2.length < 8796093022208 then (iso_Find.l0 k2 (x7_2 ++ [(⟨wrap64 (x8_2 + (wrap64 (t32010 - (ji19)))), wrap64 ((wrap64 ((wrap64 (x8_2 + (wrap64 (t32010 - (ji19))))) + (ji19))) - (ji18))⟩ : S37)]) (wrap64 (x8_2 + ((rd_T32 l0 x37_2).f1))) l0 (l0.length : Int) (wrap64 (x37_2 + 1)) a1_0 a1_1) else (none)) else (if x7_2.length < 8796093022208 then (iso_Find.l0 k2 (x7_2 ++ [(⟨wrap64 (x8_2 + (wrap64 ((ji18) - t32009))), wrap64 ((wrap64 ((wrap64 (x8_2 + (wrap64 ((ji18) - t32009)))) + (ji19))) - (ji18))⟩ : S37)]) (wrap64 (x8_2 + ((rd_T32 l0 x37_2).f1))) l0 (l0.length : Int) (wrap64 (x37_2 + 1)) a1_0 a1_1) else (none))) else (iso_Find.l0 k2 x7_2 (wrap64 (x8_2 + ((rd_T32 l0 x37_2).f1))) l0 (l0.length : Int) (wrap64 (x37_2 + 1)) a1_0 a1_1)) = some (r1, r2) := by first | (rw [hji19] at H; exact H) | (simp only [hji19] at H ⊢; exact H)
          (try rw [hji19] at A17)
          have hji19_ : (if a1_1 < t32010 then a1_1 else t32010) = ji19 := hji19
          by_cases c20 : (ji18) < (ji19)
          ·rw [if_pos c20] at H
           have c20b0 : decide ((ji18) < (ji19)) = true := decide_eq_true c20
           clear c20
           obtain ⟨bq21, hbq21⟩ : ∃ b_ : Bool, b_ = ((rd_T32 l0 x37_2).f2) := ⟨_, rfl⟩
           replace H : (if bq21 = true then (if x7_2.length < 8796093022208 then (iso_Find.l0 k2 (x7_2 ++ [(⟨wrap64 (x8_2 + (wrap64 (t32010 - (ji19)))), wrap64 ((wrap64 ((wrap64 (x8_2 + (wrap64 (t32010 - (ji19))))) + (ji19))) - (ji18))⟩ : S37)]) (wrap64 (x8_2 + ((rd_T32 l0 x37_2).f1))) l0 (l0.length : Int) (wrap64 (x37_2 + 1)) a1_0 a1_1) else (none)) else (if x7_2.length < 8796093022208 then (iso_Find.l0 k2 (x7_2 ++ [(⟨wrap64 (x8_2 + (wrap64 ((ji18) - t32009))), wrap64 ((wrap64 ((wrap64 (x8_2 + (wrap64 ((ji18) - t32009)))) + (ji19))) - (ji18))⟩ : S37)]) (wrap64 (x8_2 + ((rd_T32 l0 x37_2).f1))) l0 (l0.length : Int) (wrap64 (x37_2 + 1)) a1_0 a1_1) else (none))) = some (r1, r2) := by rw [← hbq21] at H; exact H
           (try rw [← hbq21] at A3)
           (try rw [← hbq21] at A17)
           have Nbq21 := Aside0.mk hbq21
           clear hbq21
           by_cases c22 : bq21 = true
           ·subst c22
            have H1 : (if x7_2.length < 8796093022208 then (iso_Find.l0 k2 (x7_2 ++ [(⟨wrap64 (x8_2 + (wrap64 (t32010 - (ji19)))), wrap64 ((wrap64 ((wrap64 (x8_2 + (wrap64 (t32010 - (ji19))))) + (ji19))) - (ji18))⟩ : S37)]) (wrap64 (x8_2 + ((rd_T32 l0 x37_2).f1))) l0 (l0.length : Int) (wrap64 (x37_2 + 1)) a1_0 a1_1) else (none)) = some (r1, r2) := by rw [if_pos rfl] at H; exact H
            clear H
            have H := H1
            clear H1
            by_cases c23 : x7_2.length < 8796093022208
            ·rw [if_pos c23] at H
             have LMc23 := Aside0.mk c23
             clear c23
             obtain ⟨y32012, hy32012⟩ : ∃ y_ : List (S37), y_ = (x7_2 ++ [(⟨wrap64 (x8_2 + (wrap64 (t32010 - (ji19)))), wrap64 ((wrap64 ((wrap64 (x8_2 + (wrap64 (t32010 - (ji19))))) + (ji19))) - (ji18))⟩ : S37)]) := ⟨_, rfl⟩
             replace H : (iso_Find.l0 k2 y32012 (wrap64 (x8_2 + ((rd_T32 l0 x37_2).f1))) l0 (l0.length : Int) (wrap64 (x37_2 + 1)) a1_0 a1_1) = some (r1, r2) := by first | (rw [hy32012]; with_reducible exact H) | (have H2_ := (Option.bind_some _ _).symm.trans H; rw [hy32012]; with_reducible exact H2_) | (have H2_ := (Option.bind_some _ _).symm.trans H; with_reducible exact H2_) | with_reducible exact H | (rw [hy32012]; exact H) | exact H
             have Ny32012 := Aside0.mk hy32012
             clear hy32012
             have H' := Aside0.mk H
             clear H
             have p32007 : 0 ≤ (x37_2 : Int) := of_decide_eq_true (by assumption)
             have q32007 : x37_2 < (l0.length : Int) := of_decide_eq_true (by assumption)
             obtain ⟨ad32007, e32007, hx32007_0, hx32007_1, hx32007_2⟩ := at_T32 HR0.out x37_2 p32007 q32007
             (try rw [← Nbq21.out] at hx32007_2)
             (try rw [← Nbq21.out] at hw32007_2)
             cases e32007
             replace hx32007_0 := (HB.out.cell (World.block_lt_of_cell? w _ hx32007_0)).trans hx32007_0
             replace hx32007_1 := (HB.out.cell (World.block_lt_of_cell? w _ hx32007_1)).trans hx32007_1
             replace hx32007_2 := (HB.out.cell (World.block_lt_of_cell? w _ hx32007_2)).trans hx32007_2
             replace p32007 := eq_true p32007
             replace q32007 := eq_true q32007
             go_wp2_with (first | ((with_reducible refine gate_dst (N := 10) rfl ?_); refine box_event ?hg (N := 10) ?hd (cs := #[.int .i64 0, .int .i64 0, .bool false]) (t := 32) ?hr ?_; (case hd => rfl); (case hg => rfl); (case hr => first | (go_simp; done) | (go_simp; rfl)); intro gb32008 hg w24 hbox hb; have n0_ := Aside0.mk (Kd.R_below (HO_7.out) hb); have n1_ := Aside0.mk (blk_below (g := gb32001) (o := .cells #[.int .i64 a1_0, .int .i64 a1_1] 37 (0, 0)) (BK32001.out) hb); have n2_ := Aside0.mk (below_step (by repeat (first | exact HB.out | apply below_alloc | apply pw_below_drewN | apply below_drew1 | refine below_set ?_ GE32001.out)) hb); have n3_ := Aside0.mk (hbox); have n4_ := Aside0.mk ((by rw [hg]; exact (below_size (by repeat (first | exact HB.out | apply below_alloc | apply pw_below_drewN | apply below_drew1 | refine below_set ?_ GE32001.out))) : w.heap.size ≤ gb32008)); have n5_ := Aside0.mk ((by rw [hg]; exact (below_size (by repeat (first | exact HB.out | apply below_alloc | apply pw_below_drewN | apply below_drew1 | refine below_set ?_ GE32001.out))) : w.heap.size ≤ gb32008)); have n6_ := Aside0.mk ((by rw [hg]; exact Nat.ne_of_lt (blk_lt (g := gb32001) (o := .cells #[.int .i64 a1_0, .int .i64 a1_1] 37 (0, 0)) (BK32001.out)) : gb32001 ≠ gb32008)); have n7_ := Aside0.mk ((by rw [hg]; exact Nat.ne_of_gt (blk_lt (g := gb32001) (o := .cells #[.int .i64 a1_0, .int .i64 a1_1] 37 (0, 0)) (BK32001.out)) : gb32008 ≠ gb32001)); clear HO_7; clear BK32001; clear HB; have HO_7 := n0_; have BK32001 := n1_; have HB := n2_; have BK32008 := n3_; have GW32008 := n4_; have GE32008 := n5_; have NB32001_32008 := n6_; have NB32008_32001 := n7_; clear n0_ n1_ n2_ n3_ n4_ n5_ n6_ n7_; clear hb hbox hg; have hnb25 := NB32008_32001.out; have hnc25 := NB32001_32008.out; have hcz26_0 : w24.cell? ⟨gb32008, 0, none⟩ = some (.int .i64 0) := (blk_cell BK32008.out 0).trans rfl; have hcz26_1 : w24.cell? ⟨gb32008, 1, none⟩ = some (.int .i64 0) := (blk_cell BK32008.out 1).trans rfl; have hcz26_2 : w24.cell? ⟨gb32008, 2, none⟩ = some (.bool false) := (blk_cell BK32008.out 2).trans rfl; have hfz26_0 := blk_frozen BK32008.out 0; have hfz26_1 := blk_frozen BK32008.out 1; have hfz26_2 := blk_frozen BK32008.out 2) | (go_at_call 57; (with_reducible refine (iso_images.calls ((rd_T32 l0 x37_2).f0) ((rd_T32 l0 x37_2).f1) true t32009 t32010 _ A17.out).mono ?_); rintro e w27 ⟨rfl, hb⟩; have n0_ := Aside0.mk (Kd.R_below (by exact (Kd.R_mono (Kd.R_far (p := ⟨gb32008, 2, none⟩) (Kd.R_far (p := ⟨gb32008, 1, none⟩) (Kd.R_far (p := ⟨gb32008, 0, none⟩) (Kd.R_types HO_7.out BK32008.out (by decide)) (fun _ hk => hk.2) (.int .i64 ((rd_T32 l0 x37_2).f0))) (fun _ hk => hk.2) (.int .i64 ((rd_T32 l0 x37_2).f1))) (fun _ hk => hk.2) (.bool true)) (fun _ h_ => h_.1))) hb); have n1_ := Aside0.mk (blk_below (g := gb32001) (o := .cells #[.int .i64 a1_0, .int .i64 a1_1] 37 (0, 0)) (by refine blk_far ?_ NB32001_32008.out _; refine blk_far ?_ NB32001_32008.out _; refine blk_far ?_ NB32001_32008.out _; exact BK32001.out) hb); have n2_ := Aside0.mk (blk_below (g := gb32008) (o := .cells #[.int .i64 ((rd_T32 l0 x37_2).f0), .int .i64 ((rd_T32 l0 x37_2).f1), .bool true] 32 (0, 0)) (by refine blk_put (cs := #[.int .i64 ((rd_T32 l0 x37_2).f0), .int .i64 ((rd_T32 l0 x37_2).f1), .bool false]) ?_ 2 _ rfl; refine blk_put (cs := #[.int .i64 ((rd_T32 l0 x37_2).f0), .int .i64 0, .bool false]) ?_ 1 _ rfl; refine blk_put (cs := #[.int .i64 0, .int .i64 0, .bool false]) ?_ 0 _ rfl; exact BK32008.out) hb); have n3_ := Aside0.mk (below_step (by repeat (first | exact HB.out | apply below_alloc | apply pw_below_drewN | apply below_drew1 | refine below_set ?_ GE32001.out | refine below_set ?_ GE32008.out)) hb); clear HO_7; clear BK32001; clear BK32008; clear HB; have HO_7 := n0_; have BK32001 := n1_; have BK32008 := n2_; have HB := n3_; clear n0_ n1_ n2_ n3_; (try clear hb); (try clear hb2); (try clear hk); (try clear hi)) | ((with_reducible refine gate_dst (N := 11) rfl ?_); refine box_event ?hg (N := 11) ?hd (cs := #[.int .i64 0, .int .i64 0]) (t := 37) ?hr ?_; (case hd => rfl); (case hg => rfl); (case hr => first | (go_simp; done) | (go_simp; rfl)); intro gb32011 hg w28 hbox hb; have n0_ := Aside0.mk (Kd.R_below (Kd.R_elderB (HO_7.out) gb32011 (Nat.le_of_eq hg.symm)) hb); have n1_ := Aside0.mk (blk_below (g := gb32001) (o := .cells #[.int .i64 a1_0, .int .i64 a1_1] 37 (0, 0)) (BK32001.out) hb); have n2_ := Aside0.mk (blk_below (g := gb32008) (o := .cells #[.int .i64 ((rd_T32 l0 x37_2).f0), .int .i64 ((rd_T32 l0 x37_2).f1), .bool true] 32 (0, 0)) (BK32008.out) hb); have n3_ := Aside0.mk (below_step (by repeat (first | exact HB.out | apply below_alloc | apply pw_below_drewN | apply below_drew1 | refine below_set ?_ GE32001.out | refine below_set ?_ GE32008.out)) hb); have n4_ := Aside0.mk (hbox); have n5_ := Aside0.mk ((by rw [hg]; exact (below_size (by repeat (first | exact HB.out | apply below_alloc | apply pw_below_drewN | apply below_drew1 | refine below_set ?_ GE32001.out | refine below_set ?_ GE32008.out))) : w.heap.size ≤ gb32011)); have n6_ := Aside0.mk ((by rw [hg]; exact (below_size (by repeat (first | exact HB.out | apply below_alloc | apply pw_below_drewN | apply below_drew1 | refine below_set ?_ GE32001.out | refine below_set ?_ GE32008.out))) : w.heap.size ≤ gb32011)); have n7_ := Aside0.mk ((by rw [hg]; exact Nat.ne_of_lt (blk_lt (g := gb32001) (o := .cells #[.int .i64 a1_0, .int .i64 a1_1] 37 (0, 0)) (BK32001.out)) : gb32001 ≠ gb32011)); have n8_ := Aside0.mk ((by rw [hg]; exact Nat.ne_of_gt (blk_lt (g := gb32001) (o := .cells #[.int .i64 a1_0, .int .i64 a1_1] 37 (0, 0)) (BK32001.out)) : gb32011 ≠ gb32001)); have n9_ := Aside0.mk ((by rw [hg]; exact Nat.ne_of_lt (blk_lt (g := gb32008) (o := .cells #[.int .i64 ((rd_T32 l0 x37_2).f0), .int .i64 ((rd_T32 l0 x37_2).f1), .bool true] 32 (0, 0)) (BK32008.out)) : gb32008 ≠ gb32011)); have n10_ := Aside0.mk ((by rw [hg]; exact Nat.ne_of_gt (blk_lt (g := gb32008) (o := .cells #[.int .i64 ((rd_T32 l0 x37_2).f0), .int .i64 ((rd_T32 l0 x37_2).f1), .bool true] 32 (0, 0)) (BK32008.out)) : gb32011 ≠ gb32008)); clear HO_7; clear BK32001; clear BK32008; clear HB; have HO_7 := n0_; have BK32001 := n1_; have BK32008 := n2_; have HB := n3_; have BK32011 := n4_; have GW32011 := n5_; have GE32011 := n6_; have NB32001_32011 := n7_; have NB32011_32001 := n8_; have NB32008_32011 := n9_; have NB32011_32008 := n10_; clear n0_ n1_ n2_ n3_ n4_ n5_ n6_ n7_ n8_ n9_ n10_; clear hb hbox hg; have hnb29 := NB32011_32001.out; have hnc29 := NB32001_32011.out; have hnb30 := NB32011_32008.out; have hnc30 := NB32008_32011.out; have hcz31_0 : w28.cell? ⟨gb32011, 0, none⟩ = some (.int .i64 0) := (blk_cell BK32011.out 0).trans rfl; have hcz31_1 : w28.cell? ⟨gb32011, 1, none⟩ = some (.int .i64 0) := (blk_cell BK32011.out 1).trans rfl; have hfz31_0 := blk_frozen BK32011.out 0; have hfz31_1 := blk_frozen BK32011.out 1; have hcz32_0 : w28.cell? ⟨gb32001, 0, none⟩ = some (.int .i64 a1_0) := (blk_cell BK32001.out 0).trans rfl; have hcz32_1 : w28.cell? ⟨gb32001, 1, none⟩ = some (.int .i64 a1_1) := (blk_cell BK32001.out 1).trans rfl; have hfz32_0 := blk_frozen BK32001.out 0; have hfz32_1 := blk_frozen BK32001.out 1; have hcz33_0 : w28.cell? ⟨gb32008, 0, none⟩ = some (.int .i64 ((rd_T32 l0 x37_2).f0)) := (blk_cell BK32008.out 0).trans rfl; have hcz33_1 : w28.cell? ⟨gb32008, 1, none⟩ = some (.int .i64 ((rd_T32 l0 x37_2).f1)) := (blk_cell BK32008.out 1).trans rfl; have hcz33_2 : w28.cell? ⟨gb32008, 2, none⟩ = some (.bool true) := (blk_cell BK32008.out 2).trans rfl; have hfz33_0 := blk_frozen BK32008.out 0; have hfz33_1 := blk_frozen BK32008.out 1; have hfz33_2 := blk_frozen BK32008.out 2) | ((with_reducible refine gate_builtin (b := .append) (xs := #[.tmp 66, .tmp 78]) rfl ?_); at_builtin; refine Kd.R_append k37 (w0 := w) w.heap.size rfl (.tmp 66) (.tmp 78) 41 37 (.agg #[(.int .i64 0), (.int .i64 0)]) 16 rfl Try.underlying41 info37 rfl (by decide) (by omega) u7 x7_2 (⟨wrap64 (x8_2 + (wrap64 (t32010 - (ji19)))), wrap64 ((wrap64 ((wrap64 (x8_2 + (wrap64 (t32010 - (ji19))))) + (ji19))) - (ji18))⟩ : S37) [.int .i64 (wrap64 (x8_2 + (wrap64 (t32010 - (ji19))))), .int .i64 (wrap64 ((wrap64 ((wrap64 (x8_2 + (wrap64 (t32010 - (ji19))))) + (ji19))) - (ji18)))] (fun k_ => k_ ≠ gb32001 ∧ k_ ≠ gb32011) (fun _ => False) rfl (by first | (go_simp; done) | (go_simp; rfl)) ?aP (fun _ hk => hk.elim) ?aF ?aO ?aB ?aS ?aL ?_; (case aP => exact k37_mkM _ _ _ (⟨wrap64 (x8_2 + (wrap64 (t32010 - (ji19)))), wrap64 ((wrap64 ((wrap64 (x8_2 + (wrap64 (t32010 - (ji19))))) + (ji19))) - (ji18))⟩ : S37)); (case aB => exact (by repeat (first | exact HB.out | apply below_alloc | apply pw_below_drewN | apply below_drew1 | refine below_set ?_ GE32001.out | refine below_set ?_ GE32008.out | refine below_set ?_ GE32011.out))); (case aF => exact (fun k_ hk => ⟨Kd.freshB (g := gb32001) (o := .cells #[.int .i64 a1_0, .int .i64 a1_1] 37 (0, 0)) (by refine blk_far ?_ NB32001_32011.out _; refine blk_far ?_ NB32001_32011.out _; exact BK32001.out) k_ hk, Kd.freshB (g := gb32011) (o := .cells #[.int .i64 t32009, .int .i64 t32010] 37 (0, 0)) (by refine blk_put (cs := #[.int .i64 t32009, .int .i64 0]) ?_ 1 _ rfl; refine blk_put (cs := #[.int .i64 0, .int .i64 0]) ?_ 0 _ rfl; exact BK32011.out) k_ hk⟩)); (case aO => exact (by exact Kd.R_mono (Kd.R_far (p := ⟨gb32011, 1, none⟩) (Kd.R_far (p := ⟨gb32011, 0, none⟩) (Kd.R_mono HO_7.out (fun k_ hk => (⟨hk, hk.2⟩ : _ ∧ k_ ≠ gb32011))) (fun _ hk => hk.2) (.int .i64 t32009)) (fun _ hk => hk.2) (.int .i64 t32010)) (fun _ hk => ⟨hk.1.1, hk.1.2⟩))); (case aS => exact (below_size (by repeat (first | exact HB.out | apply below_alloc | apply pw_below_drewN | apply below_drew1 | refine below_set ?_ GE32001.out | refine below_set ?_ GE32008.out | refine below_set ?_ GE32011.out)))); (case aL => have := LMc23.out; omega); intro v32013 w34 ho hb hg hat; rw [← Ny32012.out] at ho; have n0_ := Aside0.mk (blk_grown (g := gb32001) (o := .cells #[.int .i64 a1_0, .int .i64 a1_1] 37 (0, 0)) (by refine blk_far ?_ NB32001_32011.out _; refine blk_far ?_ NB32001_32011.out _; exact BK32001.out) hg (Kd.R_away HO_7.out (fun _ hk => hk.1))); have n1_ := Aside0.mk (blk_grown (g := gb32008) (o := .cells #[.int .i64 ((rd_T32 l0 x37_2).f0), .int .i64 ((rd_T32 l0 x37_2).f1), .bool true] 32 (0, 0)) (by refine blk_far ?_ NB32008_32011.out _; refine blk_far ?_ NB32008_32011.out _; exact BK32008.out) hg (Kd.R_ne HO_7.out BK32008.out (by decide))); have n2_ := Aside0.mk (blk_grown (g := gb32011) (o := .cells #[.int .i64 t32009, .int .i64 t32010] 37 (0, 0)) (by refine blk_put (cs := #[.int .i64 t32009, .int .i64 0]) ?_ 1 _ rfl; refine blk_put (cs := #[.int .i64 0, .int .i64 0]) ?_ 0 _ rfl; exact BK32011.out) hg (Kd.R_away HO_7.out (fun _ hk => hk.2))); have n3_ := Aside0.mk (hb); have n4_ := Aside0.mk (ho); clear BK32001; clear BK32008; clear BK32011; clear HB; clear HO_7; have BK32001 := n0_; have BK32008 := n1_; have BK32011 := n2_; have HB := n3_; have HO32014 := n4_; clear n0_ n1_ n2_ n3_ n4_; clear ho hb hg hat; have hcz35_0 : w34.cell? ⟨gb32008, 0, none⟩ = some (.int .i64 ((rd_T32 l0 x37_2).f0)) := (blk_cell BK32008.out 0).trans rfl; have hcz35_1 : w34.cell? ⟨gb32008, 1, none⟩ = some (.int .i64 ((rd_T32 l0 x37_2).f1)) := (blk_cell BK32008.out 1).trans rfl; have hcz35_2 : w34.cell? ⟨gb32008, 2, none⟩ = some (.bool true) := (blk_cell BK32008.out 2).trans rfl; have hfz35_0 := blk_frozen BK32008.out 0; have hfz35_1 := blk_frozen BK32008.out 1; have hfz35_2 := blk_frozen BK32008.out 2))
             repeat (go_quiet (first | ((with_reducible refine gate_dst (N := 10) rfl ?_); refine box_event ?hg (N := 10) ?hd (cs := #[.int .i64 0, .int .i64 0, .bool false]) (t := 32) ?hr ?_; (case hd => rfl); (case hg => rfl); (case hr => first | (go_simp; done) | (go_simp; rfl)); intro gb32008 hg w24 hbox hb; have n0_ := Aside0.mk (Kd.R_below (HO_7.out) hb); have n1_ := Aside0.mk (blk_below (g := gb32001) (o := .cells #[.int .i64 a1_0, .int .i64 a1_1] 37 (0, 0)) (BK32001.out) hb); have n2_ := Aside0.mk (below_step (by repeat (first | exact HB.out | apply below_alloc | apply pw_below_drewN | apply below_drew1 | refine below_set ?_ GE32001.out)) hb); have n3_ := Aside0.mk (hbox); have n4_ := Aside0.mk ((by rw [hg]; exact (below_size (by repeat (first | exact HB.out | apply below_alloc | apply pw_below_drewN | apply below_drew1 | refine below_set ?_ GE32001.out))) : w.heap.size ≤ gb32008)); have n5_ := Aside0.mk ((by rw [hg]; exact (below_size (by repeat (first | exact HB.out | apply below_alloc | apply pw_below_drewN | apply below_drew1 | refine below_set ?_ GE32001.out))) : w.heap.size ≤ gb32008)); have n6_ := Aside0.mk ((by rw [hg]; exact Nat.ne_of_lt (blk_lt (g := gb32001) (o := .cells #[.int .i64 a1_0, .int .i64 a1_1] 37 (0, 0)) (BK32001.out)) : gb32001 ≠ gb32008)); have n7_ := Aside0.mk ((by rw [hg]; exact Nat.ne_of_gt (blk_lt (g := gb32001) (o := .cells #[.int .i64 a1_0, .int .i64 a1_1] 37 (0, 0)) (BK32001.out)) : gb32008 ≠ gb32001)); clear HO_7; clear BK32001; clear HB; have HO_7 := n0_; have BK32001 := n1_; have HB := n2_; have BK32008 := n3_; have GW32008 := n4_; have GE32008 := n5_; have NB32001_32008 := n6_; have NB32008_32001 := n7_; clear n0_ n1_ n2_ n3_ n4_ n5_ n6_ n7_; clear hb hbox hg; have hnb25 := NB32008_32001.out; have hnc25 := NB32001_32008.out; have hcz26_0 : w24.cell? ⟨gb32008, 0, none⟩ = some (.int .i64 0) := (blk_cell BK32008.out 0).trans rfl; have hcz26_1 : w24.cell? ⟨gb32008, 1, none⟩ = some (.int .i64 0) := (blk_cell BK32008.out 1).trans rfl; have hcz26_2 : w24.cell? ⟨gb32008, 2, none⟩ = some (.bool false) := (blk_cell BK32008.out 2).trans rfl; have hfz26_0 := blk_frozen BK32008.out 0; have hfz26_1 := blk_frozen BK32008.out 1; have hfz26_2 := blk_frozen BK32008.out 2) | (go_at_call 57; (with_reducible refine (iso_images.calls ((rd_T32 l0 x37_2).f0) ((rd_T32 l0 x37_2).f1) true t32009 t32010 _ A17.out).mono ?_); rintro e w27 ⟨rfl, hb⟩; have n0_ := Aside0.mk (Kd.R_below (by exact (Kd.R_mono (Kd.R_far (p := ⟨gb32008, 2, none⟩) (Kd.R_far (p := ⟨gb32008, 1, none⟩) (Kd.R_far (p := ⟨gb32008, 0, none⟩) (Kd.R_types HO_7.out BK32008.out (by decide)) (fun _ hk => hk.2) (.int .i64 ((rd_T32 l0 x37_2).f0))) (fun _ hk => hk.2) (.int .i64 ((rd_T32 l0 x37_2).f1))) (fun _ hk => hk.2) (.bool true)) (fun _ h_ => h_.1))) hb); have n1_ := Aside0.mk (blk_below (g := gb32001) (o := .cells #[.int .i64 a1_0, .int .i64 a1_1] 37 (0, 0)) (by refine blk_far ?_ NB32001_32008.out _; refine blk_far ?_ NB32001_32008.out _; refine blk_far ?_ NB32001_32008.out _; exact BK32001.out) hb); have n2_ := Aside0.mk (blk_below (g := gb32008) (o := .cells #[.int .i64 ((rd_T32 l0 x37_2).f0), .int .i64 ((rd_T32 l0 x37_2).f1), .bool true] 32 (0, 0)) (by refine blk_put (cs := #[.int .i64 ((rd_T32 l0 x37_2).f0), .int .i64 ((rd_T32 l0 x37_2).f1), .bool false]) ?_ 2 _ rfl; refine blk_put (cs := #[.int .i64 ((rd_T32 l0 x37_2).f0), .int .i64 0, .bool false]) ?_ 1 _ rfl; refine blk_put (cs := #[.int .i64 0, .int .i64 0, .bool false]) ?_ 0 _ rfl; exact BK32008.out) hb); have n3_ := Aside0.mk (below_step (by repeat (first | exact HB.out | apply below_alloc | apply pw_below_drewN | apply below_drew1 | refine below_set ?_ GE32001.out | refine below_set ?_ GE32008.out)) hb); clear HO_7; clear BK32001; clear BK32008; clear HB; have HO_7 := n0_; have BK32001 := n1_; have BK32008 := n2_; have HB := n3_; clear n0_ n1_ n2_ n3_; (try clear hb); (try clear hb2); (try clear hk); (try clear hi)) | ((with_reducible refine gate_dst (N := 11) rfl ?_); refine box_event ?hg (N := 11) ?hd (cs := #[.int .i64 0, .int .i64 0]) (t := 37) ?hr ?_; (case hd => rfl); (case hg => rfl); (case hr => first | (go_simp; done) | (go_simp; rfl)); intro gb32011 hg w28 hbox hb; have n0_ := Aside0.mk (Kd.R_below (Kd.R_elderB (HO_7.out) gb32011 (Nat.le_of_eq hg.symm)) hb); have n1_ := Aside0.mk (blk_below (g := gb32001) (o := .cells #[.int .i64 a1_0, .int .i64 a1_1] 37 (0, 0)) (BK32001.out) hb); have n2_ := Aside0.mk (blk_below (g := gb32008) (o := .cells #[.int .i64 ((rd_T32 l0 x37_2).f0), .int .i64 ((rd_T32 l0 x37_2).f1), .bool true] 32 (0, 0)) (BK32008.out) hb); have n3_ := Aside0.mk (below_step (by repeat (first | exact HB.out | apply below_alloc | apply pw_below_drewN | apply below_drew1 | refine below_set ?_ GE32001.out | refine below_set ?_ GE32008.out)) hb); have n4_ := Aside0.mk (hbox); have n5_ := Aside0.mk ((by rw [hg]; exact (below_size (by repeat (first | exact HB.out | apply below_alloc | apply pw_below_drewN | apply below_drew1 | refine below_set ?_ GE32001.out | refine below_set ?_ GE32008.out))) : w.heap.size ≤ gb32011)); have n6_ := Aside0.mk ((by rw [hg]; exact (below_size (by repeat (first | exact HB.out | apply below_alloc | apply pw_below_drewN | apply below_drew1 | refine below_set ?_ GE32001.out | refine below_set ?_ GE32008.out))) : w.heap.size ≤ gb32011)); have n7_ := Aside0.mk ((by rw [hg]; exact Nat.ne_of_lt (blk_lt (g := gb32001) (o := .cells #[.int .i64 a1_0, .int .i64 a1_1] 37 (0, 0)) (BK32001.out)) : gb32001 ≠ gb32011)); have n8_ := Aside0.mk ((by rw [hg]; exact Nat.ne_of_gt (blk_lt (g := gb32001) (o := .cells #[.int .i64 a1_0, .int .i64 a1_1] 37 (0, 0)) (BK32001.out)) : gb32011 ≠ gb32001)); have n9_ := Aside0.mk ((by rw [hg]; exact Nat.ne_of_lt (blk_lt (g := gb32008) (o := .cells #[.int .i64 ((rd_T32 l0 x37_2).f0), .int .i64 ((rd_T32 l0 x37_2).f1), .bool true] 32 (0, 0)) (BK32008.out)) : gb32008 ≠ gb32011)); have n10_ := Aside0.mk ((by rw [hg]; exact Nat.ne_of_gt (blk_lt (g := gb32008) (o := .cells #[.int .i64 ((rd_T32 l0 x37_2).f0), .int .i64 ((rd_T32 l0 x37_2).f1), .bool true] 32 (0, 0)) (BK32008.out)) : gb32011 ≠ gb32008)); clear HO_7; clear BK32001; clear BK32008; clear HB; have HO_7 := n0_; have BK32001 := n1_; have BK32008 := n2_; have HB := n3_; have BK32011 := n4_; have GW32011 := n5_; have GE32011 := n6_; have NB32001_32011 := n7_; have NB32011_32001 := n8_; have NB32008_32011 := n9_; have NB32011_32008 := n10_; clear n0_ n1_ n2_ n3_ n4_ n5_ n6_ n7_ n8_ n9_ n10_; clear hb hbox hg; have hnb29 := NB32011_32001.out; have hnc29 := NB32001_32011.out; have hnb30 := NB32011_32008.out; have hnc30 := NB32008_32011.out; have hcz31_0 : w28.cell? ⟨gb32011, 0, none⟩ = some (.int .i64 0) := (blk_cell BK32011.out 0).trans rfl; have hcz31_1 : w28.cell? ⟨gb32011, 1, none⟩ = some (.int .i64 0) := (blk_cell BK32011.out 1).trans rfl; have hfz31_0 := blk_frozen BK32011.out 0; have hfz31_1 := blk_frozen BK32011.out 1; have hcz32_0 : w28.cell? ⟨gb32001, 0, none⟩ = some (.int .i64 a1_0) := (blk_cell BK32001.out 0).trans rfl; have hcz32_1 : w28.cell? ⟨gb32001, 1, none⟩ = some (.int .i64 a1_1) := (blk_cell BK32001.out 1).trans rfl; have hfz32_0 := blk_frozen BK32001.out 0; have hfz32_1 := blk_frozen BK32001.out 1; have hcz33_0 : w28.cell? ⟨gb32008, 0, none⟩ = some (.int .i64 ((rd_T32 l0 x37_2).f0)) := (blk_cell BK32008.out 0).trans rfl; have hcz33_1 : w28.cell? ⟨gb32008, 1, none⟩ = some (.int .i64 ((rd_T32 l0 x37_2).f1)) := (blk_cell BK32008.out 1).trans rfl; have hcz33_2 : w28.cell? ⟨gb32008, 2, none⟩ = some (.bool true) := (blk_cell BK32008.out 2).trans rfl; have hfz33_0 := blk_frozen BK32008.out 0; have hfz33_1 := blk_frozen BK32008.out 1; have hfz33_2 := blk_frozen BK32008.out 2) | ((with_reducible refine gate_builtin (b := .append) (xs := #[.tmp 66, .tmp 78]) rfl ?_); at_builtin; refine Kd.R_append k37 (w0 := w) w.heap.size rfl (.tmp 66) (.tmp 78) 41 37 (.agg #[(.int .i64 0), (.int .i64 0)]) 16 rfl Try.underlying41 info37 rfl (by decide) (by omega) u7 x7_2 (⟨wrap64 (x8_2 + (wrap64 (t32010 - (ji19)))), wrap64 ((wrap64 ((wrap64 (x8_2 + (wrap64 (t32010 - (ji19))))) + (ji19))) - (ji18))⟩ : S37) [.int .i64 (wrap64 (x8_2 + (wrap64 (t32010 - (ji19))))), .int .i64 (wrap64 ((wrap64 ((wrap64 (x8_2 + (wrap64 (t32010 - (ji19))))) + (ji19))) - (ji18)))] (fun k_ => k_ ≠ gb32001 ∧ k_ ≠ gb32011) (fun _ => False) rfl (by first | (go_simp; done) | (go_simp; rfl)) ?aP (fun _ hk => hk.elim) ?aF ?aO ?aB ?aS ?aL ?_; (case aP => exact k37_mkM _ _ _ (⟨wrap64 (x8_2 + (wrap64 (t32010 - (ji19)))), wrap64 ((wrap64 ((wrap64 (x8_2 + (wrap64 (t32010 - (ji19))))) + (ji19))) - (ji18))⟩ : S37)); (case aB => exact (by repeat (first | exact HB.out | apply below_alloc | apply pw_below_drewN | apply below_drew1 | refine below_set ?_ GE32001.out | refine below_set ?_ GE32008.out | refine below_set ?_ GE32011.out))); (case aF => exact (fun k_ hk => ⟨Kd.freshB (g := gb32001) (o := .cells #[.int .i64 a1_0, .int .i64 a1_1] 37 (0, 0)) (by refine blk_far ?_ NB32001_32011.out _; refine blk_far ?_ NB32001_32011.out _; exact BK32001.out) k_ hk, Kd.freshB (g := gb32011) (o := .cells #[.int .i64 t32009, .int .i64 t32010] 37 (0, 0)) (by refine blk_put (cs := #[.int .i64 t32009, .int .i64 0]) ?_ 1 _ rfl; refine blk_put (cs := #[.int .i64 0, .int .i64 0]) ?_ 0 _ rfl; exact BK32011.out) k_ hk⟩)); (case aO => exact (by exact Kd.R_mono (Kd.R_far (p := ⟨gb32011, 1, none⟩) (Kd.R_far (p := ⟨gb32011, 0, none⟩) (Kd.R_mono HO_7.out (fun k_ hk => (⟨hk, hk.2⟩ : _ ∧ k_ ≠ gb32011))) (fun _ hk => hk.2) (.int .i64 t32009)) (fun _ hk => hk.2) (.int .i64 t32010)) (fun _ hk => ⟨hk.1.1, hk.1.2⟩))); (case aS => exact (below_size (by repeat (first | exact HB.out | apply below_alloc | apply pw_below_drewN | apply below_drew1 | refine below_set ?_ GE32001.out | refine below_set ?_ GE32008.out | refine below_set ?_ GE32011.out)))); (case aL => have := LMc23.out; omega); intro v32013 w34 ho hb hg hat; rw [← Ny32012.out] at ho; have n0_ := Aside0.mk (blk_grown (g := gb32001) (o := .cells #[.int .i64 a1_0, .int .i64 a1_1] 37 (0, 0)) (by refine blk_far ?_ NB32001_32011.out _; refine blk_far ?_ NB32001_32011.out _; exact BK32001.out) hg (Kd.R_away HO_7.out (fun _ hk => hk.1))); have n1_ := Aside0.mk (blk_grown (g := gb32008) (o := .cells #[.int .i64 ((rd_T32 l0 x37_2).f0), .int .i64 ((rd_T32 l0 x37_2).f1), .bool true] 32 (0, 0)) (by refine blk_far ?_ NB32008_32011.out _; refine blk_far ?_ NB32008_32011.out _; exact BK32008.out) hg (Kd.R_ne HO_7.out BK32008.out (by decide))); have n2_ := Aside0.mk (blk_grown (g := gb32011) (o := .cells #[.int .i64 t32009, .int .i64 t32010] 37 (0, 0)) (by refine blk_put (cs := #[.int .i64 t32009, .int .i64 0]) ?_ 1 _ rfl; refine blk_put (cs := #[.int .i64 0, .int .i64 0]) ?_ 0 _ rfl; exact BK32011.out) hg (Kd.R_away HO_7.out (fun _ hk => hk.2))); have n3_ := Aside0.mk (hb); have n4_ := Aside0.mk (ho); clear BK32001; clear BK32008; clear BK32011; clear HB; clear HO_7; have BK32001 := n0_; have BK32008 := n1_; have BK32011 := n2_; have HB := n3_; have HO32014 := n4_; clear n0_ n1_ n2_ n3_ n4_; clear ho hb hg hat; have hcz35_0 : w34.cell? ⟨gb32008, 0, none⟩ = some (.int .i64 ((rd_T32 l0 x37_2).f0)) := (blk_cell BK32008.out 0).trans rfl; have hcz35_1 : w34.cell? ⟨gb32008, 1, none⟩ = some (.int .i64 ((rd_T32 l0 x37_2).f1)) := (blk_cell BK32008.out 1).trans rfl; have hcz35_2 : w34.cell? ⟨gb32008, 2, none⟩ = some (.bool true) := (blk_cell BK32008.out 2).trans rfl; have hfz35_0 := blk_frozen BK32008.out 0; have hfz35_1 := blk_frozen BK32008.out 1; have hfz35_2 := blk_frozen BK32008.out 2)); try go_wp2_with (first | ((with_reducible refine gate_dst (N := 10) rfl ?_); refine box_event ?hg (N := 10) ?hd (cs := #[.int .i64 0, .int .i64 0, .bool false]) (t := 32) ?hr ?_; (case hd => rfl); (case hg => rfl); (case hr => first | (go_simp; done) | (go_simp; rfl)); intro gb32008 hg w24 hbox hb; have n0_ := Aside0.mk (Kd.R_below (HO_7.out) hb); have n1_ := Aside0.mk (blk_below (g := gb32001) (o := .cells #[.int .i64 a1_0, .int .i64 a1_1] 37 (0, 0)) (BK32001.out) hb); have n2_ := Aside0.mk (below_step (by repeat (first | exact HB.out | apply below_alloc | apply pw_below_drewN | apply below_drew1 | refine below_set ?_ GE32001.out)) hb); have n3_ := Aside0.mk (hbox); have n4_ := Aside0.mk ((by rw [hg]; exact (below_size (by repeat (first | exact HB.out | apply below_alloc | apply pw_below_drewN | apply below_drew1 | refine below_set ?_ GE32001.out))) : w.heap.size ≤ gb32008)); have n5_ := Aside0.mk ((by rw [hg]; exact (below_size (by repeat (first | exact HB.out | apply below_alloc | apply pw_below_drewN | apply below_drew1 | refine below_set ?_ GE32001.out))) : w.heap.size ≤ gb32008)); have n6_ := Aside0.mk ((by rw [hg]; exact Nat.ne_of_lt (blk_lt (g := gb32001) (o := .cells #[.int .i64 a1_0, .int .i64 a1_1] 37 (0, 0)) (BK32001.out)) : gb32001 ≠ gb32008)); have n7_ := Aside0.mk ((by rw [hg]; exact Nat.ne_of_gt (blk_lt (g := gb32001) (o := .cells #[.int .i64 a1_0, .int .i64 a1_1] 37 (0, 0)) (BK32001.out)) : gb32008 ≠ gb32001)); clear HO_7; clear BK32001; clear HB; have HO_7 := n0_; have BK32001 := n1_; have HB := n2_; have BK32008 := n3_; have GW32008 := n4_; have GE32008 := n5_; have NB32001_32008 := n6_; have NB32008_32001 := n7_; clear n0_ n1_ n2_ n3_ n4_ n5_ n6_ n7_; clear hb hbox hg; have hnb25 := NB32008_32001.out; have hnc25 := NB32001_32008.out; have hcz26_0 : w24.cell? ⟨gb32008, 0, none⟩ = some (.int .i64 0) := (blk_cell BK32008.out 0).trans rfl; have hcz26_1 : w24.cell? ⟨gb32008, 1, none⟩ = some (.int .i64 0) := (blk_cell BK32008.out 1).trans rfl; have hcz26_2 : w24.cell? ⟨gb32008, 2, none⟩ = some (.bool false) := (blk_cell BK32008.out 2).trans rfl; have hfz26_0 := blk_frozen BK32008.out 0; have hfz26_1 := blk_frozen BK32008.out 1; have hfz26_2 := blk_frozen BK32008.out 2) | (go_at_call 57; (with_reducible refine (iso_images.calls ((rd_T32 l0 x37_2).f0) ((rd_T32 l0 x37_2).f1) true t32009 t32010 _ A17.out).mono ?_); rintro e w27 ⟨rfl, hb⟩; have n0_ := Aside0.mk (Kd.R_below (by exact (Kd.R_mono (Kd.R_far (p := ⟨gb32008, 2, none⟩) (Kd.R_far (p := ⟨gb32008, 1, none⟩) (Kd.R_far (p := ⟨gb32008, 0, none⟩) (Kd.R_types HO_7.out BK32008.out (by decide)) (fun _ hk => hk.2) (.int .i64 ((rd_T32 l0 x37_2).f0))) (fun _ hk => hk.2) (.int .i64 ((rd_T32 l0 x37_2).f1))) (fun _ hk => hk.2) (.bool true)) (fun _ h_ => h_.1))) hb); have n1_ := Aside0.mk (blk_below (g := gb32001) (o := .cells #[.int .i64 a1_0, .int .i64 a1_1] 37 (0, 0)) (by refine blk_far ?_ NB32001_32008.out _; refine blk_far ?_ NB32001_32008.out _; refine blk_far ?_ NB32001_32008.out _; exact BK32001.out) hb); have n2_ := Aside0.mk (blk_below (g := gb32008) (o := .cells #[.int .i64 ((rd_T32 l0 x37_2).f0), .int .i64 ((rd_T32 l0 x37_2).f1), .bool true] 32 (0, 0)) (by refine blk_put (cs := #[.int .i64 ((rd_T32 l0 x37_2).f0), .int .i64 ((rd_T32 l0 x37_2).f1), .bool false]) ?_ 2 _ rfl; refine blk_put (cs := #[.int .i64 ((rd_T32 l0 x37_2).f0), .int .i64 0, .bool false]) ?_ 1 _ rfl; refine blk_put (cs := #[.int .i64 0, .int .i64 0, .bool false]) ?_ 0 _ rfl; exact BK32008.out) hb); have n3_ := Aside0.mk (below_step (by repeat (first | exact HB.out | apply below_alloc | apply pw_below_drewN | apply below_drew1 | refine below_set ?_ GE32001.out | refine below_set ?_ GE32008.out)) hb); clear HO_7; clear BK32001; clear BK32008; clear HB; have HO_7 := n0_; have BK32001 := n1_; have BK32008 := n2_; have HB := n3_; clear n0_ n1_ n2_ n3_; (try clear hb); (try clear hb2); (try clear hk); (try clear hi)) | ((with_reducible refine gate_dst (N := 11) rfl ?_); refine box_event ?hg (N := 11) ?hd (cs := #[.int .i64 0, .int .i64 0]) (t := 37) ?hr ?_; (case hd => rfl); (case hg => rfl); (case hr => first | (go_simp; done) | (go_simp; rfl)); intro gb32011 hg w28 hbox hb; have n0_ := Aside0.mk (Kd.R_below (Kd.R_elderB (HO_7.out) gb32011 (Nat.le_of_eq hg.symm)) hb); have n1_ := Aside0.mk (blk_below (g := gb32001) (o := .cells #[.int .i64 a1_0, .int .i64 a1_1] 37 (0, 0)) (BK32001.out) hb); have n2_ := Aside0.mk (blk_below (g := gb32008) (o := .cells #[.int .i64 ((rd_T32 l0 x37_2).f0), .int .i64 ((rd_T32 l0 x37_2).f1), .bool true] 32 (0, 0)) (BK32008.out) hb); have n3_ := Aside0.mk (below_step (by repeat (first | exact HB.out | apply below_alloc | apply pw_below_drewN | apply below_drew1 | refine below_set ?_ GE32001.out | refine below_set ?_ GE32008.out)) hb); have n4_ := Aside0.mk (hbox); have n5_ := Aside0.mk ((by rw [hg]; exact (below_size (by repeat (first | exact HB.out | apply below_alloc | apply pw_below_drewN | apply below_drew1 | refine below_set ?_ GE32001.out | refine below_set ?_ GE32008.out))) : w.heap.size ≤ gb32011)); have n6_ := Aside0.mk ((by rw [hg]; exact (below_size (by repeat (first | exact HB.out | apply below_alloc | apply pw_below_drewN | apply below_drew1 | refine below_set ?_ GE32001.out | refine below_set ?_ GE32008.out))) : w.heap.size ≤ gb32011)); have n7_ := Aside0.mk ((by rw [hg]; exact Nat.ne_of_lt (blk_lt (g := gb32001) (o := .cells #[.int .i64 a1_0, .int .i64 a1_1] 37 (0, 0)) (BK32001.out)) : gb32001 ≠ gb32011)); have n8_ := Aside0.mk ((by rw [hg]; exact Nat.ne_of_gt (blk_lt (g := gb32001) (o := .cells #[.int .i64 a1_0, .int .i64 a1_1] 37 (0, 0)) (BK32001.out)) : gb32011 ≠ gb32001)); have n9_ := Aside0.mk ((by rw [hg]; exact Nat.ne_of_lt (blk_lt (g := gb32008) (o := .cells #[.int .i64 ((rd_T32 l0 x37_2).f0), .int .i64 ((rd_T32 l0 x37_2).f1), .bool true] 32 (0, 0)) (BK32008.out)) : gb32008 ≠ gb32011)); have n10_ := Aside0.mk ((by rw [hg]; exact Nat.ne_of_gt (blk_lt (g := gb32008) (o := .cells #[.int .i64 ((rd_T32 l0 x37_2).f0), .int .i64 ((rd_T32 l0 x37_2).f1), .bool true] 32 (0, 0)) (BK32008.out)) : gb32011 ≠ gb32008)); clear HO_7; clear BK32001; clear BK32008; clear HB; have HO_7 := n0_; have BK32001 := n1_; have BK32008 := n2_; have HB := n3_; have BK32011 := n4_; have GW32011 := n5_; have GE32011 := n6_; have NB32001_32011 := n7_; have NB32011_32001 := n8_; have NB32008_32011 := n9_; have NB32011_32008 := n10_; clear n0_ n1_ n2_ n3_ n4_ n5_ n6_ n7_ n8_ n9_ n10_; clear hb hbox hg; have hnb29 := NB32011_32001.out; have hnc29 := NB32001_32011.out; have hnb30 := NB32011_32008.out; have hnc30 := NB32008_32011.out; have hcz31_0 : w28.cell? ⟨gb32011, 0, none⟩ = some (.int .i64 0) := (blk_cell BK32011.out 0).trans rfl; have hcz31_1 : w28.cell? ⟨gb32011, 1, none⟩ = some (.int .i64 0) := (blk_cell BK32011.out 1).trans rfl; have hfz31_0 := blk_frozen BK32011.out 0; have hfz31_1 := blk_frozen BK32011.out 1; have hcz32_0 : w28.cell? ⟨gb32001, 0, none⟩ = some (.int .i64 a1_0) := (blk_cell BK32001.out 0).trans rfl; have hcz32_1 : w28.cell? ⟨gb32001, 1, none⟩ = some (.int .i64 a1_1) := (blk_cell BK32001.out 1).trans rfl; have hfz32_0 := blk_frozen BK32001.out 0; have hfz32_1 := blk_frozen BK32001.out 1; have hcz33_0 : w28.cell? ⟨gb32008, 0, none⟩ = some (.int .i64 ((rd_T32 l0 x37_2).f0)) := (blk_cell BK32008.out 0).trans rfl; have hcz33_1 : w28.cell? ⟨gb32008, 1, none⟩ = some (.int .i64 ((rd_T32 l0 x37_2).f1)) := (blk_cell BK32008.out 1).trans rfl; have hcz33_2 : w28.cell? ⟨gb32008, 2, none⟩ = some (.bool true) := (blk_cell BK32008.out 2).trans rfl; have hfz33_0 := blk_frozen BK32008.out 0; have hfz33_1 := blk_frozen BK32008.out 1; have hfz33_2 := blk_frozen BK32008.out 2) | ((with_reducible refine gate_builtin (b := .append) (xs := #[.tmp 66, .tmp 78]) rfl ?_); at_builtin; refine Kd.R_append k37 (w0 := w) w.heap.size rfl (.tmp 66) (.tmp 78) 41 37 (.agg #[(.int .i64 0), (.int .i64 0)]) 16 rfl Try.underlying41 info37 rfl (by decide) (by omega) u7 x7_2 (⟨wrap64 (x8_2 + (wrap64 (t32010 - (ji19)))), wrap64 ((wrap64 ((wrap64 (x8_2 + (wrap64 (t32010 - (ji19))))) + (ji19))) - (ji18))⟩ : S37) [.int .i64 (wrap64 (x8_2 + (wrap64 (t32010 - (ji19))))), .int .i64 (wrap64 ((wrap64 ((wrap64 (x8_2 + (wrap64 (t32010 - (ji19))))) + (ji19))) - (ji18)))] (fun k_ => k_ ≠ gb32001 ∧ k_ ≠ gb32011) (fun _ => False) rfl (by first | (go_simp; done) | (go_simp; rfl)) ?aP (fun _ hk => hk.elim) ?aF ?aO ?aB ?aS ?aL ?_; (case aP => exact k37_mkM _ _ _ (⟨wrap64 (x8_2 + (wrap64 (t32010 - (ji19)))), wrap64 ((wrap64 ((wrap64 (x8_2 + (wrap64 (t32010 - (ji19))))) + (ji19))) - (ji18))⟩ : S37)); (case aB => exact (by repeat (first | exact HB.out | apply below_alloc | apply pw_below_drewN | apply below_drew1 | refine below_set ?_ GE32001.out | refine below_set ?_ GE32008.out | refine below_set ?_ GE32011.out))); (case aF => exact (fun k_ hk => ⟨Kd.freshB (g := gb32001) (o := .cells #[.int .i64 a1_0, .int .i64 a1_1] 37 (0, 0)) (by refine blk_far ?_ NB32001_32011.out _; refine blk_far ?_ NB32001_32011.out _; exact BK32001.out) k_ hk, Kd.freshB (g := gb32011) (o := .cells #[.int .i64 t32009, .int .i64 t32010] 37 (0, 0)) (by refine blk_put (cs := #[.int .i64 t32009, .int .i64 0]) ?_ 1 _ rfl; refine blk_put (cs := #[.int .i64 0, .int .i64 0]) ?_ 0 _ rfl; exact BK32011.out) k_ hk⟩)); (case aO => exact (by exact Kd.R_mono (Kd.R_far (p := ⟨gb32011, 1, none⟩) (Kd.R_far (p := ⟨gb32011, 0, none⟩) (Kd.R_mono HO_7.out (fun k_ hk => (⟨hk, hk.2⟩ : _ ∧ k_ ≠ gb32011))) (fun _ hk => hk.2) (.int .i64 t32009)) (fun _ hk => hk.2) (.int .i64 t32010)) (fun _ hk => ⟨hk.1.1, hk.1.2⟩))); (case aS => exact (below_size (by repeat (first | exact HB.out | apply below_alloc | apply pw_below_drewN | apply below_drew1 | refine below_set ?_ GE32001.out | refine below_set ?_ GE32008.out | refine below_set ?_ GE32011.out)))); (case aL => have := LMc23.out; omega); intro v32013 w34 ho hb hg hat; rw [← Ny32012.out] at ho; have n0_ := Aside0.mk (blk_grown (g := gb32001) (o := .cells #[.int .i64 a1_0, .int .i64 a1_1] 37 (0, 0)) (by refine blk_far ?_ NB32001_32011.out _; refine blk_far ?_ NB32001_32011.out _; exact BK32001.out) hg (Kd.R_away HO_7.out (fun _ hk => hk.1))); have n1_ := Aside0.mk (blk_grown (g := gb32008) (o := .cells #[.int .i64 ((rd_T32 l0 x37_2).f0), .int .i64 ((rd_T32 l0 x37_2).f1), .bool true] 32 (0, 0)) (by refine blk_far ?_ NB32008_32011.out _; refine blk_far ?_ NB32008_32011.out _; exact BK32008.out) hg (Kd.R_ne HO_7.out BK32008.out (by decide))); have n2_ := Aside0.mk (blk_grown (g := gb32011) (o := .cells #[.int .i64 t32009, .int .i64 t32010] 37 (0, 0)) (by refine blk_put (cs := #[.int .i64 t32009, .int .i64 0]) ?_ 1 _ rfl; refine blk_put (cs := #[.int .i64 0, .int .i64 0]) ?_ 0 _ rfl; exact BK32011.out) hg (Kd.R_away HO_7.out (fun _ hk => hk.2))); have n3_ := Aside0.mk (hb); have n4_ := Aside0.mk (ho); clear BK32001; clear BK32008; clear BK32011; clear HB; clear HO_7; have BK32001 := n0_; have BK32008 := n1_; have BK32011 := n2_; have HB := n3_; have HO32014 := n4_; clear n0_ n1_ n2_ n3_ n4_; clear ho hb hg hat; have hcz35_0 : w34.cell? ⟨gb32008, 0, none⟩ = some (.int .i64 ((rd_T32 l0 x37_2).f0)) := (blk_cell BK32008.out 0).trans rfl; have hcz35_1 : w34.cell? ⟨gb32008, 1, none⟩ = some (.int .i64 ((rd_T32 l0 x37_2).f1)) := (blk_cell BK32008.out 1).trans rfl; have hcz35_2 : w34.cell? ⟨gb32008, 2, none⟩ = some (.bool true) := (blk_cell BK32008.out 2).trans rfl; have hfz35_0 := blk_frozen BK32008.out 0; have hfz35_1 := blk_frozen BK32008.out 1; have hfz35_2 := blk_frozen BK32008.out 2)))
             go_roundg k2
             case measure => have := HJ4.out; have := HK2.out; omega
             case rel => exact ⟨(y32012), (wrap64 (x8_2 + ((rd_T32 l0 x37_2).f1))), (wrap64 (x37_2 + 1)), (by first | rfl | (simp; done) | (simp [*]; done)), (by first | rfl | (simp; done) | (simp [*]; done)), H', ⟨by have := HJ4.out; have := HK2.out; omega⟩, ⟨by exact Kd.R_mono HO32014.out (fun _ hk => hk.1)⟩, ⟨BK32001.out⟩, ⟨by repeat (first | exact HB.out | apply below_alloc | apply pw_below_drewN | apply below_drew1 | refine below_set ?_ GE32001.out | refine below_set ?_ GE32008.out | refine below_set ?_ GE32011.out)⟩⟩
            ·rw [if_neg c23] at H
             exact absurd H (by simp)
           ·replace c22 := Bool.eq_false_iff.mpr c22
            subst c22
            have H1 : (if x7_2.length < 8796093022208 then (iso_Find.l0 k2 (x7_2 ++ [(⟨wrap64 (x8_2 + (wrap64 ((ji18) - t32009))), wrap64 ((wrap64 ((wrap64 (x8_2 + (wrap64 ((ji18) - t32009)))) + (ji19))) - (ji18))⟩ : S37)]) (wrap64 (x8_2 + ((rd_T32 l0 x37_2).f1))) l0 (l0.length : Int) (wrap64 (x37_2 + 1)) a1_0 a1_1) else (none)) = some (r1, r2) := by rw [if_neg (show ¬ (false = true) by decide)] at H; first | exact H | simpa using H
            clear H
            have H := H1
            clear H1
            by_cases c36 : x7_2.length < 8796093022208
            ·rw [if_pos c36] at H
             have LMc36 := Aside0.mk c36
             clear c36
             obtain ⟨y32015, hy32015⟩ : ∃ y_ : List (S37), y_ = (x7_2 ++ [(⟨wrap64 (x8_2 + (wrap64 ((ji18) - t32009))), wrap64 ((wrap64 ((wrap64 (x8_2 + (wrap64 ((ji18) - t32009)))) + (ji19))) - (ji18))⟩ : S37)]) := ⟨_, rfl⟩
             replace H : (iso_Find.l0 k2 y32015 (wrap64 (x8_2 + ((rd_T32 l0 x37_2).f1))) l0 (l0.length : Int) (wrap64 (x37_2 + 1)) a1_0 a1_1) = some (r1, r2) := by first | (rw [hy32015]; with_reducible exact H) | (have H2_ := (Option.bind_some _ _).symm.trans H; rw [hy32015]; with_reducible exact H2_) | (have H2_ := (Option.bind_some _ _).symm.trans H; with_reducible exact H2_) | with_reducible exact H | (rw [hy32015]; exact H) | exact H
             have Ny32015 := Aside0.mk hy32015
             clear hy32015
             have H' := Aside0.mk H
             clear H
             have p32007 : 0 ≤ (x37_2 : Int) := of_decide_eq_true (by assumption)
             have q32007 : x37_2 < (l0.length : Int) := of_decide_eq_true (by assumption)
             obtain ⟨ad32007, e32007, hx32007_0, hx32007_1, hx32007_2⟩ := at_T32 HR0.out x37_2 p32007 q32007
             (try rw [← Nbq21.out] at hx32007_2)
             (try rw [← Nbq21.out] at hw32007_2)
             cases e32007
             replace hx32007_0 := (HB.out.cell (World.block_lt_of_cell? w _ hx32007_0)).trans hx32007_0
             replace hx32007_1 := (HB.out.cell (World.block_lt_of_cell? w _ hx32007_1)).trans hx32007_1
             replace hx32007_2 := (HB.out.cell (World.block_lt_of_cell? w _ hx32007_2)).trans hx32007_2
             replace p32007 := eq_true p32007
             replace q32007 := eq_true q32007
             go_wp2_with (first | ((with_reducible refine gate_dst (N := 10) rfl ?_); refine box_event ?hg (N := 10) ?hd (cs := #[.int .i64 0, .int .i64 0, .bool false]) (t := 32) ?hr ?_; (case hd => rfl); (case hg => rfl); (case hr => first | (go_simp; done) | (go_simp; rfl)); intro gb32008 hg w37 hbox hb; have n0_ := Aside0.mk (Kd.R_below (HO_7.out) hb); have n1_ := Aside0.mk (blk_below (g := gb32001) (o := .cells #[.int .i64 a1_0, .int .i64 a1_1] 37 (0, 0)) (BK32001.out) hb); have n2_ := Aside0.mk (below_step (by repeat (first | exact HB.out | apply below_alloc | apply pw_below_drewN | apply below_drew1 | refine below_set ?_ GE32001.out)) hb); have n3_ := Aside0.mk (hbox); have n4_ := Aside0.mk ((by rw [hg]; exact (below_size (by repeat (first | exact HB.out | apply below_alloc | apply pw_below_drewN | apply below_drew1 | refine below_set ?_ GE32001.out))) : w.heap.size ≤ gb32008)); have n5_ := Aside0.mk ((by rw [hg]; exact (below_size (by repeat (first | exact HB.out | apply below_alloc | apply pw_below_drewN | apply below_drew1 | refine below_set ?_ GE32001.out))) : w.heap.size ≤ gb32008)); have n6_ := Aside0.mk ((by rw [hg]; exact Nat.ne_of_lt (blk_lt (g := gb32001) (o := .cells #[.int .i64 a1_0, .int .i64 a1_1] 37 (0, 0)) (BK32001.out)) : gb32001 ≠ gb32008)); have n7_ := Aside0.mk ((by rw [hg]; exact Nat.ne_of_gt (blk_lt (g := gb32001) (o := .cells #[.int .i64 a1_0, .int .i64 a1_1] 37 (0, 0)) (BK32001.out)) : gb32008 ≠ gb32001)); clear HO_7; clear BK32001; clear HB; have HO_7 := n0_; have BK32001 := n1_; have HB := n2_; have BK32008 := n3_; have GW32008 := n4_; have GE32008 := n5_; have NB32001_32008 := n6_; have NB32008_32001 := n7_; clear n0_ n1_ n2_ n3_ n4_ n5_ n6_ n7_; clear hb hbox hg; have hnb38 := NB32008_32001.out; have hnc38 := NB32001_32008.out; have hcz39_0 : w37.cell? ⟨gb32008, 0, none⟩ = some (.int .i64 0) := (blk_cell BK32008.out 0).trans rfl; have hcz39_1 : w37.cell? ⟨gb32008, 1, none⟩ = some (.int .i64 0) := (blk_cell BK32008.out 1).trans rfl; have hcz39_2 : w37.cell? ⟨gb32008, 2, none⟩ = some (.bool false) := (blk_cell BK32008.out 2).trans rfl; have hfz39_0 := blk_frozen BK32008.out 0; have hfz39_1 := blk_frozen BK32008.out 1; have hfz39_2 := blk_frozen BK32008.out 2) | (go_at_call 57; (with_reducible refine (iso_images.calls ((rd_T32 l0 x37_2).f0) ((rd_T32 l0 x37_2).f1) false t32009 t32010 _ A17.out).mono ?_); rintro e w40 ⟨rfl, hb⟩; have n0_ := Aside0.mk (Kd.R_below (by exact (Kd.R_mono (Kd.R_far (p := ⟨gb32008, 2, none⟩) (Kd.R_far (p := ⟨gb32008, 1, none⟩) (Kd.R_far (p := ⟨gb32008, 0, none⟩) (Kd.R_types HO_7.out BK32008.out (by decide)) (fun _ hk => hk.2) (.int .i64 ((rd_T32 l0 x37_2).f0))) (fun _ hk => hk.2) (.int .i64 ((rd_T32 l0 x37_2).f1))) (fun _ hk => hk.2) (.bool false)) (fun _ h_ => h_.1))) hb); have n1_ := Aside0.mk (blk_below (g := gb32001) (o := .cells #[.int .i64 a1_0, .int .i64 a1_1] 37 (0, 0)) (by refine blk_far ?_ NB32001_32008.out _; refine blk_far ?_ NB32001_32008.out _; refine blk_far ?_ NB32001_32008.out _; exact BK32001.out) hb); have n2_ := Aside0.mk (blk_below (g := gb32008) (o := .cells #[.int .i64 ((rd_T32 l0 x37_2).f0), .int .i64 ((rd_T32 l0 x37_2).f1), .bool false] 32 (0, 0)) (by refine blk_put (cs := #[.int .i64 ((rd_T32 l0 x37_2).f0), .int .i64 ((rd_T32 l0 x37_2).f1), .bool false]) ?_ 2 _ rfl; refine blk_put (cs := #[.int .i64 ((rd_T32 l0 x37_2).f0), .int .i64 0, .bool false]) ?_ 1 _ rfl; refine blk_put (cs := #[.int .i64 0, .int .i64 0, .bool false]) ?_ 0 _ rfl; exact BK32008.out) hb); have n3_ := Aside0.mk (below_step (by repeat (first | exact HB.out | apply below_alloc | apply pw_below_drewN | apply below_drew1 | refine below_set ?_ GE32001.out | refine below_set ?_ GE32008.out)) hb); clear HO_7; clear BK32001; clear BK32008; clear HB; have HO_7 := n0_; have BK32001 := n1_; have BK32008 := n2_; have HB := n3_; clear n0_ n1_ n2_ n3_; (try clear hb); (try clear hb2); (try clear hk); (try clear hi)) | ((with_reducible refine gate_dst (N := 11) rfl ?_); refine box_event ?hg (N := 11) ?hd (cs := #[.int .i64 0, .int .i64 0]) (t := 37) ?hr ?_; (case hd => rfl); (case hg => rfl); (case hr => first | (go_simp; done) | (go_simp; rfl)); intro gb32011 hg w41 hbox hb; have n0_ := Aside0.mk (Kd.R_below (Kd.R_elderB (HO_7.out) gb32011 (Nat.le_of_eq hg.symm)) hb); have n1_ := Aside0.mk (blk_below (g := gb32001) (o := .cells #[.int .i64 a1_0, .int .i64 a1_1] 37 (0, 0)) (BK32001.out) hb); have n2_ := Aside0.mk (blk_below (g := gb32008) (o := .cells #[.int .i64 ((rd_T32 l0 x37_2).f0), .int .i64 ((rd_T32 l0 x37_2).f1), .bool false] 32 (0, 0)) (BK32008.out) hb); have n3_ := Aside0.mk (below_step (by repeat (first | exact HB.out | apply below_alloc | apply pw_below_drewN | apply below_drew1 | refine below_set ?_ GE32001.out | refine below_set ?_ GE32008.out)) hb); have n4_ := Aside0.mk (hbox); have n5_ := Aside0.mk ((by rw [hg]; exact (below_size (by repeat (first | exact HB.out | apply below_alloc | apply pw_below_drewN | apply below_drew1 | refine below_set ?_ GE32001.out | refine below_set ?_ GE32008.out))) : w.heap.size ≤ gb32011)); have n6_ := Aside0.mk ((by rw [hg]; exact (below_size (by repeat (first | exact HB.out | apply below_alloc | apply pw_below_drewN | apply below_drew1 | refine below_set ?_ GE32001.out | refine below_set ?_ GE32008.out))) : w.heap.size ≤ gb32011)); have n7_ := Aside0.mk ((by rw [hg]; exact Nat.ne_of_lt (blk_lt (g := gb32001) (o := .cells #[.int .i64 a1_0, .int .i64 a1_1] 37 (0, 0)) (BK32001.out)) : gb32001 ≠ gb32011)); have n8_ := Aside0.mk ((by rw [hg]; exact Nat.ne_of_gt (blk_lt (g := gb32001) (o := .cells #[.int .i64 a1_0, .int .i64 a1_1] 37 (0, 0)) (BK32001.out)) : gb32011 ≠ gb32001)); have n9_ := Aside0.mk ((by rw [hg]; exact Nat.ne_of_lt (blk_lt (g := gb32008) (o := .cells #[.int .i64 ((rd_T32 l0 x37_2).f0), .int .i64 ((rd_T32 l0 x37_2).f1), .bool false] 32 (0, 0)) (BK32008.out)) : gb32008 ≠ gb32011)); have n10_ := Aside0.mk ((by rw [hg]; exact Nat.ne_of_gt (blk_lt (g := gb32008) (o := .cells #[.int .i64 ((rd_T32 l0 x37_2).f0), .int .i64 ((rd_T32 l0 x37_2).f1), .bool false] 32 (0, 0)) (BK32008.out)) : gb32011 ≠ gb32008)); clear HO_7; clear BK32001; clear BK32008; clear HB; have HO_7 := n0_; have BK32001 := n1_; have BK32008 := n2_; have HB := n3_; have BK32011 := n4_; have GW32011 := n5_; have GE32011 := n6_; have NB32001_32011 := n7_; have NB32011_32001 := n8_; have NB32008_32011 := n9_; have NB32011_32008 := n10_; clear n0_ n1_ n2_ n3_ n4_ n5_ n6_ n7_ n8_ n9_ n10_; clear hb hbox hg; have hnb42 := NB32011_32001.out; have hnc42 := NB32001_32011.out; have hnb43 := NB32011_32008.out; have hnc43 := NB32008_32011.out; have hcz44_0 : w41.cell? ⟨gb32011, 0, none⟩ = some (.int .i64 0) := (blk_cell BK32011.out 0).trans rfl; have hcz44_1 : w41.cell? ⟨gb32011, 1, none⟩ = some (.int .i64 0) := (blk_cell BK32011.out 1).trans rfl; have hfz44_0 := blk_frozen BK32011.out 0; have hfz44_1 := blk_frozen BK32011.out 1; have hcz45_0 : w41.cell? ⟨gb32001, 0, none⟩ = some (.int .i64 a1_0) := (blk_cell BK32001.out 0).trans rfl; have hcz45_1 : w41.cell? ⟨gb32001, 1, none⟩ = some (.int .i64 a1_1) := (blk_cell BK32001.out 1).trans rfl; have hfz45_0 := blk_frozen BK32001.out 0; have hfz45_1 := blk_frozen BK32001.out 1; have hcz46_0 : w41.cell? ⟨gb32008, 0, none⟩ = some (.int .i64 ((rd_T32 l0 x37_2).f0)) := (blk_cell BK32008.out 0).trans rfl; have hcz46_1 : w41.cell? ⟨gb32008, 1, none⟩ = some (.int .i64 ((rd_T32 l0 x37_2).f1)) := (blk_cell BK32008.out 1).trans rfl; have hcz46_2 : w41.cell? ⟨gb32008, 2, none⟩ = some (.bool false) := (blk_cell BK32008.out 2).trans rfl; have hfz46_0 := blk_frozen BK32008.out 0; have hfz46_1 := blk_frozen BK32008.out 1; have hfz46_2 := blk_frozen BK32008.out 2) | ((with_reducible refine gate_builtin (b := .append) (xs := #[.tmp 66, .tmp 78]) rfl ?_); at_builtin; refine Kd.R_append k37 (w0 := w) w.heap.size rfl (.tmp 66) (.tmp 78) 41 37 (.agg #[(.int .i64 0), (.int .i64 0)]) 16 rfl Try.underlying41 info37 rfl (by decide) (by omega) u7 x7_2 (⟨wrap64 (x8_2 + (wrap64 ((ji18) - t32009))), wrap64 ((wrap64 ((wrap64 (x8_2 + (wrap64 ((ji18) - t32009)))) + (ji19))) - (ji18))⟩ : S37) [.int .i64 (wrap64 (x8_2 + (wrap64 ((ji18) - t32009)))), .int .i64 (wrap64 ((wrap64 ((wrap64 (x8_2 + (wrap64 ((ji18) - t32009)))) + (ji19))) - (ji18)))] (fun k_ => k_ ≠ gb32001 ∧ k_ ≠ gb32011) (fun _ => False) rfl (by first | (go_simp; done) | (go_simp; rfl)) ?aP (fun _ hk => hk.elim) ?aF ?aO ?aB ?aS ?aL ?_; (case aP => exact k37_mkM _ _ _ (⟨wrap64 (x8_2 + (wrap64 ((ji18) - t32009))), wrap64 ((wrap64 ((wrap64 (x8_2 + (wrap64 ((ji18) - t32009)))) + (ji19))) - (ji18))⟩ : S37)); (case aB => exact (by repeat (first | exact HB.out | apply below_alloc | apply pw_below_drewN | apply below_drew1 | refine below_set ?_ GE32001.out | refine below_set ?_ GE32008.out | refine below_set ?_ GE32011.out))); (case aF => exact (fun k_ hk => ⟨Kd.freshB (g := gb32001) (o := .cells #[.int .i64 a1_0, .int .i64 a1_1] 37 (0, 0)) (by refine blk_far ?_ NB32001_32011.out _; refine blk_far ?_ NB32001_32011.out _; exact BK32001.out) k_ hk, Kd.freshB (g := gb32011) (o := .cells #[.int .i64 t32009, .int .i64 t32010] 37 (0, 0)) (by refine blk_put (cs := #[.int .i64 t32009, .int .i64 0]) ?_ 1 _ rfl; refine blk_put (cs := #[.int .i64 0, .int .i64 0]) ?_ 0 _ rfl; exact BK32011.out) k_ hk⟩)); (case aO => exact (by exact Kd.R_mono (Kd.R_far (p := ⟨gb32011, 1, none⟩) (Kd.R_far (p := ⟨gb32011, 0, none⟩) (Kd.R_mono HO_7.out (fun k_ hk => (⟨hk, hk.2⟩ : _ ∧ k_ ≠ gb32011))) (fun _ hk => hk.2) (.int .i64 t32009)) (fun _ hk => hk.2) (.int .i64 t32010)) (fun _ hk => ⟨hk.1.1, hk.1.2⟩))); (case aS => exact (below_size (by repeat (first | exact HB.out | apply below_alloc | apply pw_below_drewN | apply below_drew1 | refine below_set ?_ GE32001.out | refine below_set ?_ GE32008.out | refine below_set ?_ GE32011.out)))); (case aL => have := LMc36.out; omega); intro v32016 w47 ho hb hg hat; rw [← Ny32015.out] at ho; have n0_ := Aside0.mk (blk_grown (g := gb32001) (o := .cells #[.int .i64 a1_0, .int .i64 a1_1] 37 (0, 0)) (by refine blk_far ?_ NB32001_32011.out _; refine blk_far ?_ NB32001_32011.out _; exact BK32001.out) hg (Kd.R_away HO_7.out (fun _ hk => hk.1))); have n1_ := Aside0.mk (blk_grown (g := gb32008) (o := .cells #[.int .i64 ((rd_T32 l0 x37_2).f0), .int .i64 ((rd_T32 l0 x37_2).f1), .bool false] 32 (0, 0)) (by refine blk_far ?_ NB32008_32011.out _; refine blk_far ?_ NB32008_32011.out _; exact BK32008.out) hg (Kd.R_ne HO_7.out BK32008.out (by decide))); have n2_ := Aside0.mk (blk_grown (g := gb32011) (o := .cells #[.int .i64 t32009, .int .i64 t32010] 37 (0, 0)) (by refine blk_put (cs := #[.int .i64 t32009, .int .i64 0]) ?_ 1 _ rfl; refine blk_put (cs := #[.int .i64 0, .int .i64 0]) ?_ 0 _ rfl; exact BK32011.out) hg (Kd.R_away HO_7.out (fun _ hk => hk.2))); have n3_ := Aside0.mk (hb); have n4_ := Aside0.mk (ho); clear BK32001; clear BK32008; clear BK32011; clear HB; clear HO_7; have BK32001 := n0_; have BK32008 := n1_; have BK32011 := n2_; have HB := n3_; have HO32017 := n4_; clear n0_ n1_ n2_ n3_ n4_; clear ho hb hg hat; have hcz48_0 : w47.cell? ⟨gb32008, 0, none⟩ = some (.int .i64 ((rd_T32 l0 x37_2).f0)) := (blk_cell BK32008.out 0).trans rfl; have hcz48_1 : w47.cell? ⟨gb32008, 1, none⟩ = some (.int .i64 ((rd_T32 l0 x37_2).f1)) := (blk_cell BK32008.out 1).trans rfl; have hcz48_2 : w47.cell? ⟨gb32008, 2, none⟩ = some (.bool false) := (blk_cell BK32008.out 2).trans rfl; have hfz48_0 := blk_frozen BK32008.out 0; have hfz48_1 := blk_frozen BK32008.out 1; have hfz48_2 := blk_frozen BK32008.out 2))
             repeat (go_quiet (first | ((with_reducible refine gate_dst (N := 10) rfl ?_); refine box_event ?hg (N := 10) ?hd (cs := #[.int .i64 0, .int .i64 0, .bool false]) (t := 32) ?hr ?_; (case hd => rfl); (case hg => rfl); (case hr => first | (go_simp; done) | (go_simp; rfl)); intro gb32008 hg w37 hbox hb; have n0_ := Aside0.mk (Kd.R_below (HO_7.out) hb); have n1_ := Aside0.mk (blk_below (g := gb32001) (o := .cells #[.int .i64 a1_0, .int .i64 a1_1] 37 (0, 0)) (BK32001.out) hb); have n2_ := Aside0.mk (below_step (by repeat (first | exact HB.out | apply below_alloc | apply pw_below_drewN | apply below_drew1 | refine below_set ?_ GE32001.out)) hb); have n3_ := Aside0.mk (hbox); have n4_ := Aside0.mk ((by rw [hg]; exact (below_size (by repeat (first | exact HB.out | apply below_alloc | apply pw_below_drewN | apply below_drew1 | refine below_set ?_ GE32001.out))) : w.heap.size ≤ gb32008)); have n5_ := Aside0.mk ((by rw [hg]; exact (below_size (by repeat (first | exact HB.out | apply below_alloc | apply pw_below_drewN | apply below_drew1 | refine below_set ?_ GE32001.out))) : w.heap.size ≤ gb32008)); have n6_ := Aside0.mk ((by rw [hg]; exact Nat.ne_of_lt (blk_lt (g := gb32001) (o := .cells #[.int .i64 a1_0, .int .i64 a1_1] 37 (0, 0)) (BK32001.out)) : gb32001 ≠ gb32008)); have n7_ := Aside0.mk ((by rw [hg]; exact Nat.ne_of_gt (blk_lt (g := gb32001) (o := .cells #[.int .i64 a1_0, .int .i64 a1_1] 37 (0, 0)) (BK32001.out)) : gb32008 ≠ gb32001)); clear HO_7; clear BK32001; clear HB; have HO_7 := n0_; have BK32001 := n1_; have HB := n2_; have BK32008 := n3_; have GW32008 := n4_; have GE32008 := n5_; have NB32001_32008 := n6_; have NB32008_32001 := n7_; clear n0_ n1_ n2_ n3_ n4_ n5_ n6_ n7_; clear hb hbox hg; have hnb38 := NB32008_32001.out; have hnc38 := NB32001_32008.out; have hcz39_0 : w37.cell? ⟨gb32008, 0, none⟩ = some (.int .i64 0) := (blk_cell BK32008.out 0).trans rfl; have hcz39_1 : w37.cell? ⟨gb32008, 1, none⟩ = some (.int .i64 0) := (blk_cell BK32008.out 1).trans rfl; have hcz39_2 : w37.cell? ⟨gb32008, 2, none⟩ = some (.bool false) := (blk_cell BK32008.out 2).trans rfl; have hfz39_0 := blk_frozen BK32008.out 0; have hfz39_1 := blk_frozen BK32008.out 1; have hfz39_2 := blk_frozen BK32008.out 2) | (go_at_call 57; (with_reducible refine (iso_images.calls ((rd_T32 l0 x37_2).f0) ((rd_T32 l0 x37_2).f1) false t32009 t32010 _ A17.out).mono ?_); rintro e w40 ⟨rfl, hb⟩; have n0_ := Aside0.mk (Kd.R_below (by exact (Kd.R_mono (Kd.R_far (p := ⟨gb32008, 2, none⟩) (Kd.R_far (p := ⟨gb32008, 1, none⟩) (Kd.R_far (p := ⟨gb32008, 0, none⟩) (Kd.R_types HO_7.out BK32008.out (by decide)) (fun _ hk => hk.2) (.int .i64 ((rd_T32 l0 x37_2).f0))) (fun _ hk => hk.2) (.int .i64 ((rd_T32 l0 x37_2).f1))) (fun _ hk => hk.2) (.bool false)) (fun _ h_ => h_.1))) hb); have n1_ := Aside0.mk (blk_below (g := gb32001) (o := .cells #[.int .i64 a1_0, .int .i64 a1_1] 37 (0, 0)) (by refine blk_far ?_ NB32001_32008.out _; refine blk_far ?_ NB32001_32008.out _; refine blk_far ?_ NB32001_32008.out _; exact BK32001.out) hb); have n2_ := Aside0.mk (blk_below (g := gb32008) (o := .cells #[.int .i64 ((rd_T32 l0 x37_2).f0), .int .i64 ((rd_T32 l0 x37_2).f1), .bool false] 32 (0, 0)) (by refine blk_put (cs := #[.int .i64 ((rd_T32 l0 x37_2).f0), .int .i64 ((rd_T32 l0 x37_2).f1), .bool false]) ?_ 2 _ rfl; refine blk_put (cs := #[.int .i64 ((rd_T32 l0 x37_2).f0), .int .i64 0, .bool false]) ?_ 1 _ rfl; refine blk_put (cs := #[.int .i64 0, .int .i64 0, .bool false]) ?_ 0 _ rfl; exact BK32008.out) hb); have n3_ := Aside0.mk (below_step (by repeat (first | exact HB.out | apply below_alloc | apply pw_below_drewN | apply below_drew1 | refine below_set ?_ GE32001.out | refine below_set ?_ GE32008.out)) hb); clear HO_7; clear BK32001; clear BK32008; clear HB; have HO_7 := n0_; have BK32001 := n1_; have BK32008 := n2_; have HB := n3_; clear n0_ n1_ n2_ n3_; (try clear hb); (try clear hb2); (try clear hk); (try clear hi)) | ((with_reducible refine gate_dst (N := 11) rfl ?_); refine box_event ?hg (N := 11) ?hd (cs := #[.int .i64 0, .int .i64 0]) (t := 37) ?hr ?_; (case hd => rfl); (case hg => rfl); (case hr => first | (go_simp; done) | (go_simp; rfl)); intro gb32011 hg w41 hbox hb; have n0_ := Aside0.mk (Kd.R_below (Kd.R_elderB (HO_7.out) gb32011 (Nat.le_of_eq hg.symm)) hb); have n1_ := Aside0.mk (blk_below (g := gb32001) (o := .cells #[.int .i64 a1_0, .int .i64 a1_1] 37 (0, 0)) (BK32001.out) hb); have n2_ := Aside0.mk (blk_below (g := gb32008) (o := .cells #[.int .i64 ((rd_T32 l0 x37_2).f0), .int .i64 ((rd_T32 l0 x37_2).f1), .bool false] 32 (0, 0)) (BK32008.out) hb); have n3_ := Aside0.mk (below_step (by repeat (first | exact HB.out | apply below_alloc | apply pw_below_drewN | apply below_drew1 | refine below_set ?_ GE32001.out | refine below_set ?_ GE32008.out)) hb); have n4_ := Aside0.mk (hbox); have n5_ := Aside0.mk ((by rw [hg]; exact (below_size (by repeat (first | exact HB.out | apply below_alloc | apply pw_below_drewN | apply below_drew1 | refine below_set ?_ GE32001.out | refine below_set ?_ GE32008.out))) : w.heap.size ≤ gb32011)); have n6_ := Aside0.mk ((by rw [hg]; exact (below_size (by repeat (first | exact HB.out | apply below_alloc | apply pw_below_drewN | apply below_drew1 | refine below_set ?_ GE32001.out | refine below_set ?_ GE32008.out))) : w.heap.size ≤ gb32011)); have n7_ := Aside0.mk ((by rw [hg]; exact Nat.ne_of_lt (blk_lt (g := gb32001) (o := .cells #[.int .i64 a1_0, .int .i64 a1_1] 37 (0, 0)) (BK32001.out)) : gb32001 ≠ gb32011)); have n8_ := Aside0.mk ((by rw [hg]; exact Nat.ne_of_gt (blk_lt (g := gb32001) (o := .cells #[.int .i64 a1_0, .int .i64 a1_1] 37 (0, 0)) (BK32001.out)) : gb32011 ≠ gb32001)); have n9_ := Aside0.mk ((by rw [hg]; exact Nat.ne_of_lt (blk_lt (g := gb32008) (o := .cells #[.int .i64 ((rd_T32 l0 x37_2).f0), .int .i64 ((rd_T32 l0 x37_2).f1), .bool false] 32 (0, 0)) (BK32008.out)) : gb32008 ≠ gb32011)); have n10_ := Aside0.mk ((by rw [hg]; exact Nat.ne_of_gt (blk_lt (g := gb32008) (o := .cells #[.int .i64 ((rd_T32 l0 x37_2).f0), .int .i64 ((rd_T32 l0 x37_2).f1), .bool false] 32 (0, 0)) (BK32008.out)) : gb32011 ≠ gb32008)); clear HO_7; clear BK32001; clear BK32008; clear HB; have HO_7 := n0_; have BK32001 := n1_; have BK32008 := n2_; have HB := n3_; have BK32011 := n4_; have GW32011 := n5_; have GE32011 := n6_; have NB32001_32011 := n7_; have NB32011_32001 := n8_; have NB32008_32011 := n9_; have NB32011_32008 := n10_; clear n0_ n1_ n2_ n3_ n4_ n5_ n6_ n7_ n8_ n9_ n10_; clear hb hbox hg; have hnb42 := NB32011_32001.out; have hnc42 := NB32001_32011.out; have hnb43 := NB32011_32008.out; have hnc43 := NB32008_32011.out; have hcz44_0 : w41.cell? ⟨gb32011, 0, none⟩ = some (.int .i64 0) := (blk_cell BK32011.out 0).trans rfl; have hcz44_1 : w41.cell? ⟨gb32011, 1, none⟩ = some (.int .i64 0) := (blk_cell BK32011.out 1).trans rfl; have hfz44_0 := blk_frozen BK32011.out 0; have hfz44_1 := blk_frozen BK32011.out 1; have hcz45_0 : w41.cell? ⟨gb32001, 0, none⟩ = some (.int .i64 a1_0) := (blk_cell BK32001.out 0).trans rfl; have hcz45_1 : w41.cell? ⟨gb32001, 1, none⟩ = some (.int .i64 a1_1) := (blk_cell BK32001.out 1).trans rfl; have hfz45_0 := blk_frozen BK32001.out 0; have hfz45_1 := blk_frozen BK32001.out 1; have hcz46_0 : w41.cell? ⟨gb32008, 0, none⟩ = some (.int .i64 ((rd_T32 l0 x37_2).f0)) := (blk_cell BK32008.out 0).trans rfl; have hcz46_1 : w41.cell? ⟨gb32008, 1, none⟩ = some (.int .i64 ((rd_T32 l0 x37_2).f1)) := (blk_cell BK32008.out 1).trans rfl; have hcz46_2 : w41.cell? ⟨gb32008, 2, none⟩ = some (.bool false) := (blk_cell BK32008.out 2).trans rfl; have hfz46_0 := blk_frozen BK32008.out 0; have hfz46_1 := blk_frozen BK32008.out 1; have hfz46_2 := blk_frozen BK32008.out 2) | ((with_reducible refine gate_builtin (b := .append) (xs := #[.tmp 66, .tmp 78]) rfl ?_); at_builtin; refine Kd.R_append k37 (w0 := w) w.heap.size rfl (.tmp 66) (.tmp 78) 41 37 (.agg #[(.int .i64 0), (.int .i64 0)]) 16 rfl Try.underlying41 info37 rfl (by decide) (by omega) u7 x7_2 (⟨wrap64 (x8_2 + (wrap64 ((ji18) - t32009))), wrap64 ((wrap64 ((wrap64 (x8_2 + (wrap64 ((ji18) - t32009)))) + (ji19))) - (ji18))⟩ : S37) [.int .i64 (wrap64 (x8_2 + (wrap64 ((ji18) - t32009)))), .int .i64 (wrap64 ((wrap64 ((wrap64 (x8_2 + (wrap64 ((ji18) - t32009)))) + (ji19))) - (ji18)))] (fun k_ => k_ ≠ gb32001 ∧ k_ ≠ gb32011) (fun _ => False) rfl (by first | (go_simp; done) | (go_simp; rfl)) ?aP (fun _ hk => hk.elim) ?aF ?aO ?aB ?aS ?aL ?_; (case aP => exact k37_mkM _ _ _ (⟨wrap64 (x8_2 + (wrap64 ((ji18) - t32009))), wrap64 ((wrap64 ((wrap64 (x8_2 + (wrap64 ((ji18) - t32009)))) + (ji19))) - (ji18))⟩ : S37)); (case aB => exact (by repeat (first | exact HB.out | apply below_alloc | apply pw_below_drewN | apply below_drew1 | refine below_set ?_ GE32001.out | refine below_set ?_ GE32008.out | refine below_set ?_ GE32011.out))); (case aF => exact (fun k_ hk => ⟨Kd.freshB (g := gb32001) (o := .cells #[.int .i64 a1_0, .int .i64 a1_1] 37 (0, 0)) (by refine blk_far ?_ NB32001_32011.out _; refine blk_far ?_ NB32001_32011.out _; exact BK32001.out) k_ hk, Kd.freshB (g := gb32011) (o := .cells #[.int .i64 t32009, .int .i64 t32010] 37 (0, 0)) (by refine blk_put (cs := #[.int .i64 t32009, .int .i64 0]) ?_ 1 _ rfl; refine blk_put (cs := #[.int .i64 0, .int .i64 0]) ?_ 0 _ rfl; exact BK32011.out) k_ hk⟩)); (case aO => exact (by exact Kd.R_mono (Kd.R_far (p := ⟨gb32011, 1, none⟩) (Kd.R_far (p := ⟨gb32011, 0, none⟩) (Kd.R_mono HO_7.out (fun k_ hk => (⟨hk, hk.2⟩ : _ ∧ k_ ≠ gb32011))) (fun _ hk => hk.2) (.int .i64 t32009)) (fun _ hk => hk.2) (.int .i64 t32010)) (fun _ hk => ⟨hk.1.1, hk.1.2⟩))); (case aS => exact (below_size (by repeat (first | exact HB.out | apply below_alloc | apply pw_below_drewN | apply below_drew1 | refine below_set ?_ GE32001.out | refine below_set ?_ GE32008.out | refine below_set ?_ GE32011.out)))); (case aL => have := LMc36.out; omega); intro v32016 w47 ho hb hg hat; rw [← Ny32015.out] at ho; have n0_ := Aside0.mk (blk_grown (g := gb32001) (o := .cells #[.int .i64 a1_0, .int .i64 a1_1] 37 (0, 0)) (by refine blk_far ?_ NB32001_32011.out _; refine blk_far ?_ NB32001_32011.out _; exact BK32001.out) hg (Kd.R_away HO_7.out (fun _ hk => hk.1))); have n1_ := Aside0.mk (blk_grown (g := gb32008) (o := .cells #[.int .i64 ((rd_T32 l0 x37_2).f0), .int .i64 ((rd_T32 l0 x37_2).f1), .bool false] 32 (0, 0)) (by refine blk_far ?_ NB32008_32011.out _; refine blk_far ?_ NB32008_32011.out _; exact BK32008.out) hg (Kd.R_ne HO_7.out BK32008.out (by decide))); have n2_ := Aside0.mk (blk_grown (g := gb32011) (o := .cells #[.int .i64 t32009, .int .i64 t32010] 37 (0, 0)) (by refine blk_put (cs := #[.int .i64 t32009, .int .i64 0]) ?_ 1 _ rfl; refine blk_put (cs := #[.int .i64 0, .int .i64 0]) ?_ 0 _ rfl; exact BK32011.out) hg (Kd.R_away HO_7.out (fun _ hk => hk.2))); have n3_ := Aside0.mk (hb); have n4_ := Aside0.mk (ho); clear BK32001; clear BK32008; clear BK32011; clear HB; clear HO_7; have BK32001 := n0_; have BK32008 := n1_; have BK32011 := n2_; have HB := n3_; have HO32017 := n4_; clear n0_ n1_ n2_ n3_ n4_; clear ho hb hg hat; have hcz48_0 : w47.cell? ⟨gb32008, 0, none⟩ = some (.int .i64 ((rd_T32 l0 x37_2).f0)) := (blk_cell BK32008.out 0).trans rfl; have hcz48_1 : w47.cell? ⟨gb32008, 1, none⟩ = some (.int .i64 ((rd_T32 l0 x37_2).f1)) := (blk_cell BK32008.out 1).trans rfl; have hcz48_2 : w47.cell? ⟨gb32008, 2, none⟩ = some (.bool false) := (blk_cell BK32008.out 2).trans rfl; have hfz48_0 := blk_frozen BK32008.out 0; have hfz48_1 := blk_frozen BK32008.out 1; have hfz48_2 := blk_frozen BK32008.out 2)); try go_wp2_with (first | ((with_reducible refine gate_dst (N := 10) rfl ?_); refine box_event ?hg (N := 10) ?hd (cs := #[.int .i64 0, .int .i64 0, .bool false]) (t := 32) ?hr ?_; (case hd => rfl); (case hg => rfl); (case hr => first | (go_simp; done) | (go_simp; rfl)); intro gb32008 hg w37 hbox hb; have n0_ := Aside0.mk (Kd.R_below (HO_7.out) hb); have n1_ := Aside0.mk (blk_below (g := gb32001) (o := .cells #[.int .i64 a1_0, .int .i64 a1_1] 37 (0, 0)) (BK32001.out) hb); have n2_ := Aside0.mk (below_step (by repeat (first | exact HB.out | apply below_alloc | apply pw_below_drewN | apply below_drew1 | refine below_set ?_ GE32001.out)) hb); have n3_ := Aside0.mk (hbox); have n4_ := Aside0.mk ((by rw [hg]; exact (below_size (by repeat (first | exact HB.out | apply below_alloc | apply pw_below_drewN | apply below_drew1 | refine below_set ?_ GE32001.out))) : w.heap.size ≤ gb32008)); have n5_ := Aside0.mk ((by rw [hg]; exact (below_size (by repeat (first | exact HB.out | apply below_alloc | apply pw_below_drewN | apply below_drew1 | refine below_set ?_ GE32001.out))) : w.heap.size ≤ gb32008)); have n6_ := Aside0.mk ((by rw [hg]; exact Nat.ne_of_lt (blk_lt (g := gb32001) (o := .cells #[.int .i64 a1_0, .int .i64 a1_1] 37 (0, 0)) (BK32001.out)) : gb32001 ≠ gb32008)); have n7_ := Aside0.mk ((by rw [hg]; exact Nat.ne_of_gt (blk_lt (g := gb32001) (o := .cells #[.int .i64 a1_0, .int .i64 a1_1] 37 (0, 0)) (BK32001.out)) : gb32008 ≠ gb32001)); clear HO_7; clear BK32001; clear HB; have HO_7 := n0_; have BK32001 := n1_; have HB := n2_; have BK32008 := n3_; have GW32008 := n4_; have GE32008 := n5_; have NB32001_32008 := n6_; have NB32008_32001 := n7_; clear n0_ n1_ n2_ n3_ n4_ n5_ n6_ n7_; clear hb hbox hg; have hnb38 := NB32008_32001.out; have hnc38 := NB32001_32008.out; have hcz39_0 : w37.cell? ⟨gb32008, 0, none⟩ = some (.int .i64 0) := (blk_cell BK32008.out 0).trans rfl; have hcz39_1 : w37.cell? ⟨gb32008, 1, none⟩ = some (.int .i64 0) := (blk_cell BK32008.out 1).trans rfl; have hcz39_2 : w37.cell? ⟨gb32008, 2, none⟩ = some (.bool false) := (blk_cell BK32008.out 2).trans rfl; have hfz39_0 := blk_frozen BK32008.out 0; have hfz39_1 := blk_frozen BK32008.out 1; have hfz39_2 := blk_frozen BK32008.out 2) | (go_at_call 57; (with_reducible refine (iso_images.calls ((rd_T32 l0 x37_2).f0) ((rd_T32 l0 x37_2).f1) false t32009 t32010 _ A17.out).mono ?_); rintro e w40 ⟨rfl, hb⟩; have n0_ := Aside0.mk (Kd.R_below (by exact (Kd.R_mono (Kd.R_far (p := ⟨gb32008, 2, none⟩) (Kd.R_far (p := ⟨gb32008, 1, none⟩) (Kd.R_far (p := ⟨gb32008, 0, none⟩) (Kd.R_types HO_7.out BK32008.out (by decide)) (fun _ hk => hk.2) (.int .i64 ((rd_T32 l0 x37_2).f0))) (fun _ hk => hk.2) (.int .i64 ((rd_T32 l0 x37_2).f1))) (fun _ hk => hk.2) (.bool false)) (fun _ h_ => h_.1))) hb); have n1_ := Aside0.mk (blk_below (g := gb32001) (o := .cells #[.int .i64 a1_0, .int .i64 a1_1] 37 (0, 0)) (by refine blk_far ?_ NB32001_32008.out _; refine blk_far ?_ NB32001_32008.out _; refine blk_far ?_ NB32001_32008.out _; exact BK32001.out) hb); have n2_ := Aside0.mk (blk_below (g := gb32008) (o := .cells #[.int .i64 ((rd_T32 l0 x37_2).f0), .int .i64 ((rd_T32 l0 x37_2).f1), .bool false] 32 (0, 0)) (by refine blk_put (cs := #[.int .i64 ((rd_T32 l0 x37_2).f0), .int .i64 ((rd_T32 l0 x37_2).f1), .bool false]) ?_ 2 _ rfl; refine blk_put (cs := #[.int .i64 ((rd_T32 l0 x37_2).f0), .int .i64 0, .bool false]) ?_ 1 _ rfl; refine blk_put (cs := #[.int .i64 0, .int .i64 0, .bool false]) ?_ 0 _ rfl; exact BK32008.out) hb); have n3_ := Aside0.mk (below_step (by repeat (first | exact HB.out | apply below_alloc | apply pw_below_drewN | apply below_drew1 | refine below_set ?_ GE32001.out | refine below_set ?_ GE32008.out)) hb); clear HO_7; clear BK32001; clear BK32008; clear HB; have HO_7 := n0_; have BK32001 := n1_; have BK32008 := n2_; have HB := n3_; clear n0_ n1_ n2_ n3_; (try clear hb); (try clear hb2); (try clear hk); (try clear hi)) | ((with_reducible refine gate_dst (N := 11) rfl ?_); refine box_event ?hg (N := 11) ?hd (cs := #[.int .i64 0, .int .i64 0]) (t := 37) ?hr ?_; (case hd => rfl); (case hg => rfl); (case hr => first | (go_simp; done) | (go_simp; rfl)); intro gb32011 hg w41 hbox hb; have n0_ := Aside0.mk (Kd.R_below (Kd.R_elderB (HO_7.out) gb32011 (Nat.le_of_eq hg.symm)) hb); have n1_ := Aside0.mk (blk_below (g := gb32001) (o := .cells #[.int .i64 a1_0, .int .i64 a1_1] 37 (0, 0)) (BK32001.out) hb); have n2_ := Aside0.mk (blk_below (g := gb32008) (o := .cells #[.int .i64 ((rd_T32 l0 x37_2).f0), .int .i64 ((rd_T32 l0 x37_2).f1), .bool false] 32 (0, 0)) (BK32008.out) hb); have n3_ := Aside0.mk (below_step (by repeat (first | exact HB.out | apply below_alloc | apply pw_below_drewN | apply below_drew1 | refine below_set ?_ GE32001.out | refine below_set ?_ GE32008.out)) hb); have n4_ := Aside0.mk (hbox); have n5_ := Aside0.mk ((by rw [hg]; exact (below_size (by repeat (first | exact HB.out | apply below_alloc | apply pw_below_drewN | apply below_drew1 | refine below_set ?_ GE32001.out | refine below_set ?_ GE32008.out))) : w.heap.size ≤ gb32011)); have n6_ := Aside0.mk ((by rw [hg]; exact (below_size (by repeat (first | exact HB.out | apply below_alloc | apply pw_below_drewN | apply below_drew1 | refine below_set ?_ GE32001.out | refine below_set ?_ GE32008.out))) : w.heap.size ≤ gb32011)); have n7_ := Aside0.mk ((by rw [hg]; exact Nat.ne_of_lt (blk_lt (g := gb32001) (o := .cells #[.int .i64 a1_0, .int .i64 a1_1] 37 (0, 0)) (BK32001.out)) : gb32001 ≠ gb32011)); have n8_ := Aside0.mk ((by rw [hg]; exact Nat.ne_of_gt (blk_lt (g := gb32001) (o := .cells #[.int .i64 a1_0, .int .i64 a1_1] 37 (0, 0)) (BK32001.out)) : gb32011 ≠ gb32001)); have n9_ := Aside0.mk ((by rw [hg]; exact Nat.ne_of_lt (blk_lt (g := gb32008) (o := .cells #[.int .i64 ((rd_T32 l0 x37_2).f0), .int .i64 ((rd_T32 l0 x37_2).f1), .bool false] 32 (0, 0)) (BK32008.out)) : gb32008 ≠ gb32011)); have n10_ := Aside0.mk ((by rw [hg]; exact Nat.ne_of_gt (blk_lt (g := gb32008) (o := .cells #[.int .i64 ((rd_T32 l0 x37_2).f0), .int .i64 ((rd_T32 l0 x37_2).f1), .bool false] 32 (0, 0)) (BK32008.out)) : gb32011 ≠ gb32008)); clear HO_7; clear BK32001; clear BK32008; clear HB; have HO_7 := n0_; have BK32001 := n1_; have BK32008 := n2_; have HB := n3_; have BK32011 := n4_; have GW32011 := n5_; have GE32011 := n6_; have NB32001_32011 := n7_; have NB32011_32001 := n8_; have NB32008_32011 := n9_; have NB32011_32008 := n10_; clear n0_ n1_ n2_ n3_ n4_ n5_ n6_ n7_ n8_ n9_ n10_; clear hb hbox hg; have hnb42 := NB32011_32001.out; have hnc42 := NB32001_32011.out; have hnb43 := NB32011_32008.out; have hnc43 := NB32008_32011.out; have hcz44_0 : w41.cell? ⟨gb32011, 0, none⟩ = some (.int .i64 0) := (blk_cell BK32011.out 0).trans rfl; have hcz44_1 : w41.cell? ⟨gb32011, 1, none⟩ = some (.int .i64 0) := (blk_cell BK32011.out 1).trans rfl; have hfz44_0 := blk_frozen BK32011.out 0; have hfz44_1 := blk_frozen BK32011.out 1; have hcz45_0 : w41.cell? ⟨gb32001, 0, none⟩ = some (.int .i64 a1_0) := (blk_cell BK32001.out 0).trans rfl; have hcz45_1 : w41.cell? ⟨gb32001, 1, none⟩ = some (.int .i64 a1_1) := (blk_cell BK32001.out 1).trans rfl; have hfz45_0 := blk_frozen BK32001.out 0; have hfz45_1 := blk_frozen BK32001.out 1; have hcz46_0 : w41.cell? ⟨gb32008, 0, none⟩ = some (.int .i64 ((rd_T32 l0 x37_2).f0)) := (blk_cell BK32008.out 0).trans rfl; have hcz46_1 : w41.cell? ⟨gb32008, 1, none⟩ = some (.int .i64 ((rd_T32 l0 x37_2).f1)) := (blk_cell BK32008.out 1).trans rfl; have hcz46_2 : w41.cell? ⟨gb32008, 2, none⟩ = some (.bool false) := (blk_cell BK32008.out 2).trans rfl; have hfz46_0 := blk_frozen BK32008.out 0; have hfz46_1 := blk_frozen BK32008.out 1; have hfz46_2 := blk_frozen BK32008.out 2) | ((with_reducible refine gate_builtin (b := .append) (xs := #[.tmp 66, .tmp 78]) rfl ?_); at_builtin; refine Kd.R_append k37 (w0 := w) w.heap.size rfl (.tmp 66) (.tmp 78) 41 37 (.agg #[(.int .i64 0), (.int .i64 0)]) 16 rfl Try.underlying41 info37 rfl (by decide) (by omega) u7 x7_2 (⟨wrap64 (x8_2 + (wrap64 ((ji18) - t32009))), wrap64 ((wrap64 ((wrap64 (x8_2 + (wrap64 ((ji18) - t32009)))) + (ji19))) - (ji18))⟩ : S37) [.int .i64 (wrap64 (x8_2 + (wrap64 ((ji18) - t32009)))), .int .i64 (wrap64 ((wrap64 ((wrap64 (x8_2 + (wrap64 ((ji18) - t32009)))) + (ji19))) - (ji18)))] (fun k_ => k_ ≠ gb32001 ∧ k_ ≠ gb32011) (fun _ => False) rfl (by first | (go_simp; done) | (go_simp; rfl)) ?aP (fun _ hk => hk.elim) ?aF ?aO ?aB ?aS ?aL ?_; (case aP => exact k37_mkM _ _ _ (⟨wrap64 (x8_2 + (wrap64 ((ji18) - t32009))), wrap64 ((wrap64 ((wrap64 (x8_2 + (wrap64 ((ji18) - t32009)))) + (ji19))) - (ji18))⟩ : S37)); (case aB => exact (by repeat (first | exact HB.out | apply below_alloc | apply pw_below_drewN | apply below_drew1 | refine below_set ?_ GE32001.out | refine below_set ?_ GE32008.out | refine below_set ?_ GE32011.out))); (case aF => exact (fun k_ hk => ⟨Kd.freshB (g := gb32001) (o := .cells #[.int .i64 a1_0, .int .i64 a1_1] 37 (0, 0)) (by refine blk_far ?_ NB32001_32011.out _; refine blk_far ?_ NB32001_32011.out _; exact BK32001.out) k_ hk, Kd.freshB (g := gb32011) (o := .cells #[.int .i64 t32009, .int .i64 t32010] 37 (0, 0)) (by refine blk_put (cs := #[.int .i64 t32009, .int .i64 0]) ?_ 1 _ rfl; refine blk_put (cs := #[.int .i64 0, .int .i64 0]) ?_ 0 _ rfl; exact BK32011.out) k_ hk⟩)); (case aO => exact (by exact Kd.R_mono (Kd.R_far (p := ⟨gb32011, 1, none⟩) (Kd.R_far (p := ⟨gb32011, 0, none⟩) (Kd.R_mono HO_7.out (fun k_ hk => (⟨hk, hk.2⟩ : _ ∧ k_ ≠ gb32011))) (fun _ hk => hk.2) (.int .i64 t32009)) (fun _ hk => hk.2) (.int .i64 t32010)) (fun _ hk => ⟨hk.1.1, hk.1.2⟩))); (case aS => exact (below_size (by repeat (first | exact HB.out | apply below_alloc | apply pw_below_drewN | apply below_drew1 | refine below_set ?_ GE32001.out | refine below_set ?_ GE32008.out | refine below_set ?_ GE32011.out)))); (case aL => have := LMc36.out; omega); intro v32016 w47 ho hb hg hat; rw [← Ny32015.out] at ho; have n0_ := Aside0.mk (blk_grown (g := gb32001) (o := .cells #[.int .i64 a1_0, .int .i64 a1_1] 37 (0, 0)) (by refine blk_far ?_ NB32001_32011.out _; refine blk_far ?_ NB32001_32011.out _; exact BK32001.out) hg (Kd.R_away HO_7.out (fun _ hk => hk.1))); have n1_ := Aside0.mk (blk_grown (g := gb32008) (o := .cells #[.int .i64 ((rd_T32 l0 x37_2).f0), .int .i64 ((rd_T32 l0 x37_2).f1), .bool false] 32 (0, 0)) (by refine blk_far ?_ NB32008_32011.out _; refine blk_far ?_ NB32008_32011.out _; exact BK32008.out) hg (Kd.R_ne HO_7.out BK32008.out (by decide))); have n2_ := Aside0.mk (blk_grown (g := gb32011) (o := .cells #[.int .i64 t32009, .int .i64 t32010] 37 (0, 0)) (by refine blk_put (cs := #[.int .i64 t32009, .int .i64 0]) ?_ 1 _ rfl; refine blk_put (cs := #[.int .i64 0, .int .i64 0]) ?_ 0 _ rfl; exact BK32011.out) hg (Kd.R_away HO_7.out (fun _ hk => hk.2))); have n3_ := Aside0.mk (hb); have n4_ := Aside0.mk (ho); clear BK32001; clear BK32008; clear BK32011; clear HB; clear HO_7; have BK32001 := n0_; have BK32008 := n1_; have BK32011 := n2_; have HB := n3_; have HO32017 := n4_; clear n0_ n1_ n2_ n3_ n4_; clear ho hb hg hat; have hcz48_0 : w47.cell? ⟨gb32008, 0, none⟩ = some (.int .i64 ((rd_T32 l0 x37_2).f0)) := (blk_cell BK32008.out 0).trans rfl; have hcz48_1 : w47.cell? ⟨gb32008, 1, none⟩ = some (.int .i64 ((rd_T32 l0 x37_2).f1)) := (blk_cell BK32008.out 1).trans rfl; have hcz48_2 : w47.cell? ⟨gb32008, 2, none⟩ = some (.bool false) := (blk_cell BK32008.out 2).trans rfl; have hfz48_0 := blk_frozen BK32008.out 0; have hfz48_1 := blk_frozen BK32008.out 1; have hfz48_2 := blk_frozen BK32008.out 2)))
             go_roundg k2
             case measure => have := HJ4.out; have := HK2.out; omega
             case rel => exact ⟨(y32015), (wrap64 (x8_2 + ((rd_T32 l0 x37_2).f1))), (wrap64 (x37_2 + 1)), (by first | rfl | (simp; done) | (simp [*]; done)), (by first | rfl | (simp; done) | (simp [*]; done)), H', ⟨by have := HJ4.out; have := HK2.out; omega⟩, ⟨by exact Kd.R_mono HO32017.out (fun _ hk => hk.1)⟩, ⟨BK32001.out⟩, ⟨by repeat (first | exact HB.out | apply below_alloc | apply pw_below_drewN | apply below_drew1 | refine below_set ?_ GE32001.out | refine below_set ?_ GE32008.out | refine below_set ?_ GE32011.out)⟩⟩
            ·rw [if_neg c36] at H
             exact absurd H (by simp)
          ·rw [if_neg c20] at H
           have c20b0 : decide ((ji18) < (ji19)) = false := decide_eq_false c20
           clear c20
           have H' := Aside0.mk H
           clear H
           have p32007 : 0 ≤ (x37_2 : Int) := of_decide_eq_true (by assumption)
           have q32007 : x37_2 < (l0.length : Int) := of_decide_eq_true (by assumption)
           obtain ⟨ad32007, e32007, hx32007_0, hx32007_1, hx32007_2⟩ := at_T32 HR0.out x37_2 p32007 q32007
           cases e32007
           replace hx32007_0 := (HB.out.cell (World.block_lt_of_cell? w _ hx32007_0)).trans hx32007_0
           replace hx32007_1 := (HB.out.cell (World.block_lt_of_cell? w _ hx32007_1)).trans hx32007_1
           replace hx32007_2 := (HB.out.cell (World.block_lt_of_cell? w _ hx32007_2)).trans hx32007_2
           replace p32007 := eq_true p32007
           replace q32007 := eq_true q32007
           go_wp2_with (first | ((with_reducible refine gate_dst (N := 10) rfl ?_); refine box_event ?hg (N := 10) ?hd (cs := #[.int .i64 0, .int .i64 0, .bool false]) (t := 32) ?hr ?_; (case hd => rfl); (case hg => rfl); (case hr => first | (go_simp; done) | (go_simp; rfl)); intro gb32008 hg w49 hbox hb; have n0_ := Aside0.mk (Kd.R_below (HO_7.out) hb); have n1_ := Aside0.mk (blk_below (g := gb32001) (o := .cells #[.int .i64 a1_0, .int .i64 a1_1] 37 (0, 0)) (BK32001.out) hb); have n2_ := Aside0.mk (below_step (by repeat (first | exact HB.out | apply below_alloc | apply pw_below_drewN | apply below_drew1 | refine below_set ?_ GE32001.out)) hb); have n3_ := Aside0.mk (hbox); have n4_ := Aside0.mk ((by rw [hg]; exact (below_size (by repeat (first | exact HB.out | apply below_alloc | apply pw_below_drewN | apply below_drew1 | refine below_set ?_ GE32001.out))) : w.heap.size ≤ gb32008)); have n5_ := Aside0.mk ((by rw [hg]; exact (below_size (by repeat (first | exact HB.out | apply below_alloc | apply pw_below_drewN | apply below_drew1 | refine below_set ?_ GE32001.out))) : w.heap.size ≤ gb32008)); have n6_ := Aside0.mk ((by rw [hg]; exact Nat.ne_of_lt (blk_lt (g := gb32001) (o := .cells #[.int .i64 a1_0, .int .i64 a1_1] 37 (0, 0)) (BK32001.out)) : gb32001 ≠ gb32008)); have n7_ := Aside0.mk ((by rw [hg]; exact Nat.ne_of_gt (blk_lt (g := gb32001) (o := .cells #[.int .i64 a1_0, .int .i64 a1_1] 37 (0, 0)) (BK32001.out)) : gb32008 ≠ gb32001)); clear HO_7; clear BK32001; clear HB; have HO_7 := n0_; have BK32001 := n1_; have HB := n2_; have BK32008 := n3_; have GW32008 := n4_; have GE32008 := n5_; have NB32001_32008 := n6_; have NB32008_32001 := n7_; clear n0_ n1_ n2_ n3_ n4_ n5_ n6_ n7_; clear hb hbox hg; have hnb50 := NB32008_32001.out; have hnc50 := NB32001_32008.out; have hcz51_0 : w49.cell? ⟨gb32008, 0, none⟩ = some (.int .i64 0) := (blk_cell BK32008.out 0).trans rfl; have hcz51_1 : w49.cell? ⟨gb32008, 1, none⟩ = some (.int .i64 0) := (blk_cell BK32008.out 1).trans rfl; have hcz51_2 : w49.cell? ⟨gb32008, 2, none⟩ = some (.bool false) := (blk_cell BK32008.out 2).trans rfl; have hfz51_0 := blk_frozen BK32008.out 0; have hfz51_1 := blk_frozen BK32008.out 1; have hfz51_2 := blk_frozen BK32008.out 2) | (go_at_call 57; (with_reducible refine (iso_images.calls ((rd_T32 l0 x37_2).f0) ((rd_T32 l0 x37_2).f1) ((rd_T32 l0 x37_2).f2) t32009 t32010 _ A17.out).mono ?_); rintro e w52 ⟨rfl, hb⟩; have n0_ := Aside0.mk (Kd.R_below (by exact (Kd.R_mono (Kd.R_far (p := ⟨gb32008, 2, none⟩) (Kd.R_far (p := ⟨gb32008, 1, none⟩) (Kd.R_far (p := ⟨gb32008, 0, none⟩) (Kd.R_types HO_7.out BK32008.out (by decide)) (fun _ hk => hk.2) (.int .i64 ((rd_T32 l0 x37_2).f0))) (fun _ hk => hk.2) (.int .i64 ((rd_T32 l0 x37_2).f1))) (fun _ hk => hk.2) (.bool ((rd_T32 l0 x37_2).f2))) (fun _ h_ => h_.1))) hb); have n1_ := Aside0.mk (blk_below (g := gb32001) (o := .cells #[.int .i64 a1_0, .int .i64 a1_1] 37 (0, 0)) (by refine blk_far ?_ NB32001_32008.out _; refine blk_far ?_ NB32001_32008.out _; refine blk_far ?_ NB32001_32008.out _; exact BK32001.out) hb); have n2_ := Aside0.mk (blk_below (g := gb32008) (o := .cells #[.int .i64 ((rd_T32 l0 x37_2).f0), .int .i64 ((rd_T32 l0 x37_2).f1), .bool ((rd_T32 l0 x37_2).f2)] 32 (0, 0)) (by refine blk_put (cs := #[.int .i64 ((rd_T32 l0 x37_2).f0), .int .i64 ((rd_T32 l0 x37_2).f1), .bool false]) ?_ 2 _ rfl; refine blk_put (cs := #[.int .i64 ((rd_T32 l0 x37_2).f0), .int .i64 0, .bool false]) ?_ 1 _ rfl; refine blk_put (cs := #[.int .i64 0, .int .i64 0, .bool false]) ?_ 0 _ rfl; exact BK32008.out) hb); have n3_ := Aside0.mk (below_step (by repeat (first | exact HB.out | apply below_alloc | apply pw_below_drewN | apply below_drew1 | refine below_set ?_ GE32001.out | refine below_set ?_ GE32008.out)) hb); clear HO_7; clear BK32001; clear BK32008; clear HB; have HO_7 := n0_; have BK32001 := n1_; have BK32008 := n2_; have HB := n3_; clear n0_ n1_ n2_ n3_; (try clear hb); (try clear hb2); (try clear hk); (try clear hi)) | ((with_reducible refine gate_dst (N := 11) rfl ?_); refine box_event ?hg (N := 11) ?hd (cs := #[.int .i64 0, .int .i64 0]) (t := 37) ?hr ?_; (case hd => rfl); (case hg => rfl); (case hr => first | (go_simp; done) | (go_simp; rfl)); intro gb32011 hg w53 hbox hb; have n0_ := Aside0.mk (Kd.R_below (Kd.R_elderB (HO_7.out) gb32011 (Nat.le_of_eq hg.symm)) hb); have n1_ := Aside0.mk (blk_below (g := gb32001) (o := .cells #[.int .i64 a1_0, .int .i64 a1_1] 37 (0, 0)) (BK32001.out) hb); have n2_ := Aside0.mk (blk_below (g := gb32008) (o := .cells #[.int .i64 ((rd_T32 l0 x37_2).f0), .int .i64 ((rd_T32 l0 x37_2).f1), .bool ((rd_T32 l0 x37_2).f2)] 32 (0, 0)) (BK32008.out) hb); have n3_ := Aside0.mk (below_step (by repeat (first | exact HB.out | apply below_alloc | apply pw_below_drewN | apply below_drew1 | refine below_set ?_ GE32001.out | refine below_set ?_ GE32008.out)) hb); have n4_ := Aside0.mk (hbox); have n5_ := Aside0.mk ((by rw [hg]; exact (below_size (by repeat (first | exact HB.out | apply below_alloc | apply pw_below_drewN | apply below_drew1 | refine below_set ?_ GE32001.out | refine below_set ?_ GE32008.out))) : w.heap.size ≤ gb32011)); have n6_ := Aside0.mk ((by rw [hg]; exact (below_size (by repeat (first | exact HB.out | apply below_alloc | apply pw_below_drewN | apply below_drew1 | refine below_set ?_ GE32001.out | refine below_set ?_ GE32008.out))) : w.heap.size ≤ gb32011)); have n7_ := Aside0.mk ((by rw [hg]; exact Nat.ne_of_lt (blk_lt (g := gb32001) (o := .cells #[.int .i64 a1_0, .int .i64 a1_1] 37 (0, 0)) (BK32001.out)) : gb32001 ≠ gb32011)); have n8_ := Aside0.mk ((by rw [hg]; exact Nat.ne_of_gt (blk_lt (g := gb32001) (o := .cells #[.int .i64 a1_0, .int .i64 a1_1] 37 (0, 0)) (BK32001.out)) : gb32011 ≠ gb32001)); have n9_ := Aside0.mk ((by rw [hg]; exact Nat.ne_of_lt (blk_lt (g := gb32008) (o := .cells #[.int .i64 ((rd_T32 l0 x37_2).f0), .int .i64 ((rd_T32 l0 x37_2).f1), .bool ((rd_T32 l0 x37_2).f2)] 32 (0, 0)) (BK32008.out)) : gb32008 ≠ gb32011)); have n10_ := Aside0.mk ((by rw [hg]; exact Nat.ne_of_gt (blk_lt (g := gb32008) (o := .cells #[.int .i64 ((rd_T32 l0 x37_2).f0), .int .i64 ((rd_T32 l0 x37_2).f1), .bool ((rd_T32 l0 x37_2).f2)] 32 (0, 0)) (BK32008.out)) : gb32011 ≠ gb32008)); clear HO_7; clear BK32001; clear BK32008; clear HB; have HO_7 := n0_; have BK32001 := n1_; have BK32008 := n2_; have HB := n3_; have BK32011 := n4_; have GW32011 := n5_; have GE32011 := n6_; have NB32001_32011 := n7_; have NB32011_32001 := n8_; have NB32008_32011 := n9_; have NB32011_32008 := n10_; clear n0_ n1_ n2_ n3_ n4_ n5_ n6_ n7_ n8_ n9_ n10_; clear hb hbox hg; have hnb54 := NB32011_32001.out; have hnc54 := NB32001_32011.out; have hnb55 := NB32011_32008.out; have hnc55 := NB32008_32011.out; have hcz56_0 : w53.cell? ⟨gb32011, 0, none⟩ = some (.int .i64 0) := (blk_cell BK32011.out 0).trans rfl; have hcz56_1 : w53.cell? ⟨gb32011, 1, none⟩ = some (.int .i64 0) := (blk_cell BK32011.out 1).trans rfl; have hfz56_0 := blk_frozen BK32011.out 0; have hfz56_1 := blk_frozen BK32011.out 1; have hcz57_0 : w53.cell? ⟨gb32001, 0, none⟩ = some (.int .i64 a1_0) := (blk_cell BK32001.out 0).trans rfl; have hcz57_1 : w53.cell? ⟨gb32001, 1, none⟩ = some (.int .i64 a1_1) := (blk_cell BK32001.out 1).trans rfl; have hfz57_0 := blk_frozen BK32001.out 0; have hfz57_1 := blk_frozen BK32001.out 1; have hcz58_0 : w53.cell? ⟨gb32008, 0, none⟩ = some (.int .i64 ((rd_T32 l0 x37_2).f0)) := (blk_cell BK32008.out 0).trans rfl; have hcz58_1 : w53.cell? ⟨gb32008, 1, none⟩ = some (.int .i64 ((rd_T32 l0 x37_2).f1)) := (blk_cell BK32008.out 1).trans rfl; have hcz58_2 : w53.cell? ⟨gb32008, 2, none⟩ = some (.bool ((rd_T32 l0 x37_2).f2)) := (blk_cell BK32008.out 2).trans rfl; have hfz58_0 := blk_frozen BK32008.out 0; have hfz58_1 := blk_frozen BK32008.out 1; have hfz58_2 := blk_frozen BK32008.out 2))
           repeat (go_quiet (first | ((with_reducible refine gate_dst (N := 10) rfl ?_); refine box_event ?hg (N := 10) ?hd (cs := #[.int .i64 0, .int .i64 0, .bool false]) (t := 32) ?hr ?_; (case hd => rfl); (case hg => rfl); (case hr => first | (go_simp; done) | (go_simp; rfl)); intro gb32008 hg w49 hbox hb; have n0_ := Aside0.mk (Kd.R_below (HO_7.out) hb); have n1_ := Aside0.mk (blk_below (g := gb32001) (o := .cells #[.int .i64 a1_0, .int .i64 a1_1] 37 (0, 0)) (BK32001.out) hb); have n2_ := Aside0.mk (below_step (by repeat (first | exact HB.out | apply below_alloc | apply pw_below_drewN | apply below_drew1 | refine below_set ?_ GE32001.out)) hb); have n3_ := Aside0.mk (hbox); have n4_ := Aside0.mk ((by rw [hg]; exact (below_size (by repeat (first | exact HB.out | apply below_alloc | apply pw_below_drewN | apply below_drew1 | refine below_set ?_ GE32001.out))) : w.heap.size ≤ gb32008)); have n5_ := Aside0.mk ((by rw [hg]; exact (below_size (by repeat (first | exact HB.out | apply below_alloc | apply pw_below_drewN | apply below_drew1 | refine below_set ?_ GE32001.out))) : w.heap.size ≤ gb32008)); have n6_ := Aside0.mk ((by rw [hg]; exact Nat.ne_of_lt (blk_lt (g := gb32001) (o := .cells #[.int .i64 a1_0, .int .i64 a1_1] 37 (0, 0)) (BK32001.out)) : gb32001 ≠ gb32008)); have n7_ := Aside0.mk ((by rw [hg]; exact Nat.ne_of_gt (blk_lt (g := gb32001) (o := .cells #[.int .i64 a1_0, .int .i64 a1_1] 37 (0, 0)) (BK32001.out)) : gb32008 ≠ gb32001)); clear HO_7; clear BK32001; clear HB; have HO_7 := n0_; have BK32001 := n1_; have HB := n2_; have BK32008 := n3_; have GW32008 := n4_; have GE32008 := n5_; have NB32001_32008 := n6_; have NB32008_32001 := n7_; clear n0_ n1_ n2_ n3_ n4_ n5_ n6_ n7_; clear hb hbox hg; have hnb50 := NB32008_32001.out; have hnc50 := NB32001_32008.out; have hcz51_0 : w49.cell? ⟨gb32008, 0, none⟩ = some (.int .i64 0) := (blk_cell BK32008.out 0).trans rfl; have hcz51_1 : w49.cell? ⟨gb32008, 1, none⟩ = some (.int .i64 0) := (blk_cell BK32008.out 1).trans rfl; have hcz51_2 : w49.cell? ⟨gb32008, 2, none⟩ = some (.bool false) := (blk_cell BK32008.out 2).trans rfl; have hfz51_0 := blk_frozen BK32008.out 0; have hfz51_1 := blk_frozen BK32008.out 1; have hfz51_2 := blk_frozen BK32008.out 2) | (go_at_call 57; (with_reducible refine (iso_images.calls ((rd_T32 l0 x37_2).f0) ((rd_T32 l0 x37_2).f1) ((rd_T32 l0 x37_2).f2) t32009 t32010 _ A17.out).mono ?_); rintro e w52 ⟨rfl, hb⟩; have n0_ := Aside0.mk (Kd.R_below (by exact (Kd.R_mono (Kd.R_far (p := ⟨gb32008, 2, none⟩) (Kd.R_far (p := ⟨gb32008, 1, none⟩) (Kd.R_far (p := ⟨gb32008, 0, none⟩) (Kd.R_types HO_7.out BK32008.out (by decide)) (fun _ hk => hk.2) (.int .i64 ((rd_T32 l0 x37_2).f0))) (fun _ hk => hk.2) (.int .i64 ((rd_T32 l0 x37_2).f1))) (fun _ hk => hk.2) (.bool ((rd_T32 l0 x37_2).f2))) (fun _ h_ => h_.1))) hb); have n1_ := Aside0.mk (blk_below (g := gb32001) (o := .cells #[.int .i64 a1_0, .int .i64 a1_1] 37 (0, 0)) (by refine blk_far ?_ NB32001_32008.out _; refine blk_far ?_ NB32001_32008.out _; refine blk_far ?_ NB32001_32008.out _; exact BK32001.out) hb); have n2_ := Aside0.mk (blk_below (g := gb32008) (o := .cells #[.int .i64 ((rd_T32 l0 x37_2).f0), .int .i64 ((rd_T32 l0 x37_2).f1), .bool ((rd_T32 l0 x37_2).f2)] 32 (0, 0)) (by refine blk_put (cs := #[.int .i64 ((rd_T32 l0 x37_2).f0), .int .i64 ((rd_T32 l0 x37_2).f1), .bool false]) ?_ 2 _ rfl; refine blk_put (cs := #[.int .i64 ((rd_T32 l0 x37_2).f0), .int .i64 0, .bool false]) ?_ 1 _ rfl; refine blk_put (cs := #[.int .i64 0, .int .i64 0, .bool false]) ?_ 0 _ rfl; exact BK32008.out) hb); have n3_ := Aside0.mk (below_step (by repeat (first | exact HB.out | apply below_alloc | apply pw_below_drewN | apply below_drew1 | refine below_set ?_ GE32001.out | refine below_set ?_ GE32008.out)) hb); clear HO_7; clear BK32001; clear BK32008; clear HB; have HO_7 := n0_; have BK32001 := n1_; have BK32008 := n2_; have HB := n3_; clear n0_ n1_ n2_ n3_; (try clear hb); (try clear hb2); (try clear hk); (try clear hi)) | ((with_reducible refine gate_dst (N := 11) rfl ?_); refine box_event ?hg (N := 11) ?hd (cs := #[.int .i64 0, .int .i64 0]) (t := 37) ?hr ?_; (case hd => rfl); (case hg => rfl); (case hr => first | (go_simp; done) | (go_simp; rfl)); intro gb32011 hg w53 hbox hb; have n0_ := Aside0.mk (Kd.R_below (Kd.R_elderB (HO_7.out) gb32011 (Nat.le_of_eq hg.symm)) hb); have n1_ := Aside0.mk (blk_below (g := gb32001) (o := .cells #[.int .i64 a1_0, .int .i64 a1_1] 37 (0, 0)) (BK32001.out) hb); have n2_ := Aside0.mk (blk_below (g := gb32008) (o := .cells #[.int .i64 ((rd_T32 l0 x37_2).f0), .int .i64 ((rd_T32 l0 x37_2).f1), .bool ((rd_T32 l0 x37_2).f2)] 32 (0, 0)) (BK32008.out) hb); have n3_ := Aside0.mk (below_step (by repeat (first | exact HB.out | apply below_alloc | apply pw_below_drewN | apply below_drew1 | refine below_set ?_ GE32001.out | refine below_set ?_ GE32008.out)) hb); have n4_ := Aside0.mk (hbox); have n5_ := Aside0.mk ((by rw [hg]; exact (below_size (by repeat (first | exact HB.out | apply below_alloc | apply pw_below_drewN | apply below_drew1 | refine below_set ?_ GE32001.out | refine below_set ?_ GE32008.out))) : w.heap.size ≤ gb32011)); have n6_ := Aside0.mk ((by rw [hg]; exact (below_size (by repeat (first | exact HB.out | apply below_alloc | apply pw_below_drewN | apply below_drew1 | refine below_set ?_ GE32001.out | refine below_set ?_ GE32008.out))) : w.heap.size ≤ gb32011)); have n7_ := Aside0.mk ((by rw [hg]; exact Nat.ne_of_lt (blk_lt (g := gb32001) (o := .cells #[.int .i64 a1_0, .int .i64 a1_1] 37 (0, 0)) (BK32001.out)) : gb32001 ≠ gb32011)); have n8_ := Aside0.mk ((by rw [hg]; exact Nat.ne_of_gt (blk_lt (g := gb32001) (o := .cells #[.int .i64 a1_0, .int .i64 a1_1] 37 (0, 0)) (BK32001.out)) : gb32011 ≠ gb32001)); have n9_ := Aside0.mk ((by rw [hg]; exact Nat.ne_of_lt (blk_lt (g := gb32008) (o := .cells #[.int .i64 ((rd_T32 l0 x37_2).f0), .int .i64 ((rd_T32 l0 x37_2).f1), .bool ((rd_T32 l0 x37_2).f2)] 32 (0, 0)) (BK32008.out)) : gb32008 ≠ gb32011)); have n10_ := Aside0.mk ((by rw [hg]; exact Nat.ne_of_gt (blk_lt (g := gb32008) (o := .cells #[.int .i64 ((rd_T32 l0 x37_2).f0), .int .i64 ((rd_T32 l0 x37_2).f1), .bool ((rd_T32 l0 x37_2).f2)] 32 (0, 0)) (BK32008.out)) : gb32011 ≠ gb32008)); clear HO_7; clear BK32001; clear BK32008; clear HB; have HO_7 := n0_; have BK32001 := n1_; have BK32008 := n2_; have HB := n3_; have BK32011 := n4_; have GW32011 := n5_; have GE32011 := n6_; have NB32001_32011 := n7_; have NB32011_32001 := n8_; have NB32008_32011 := n9_; have NB32011_32008 := n10_; clear n0_ n1_ n2_ n3_ n4_ n5_ n6_ n7_ n8_ n9_ n10_; clear hb hbox hg; have hnb54 := NB32011_32001.out; have hnc54 := NB32001_32011.out; have hnb55 := NB32011_32008.out; have hnc55 := NB32008_32011.out; have hcz56_0 : w53.cell? ⟨gb32011, 0, none⟩ = some (.int .i64 0) := (blk_cell BK32011.out 0).trans rfl; have hcz56_1 : w53.cell? ⟨gb32011, 1, none⟩ = some (.int .i64 0) := (blk_cell BK32011.out 1).trans rfl; have hfz56_0 := blk_frozen BK32011.out 0; have hfz56_1 := blk_frozen BK32011.out 1; have hcz57_0 : w53.cell? ⟨gb32001, 0, none⟩ = some (.int .i64 a1_0) := (blk_cell BK32001.out 0).trans rfl; have hcz57_1 : w53.cell? ⟨gb32001, 1, none⟩ = some (.int .i64 a1_1) := (blk_cell BK32001.out 1).trans rfl; have hfz57_0 := blk_frozen BK32001.out 0; have hfz57_1 := blk_frozen BK32001.out 1; have hcz58_0 : w53.cell? ⟨gb32008, 0, none⟩ = some (.int .i64 ((rd_T32 l0 x37_2).f0)) := (blk_cell BK32008.out 0).trans rfl; have hcz58_1 : w53.cell? ⟨gb32008, 1, none⟩ = some (.int .i64 ((rd_T32 l0 x37_2).f1)) := (blk_cell BK32008.out 1).trans rfl; have hcz58_2 : w53.cell? ⟨gb32008, 2, none⟩ = some (.bool ((rd_T32 l0 x37_2).f2)) := (blk_cell BK32008.out 2).trans rfl; have hfz58_0 := blk_frozen BK32008.out 0; have hfz58_1 := blk_frozen BK32008.out 1; have hfz58_2 := blk_frozen BK32008.out 2)); try go_wp2_with (first | ((with_reducible refine gate_dst (N := 10) rfl ?_); refine box_event ?hg (N := 10) ?hd (cs := #[.int .i64 0, .int .i64 0, .bool false]) (t := 32) ?hr ?_; (case hd => rfl); (case hg => rfl); (case hr => first | (go_simp; done) | (go_simp; rfl)); intro gb32008 hg w49 hbox hb; have n0_ := Aside0.mk (Kd.R_below (HO_7.out) hb); have n1_ := Aside0.mk (blk_below (g := gb32001) (o := .cells #[.int .i64 a1_0, .int .i64 a1_1] 37 (0, 0)) (BK32001.out) hb); have n2_ := Aside0.mk (below_step (by repeat (first | exact HB.out | apply below_alloc | apply pw_below_drewN | apply below_drew1 | refine below_set ?_ GE32001.out)) hb); have n3_ := Aside0.mk (hbox); have n4_ := Aside0.mk ((by rw [hg]; exact (below_size (by repeat (first | exact HB.out | apply below_alloc | apply pw_below_drewN | apply below_drew1 | refine below_set ?_ GE32001.out))) : w.heap.size ≤ gb32008)); have n5_ := Aside0.mk ((by rw [hg]; exact (below_size (by repeat (first | exact HB.out | apply below_alloc | apply pw_below_drewN | apply below_drew1 | refine below_set ?_ GE32001.out))) : w.heap.size ≤ gb32008)); have n6_ := Aside0.mk ((by rw [hg]; exact Nat.ne_of_lt (blk_lt (g := gb32001) (o := .cells #[.int .i64 a1_0, .int .i64 a1_1] 37 (0, 0)) (BK32001.out)) : gb32001 ≠ gb32008)); have n7_ := Aside0.mk ((by rw [hg]; exact Nat.ne_of_gt (blk_lt (g := gb32001) (o := .cells #[.int .i64 a1_0, .int .i64 a1_1] 37 (0, 0)) (BK32001.out)) : gb32008 ≠ gb32001)); clear HO_7; clear BK32001; clear HB; have HO_7 := n0_; have BK32001 := n1_; have HB := n2_; have BK32008 := n3_; have GW32008 := n4_; have GE32008 := n5_; have NB32001_32008 := n6_; have NB32008_32001 := n7_; clear n0_ n1_ n2_ n3_ n4_ n5_ n6_ n7_; clear hb hbox hg; have hnb50 := NB32008_32001.out; have hnc50 := NB32001_32008.out; have hcz51_0 : w49.cell? ⟨gb32008, 0, none⟩ = some (.int .i64 0) := (blk_cell BK32008.out 0).trans rfl; have hcz51_1 : w49.cell? ⟨gb32008, 1, none⟩ = some (.int .i64 0) := (blk_cell BK32008.out 1).trans rfl; have hcz51_2 : w49.cell? ⟨gb32008, 2, none⟩ = some (.bool false) := (blk_cell BK32008.out 2).trans rfl; have hfz51_0 := blk_frozen BK32008.out 0; have hfz51_1 := blk_frozen BK32008.out 1; have hfz51_2 := blk_frozen BK32008.out 2) | (go_at_call 57; (with_reducible refine (iso_images.calls ((rd_T32 l0 x37_2).f0) ((rd_T32 l0 x37_2).f1) ((rd_T32 l0 x37_2).f2) t32009 t32010 _ A17.out).mono ?_); rintro e w52 ⟨rfl, hb⟩; have n0_ := Aside0.mk (Kd.R_below (by exact (Kd.R_mono (Kd.R_far (p := ⟨gb32008, 2, none⟩) (Kd.R_far (p := ⟨gb32008, 1, none⟩) (Kd.R_far (p := ⟨gb32008, 0, none⟩) (Kd.R_types HO_7.out BK32008.out (by decide)) (fun _ hk => hk.2) (.int .i64 ((rd_T32 l0 x37_2).f0))) (fun _ hk => hk.2) (.int .i64 ((rd_T32 l0 x37_2).f1))) (fun _ hk => hk.2) (.bool ((rd_T32 l0 x37_2).f2))) (fun _ h_ => h_.1))) hb); have n1_ := Aside0.mk (blk_below (g := gb32001) (o := .cells #[.int .i64 a1_0, .int .i64 a1_1] 37 (0, 0)) (by refine blk_far ?_ NB32001_32008.out _; refine blk_far ?_ NB32001_32008.out _; refine blk_far ?_ NB32001_32008.out _; exact BK32001.out) hb); have n2_ := Aside0.mk (blk_below (g := gb32008) (o := .cells #[.int .i64 ((rd_T32 l0 x37_2).f0), .int .i64 ((rd_T32 l0 x37_2).f1), .bool ((rd_T32 l0 x37_2).f2)] 32 (0, 0)) (by refine blk_put (cs := #[.int .i64 ((rd_T32 l0 x37_2).f0), .int .i64 ((rd_T32 l0 x37_2).f1), .bool false]) ?_ 2 _ rfl; refine blk_put (cs := #[.int .i64 ((rd_T32 l0 x37_2).f0), .int .i64 0, .bool false]) ?_ 1 _ rfl; refine blk_put (cs := #[.int .i64 0, .int .i64 0, .bool false]) ?_ 0 _ rfl; exact BK32008.out) hb); have n3_ := Aside0.mk (below_step (by repeat (first | exact HB.out | apply below_alloc | apply pw_below_drewN | apply below_drew1 | refine below_set ?_ GE32001.out | refine below_set ?_ GE32008.out)) hb); clear HO_7; clear BK32001; clear BK32008; clear HB; have HO_7 := n0_; have BK32001 := n1_; have BK32008 := n2_; have HB := n3_; clear n0_ n1_ n2_ n3_; (try clear hb); (try clear hb2); (try clear hk); (try clear hi)) | ((with_reducible refine gate_dst (N := 11) rfl ?_); refine box_event ?hg (N := 11) ?hd (cs := #[.int .i64 0, .int .i64 0]) (t := 37) ?hr ?_; (case hd => rfl); (case hg => rfl); (case hr => first | (go_simp; done) | (go_simp; rfl)); intro gb32011 hg w53 hbox hb; have n0_ := Aside0.mk (Kd.R_below (Kd.R_elderB (HO_7.out) gb32011 (Nat.le_of_eq hg.symm)) hb); have n1_ := Aside0.mk (blk_below (g := gb32001) (o := .cells #[.int .i64 a1_0, .int .i64 a1_1] 37 (0, 0)) (BK32001.out) hb); have n2_ := Aside0.mk (blk_below (g := gb32008) (o := .cells #[.int .i64 ((rd_T32 l0 x37_2).f0), .int .i64 ((rd_T32 l0 x37_2).f1), .bool ((rd_T32 l0 x37_2).f2)] 32 (0, 0)) (BK32008.out) hb); have n3_ := Aside0.mk (below_step (by repeat (first | exact HB.out | apply below_alloc | apply pw_below_drewN | apply below_drew1 | refine below_set ?_ GE32001.out | refine below_set ?_ GE32008.out)) hb); have n4_ := Aside0.mk (hbox); have n5_ := Aside0.mk ((by rw [hg]; exact (below_size (by repeat (first | exact HB.out | apply below_alloc | apply pw_below_drewN | apply below_drew1 | refine below_set ?_ GE32001.out | refine below_set ?_ GE32008.out))) : w.heap.size ≤ gb32011)); have n6_ := Aside0.mk ((by rw [hg]; exact (below_size (by repeat (first | exact HB.out | apply below_alloc | apply pw_below_drewN | apply below_drew1 | refine below_set ?_ GE32001.out | refine below_set ?_ GE32008.out))) : w.heap.size ≤ gb32011)); have n7_ := Aside0.mk ((by rw [hg]; exact Nat.ne_of_lt (blk_lt (g := gb32001) (o := .cells #[.int .i64 a1_0, .int .i64 a1_1] 37 (0, 0)) (BK32001.out)) : gb32001 ≠ gb32011)); have n8_ := Aside0.mk ((by rw [hg]; exact Nat.ne_of_gt (blk_lt (g := gb32001) (o := .cells #[.int .i64 a1_0, .int .i64 a1_1] 37 (0, 0)) (BK32001.out)) : gb32011 ≠ gb32001)); have n9_ := Aside0.mk ((by rw [hg]; exact Nat.ne_of_lt (blk_lt (g := gb32008) (o := .cells #[.int .i64 ((rd_T32 l0 x37_2).f0), .int .i64 ((rd_T32 l0 x37_2).f1), .bool ((rd_T32 l0 x37_2).f2)] 32 (0, 0)) (BK32008.out)) : gb32008 ≠ gb32011)); have n10_ := Aside0.mk ((by rw [hg]; exact Nat.ne_of_gt (blk_lt (g := gb32008) (o := .cells #[.int .i64 ((rd_T32 l0 x37_2).f0), .int .i64 ((rd_T32 l0 x37_2).f1), .bool ((rd_T32 l0 x37_2).f2)] 32 (0, 0)) (BK32008.out)) : gb32011 ≠ gb32008)); clear HO_7; clear BK32001; clear BK32008; clear HB; have HO_7 := n0_; have BK32001 := n1_; have BK32008 := n2_; have HB := n3_; have BK32011 := n4_; have GW32011 := n5_; have GE32011 := n6_; have NB32001_32011 := n7_; have NB32011_32001 := n8_; have NB32008_32011 := n9_; have NB32011_32008 := n10_; clear n0_ n1_ n2_ n3_ n4_ n5_ n6_ n7_ n8_ n9_ n10_; clear hb hbox hg; have hnb54 := NB32011_32001.out; have hnc54 := NB32001_32011.out; have hnb55 := NB32011_32008.out; have hnc55 := NB32008_32011.out; have hcz56_0 : w53.cell? ⟨gb32011, 0, none⟩ = some (.int .i64 0) := (blk_cell BK32011.out 0).trans rfl; have hcz56_1 : w53.cell? ⟨gb32011, 1, none⟩ = some (.int .i64 0) := (blk_cell BK32011.out 1).trans rfl; have hfz56_0 := blk_frozen BK32011.out 0; have hfz56_1 := blk_frozen BK32011.out 1; have hcz57_0 : w53.cell? ⟨gb32001, 0, none⟩ = some (.int .i64 a1_0) := (blk_cell BK32001.out 0).trans rfl; have hcz57_1 : w53.cell? ⟨gb32001, 1, none⟩ = some (.int .i64 a1_1) := (blk_cell BK32001.out 1).trans rfl; have hfz57_0 := blk_frozen BK32001.out 0; have hfz57_1 := blk_frozen BK32001.out 1; have hcz58_0 : w53.cell? ⟨gb32008, 0, none⟩ = some (.int .i64 ((rd_T32 l0 x37_2).f0)) := (blk_cell BK32008.out 0).trans rfl; have hcz58_1 : w53.cell? ⟨gb32008, 1, none⟩ = some (.int .i64 ((rd_T32 l0 x37_2).f1)) := (blk_cell BK32008.out 1).trans rfl; have hcz58_2 : w53.cell? ⟨gb32008, 2, none⟩ = some (.bool ((rd_T32 l0 x37_2).f2)) := (blk_cell BK32008.out 2).trans rfl; have hfz58_0 := blk_frozen BK32008.out 0; have hfz58_1 := blk_frozen BK32008.out 1; have hfz58_2 := blk_frozen BK32008.out 2)))
           go_roundg k2
           case measure => have := HJ4.out; have := HK2.out; omega
           case rel => exact ⟨(x7_2), (wrap64 (x8_2 + ((rd_T32 l0 x37_2).f1))), (wrap64 (x37_2 + 1)), (by first | rfl | (simp; done) | (simp [*]; done)), (by first | rfl | (simp; done) | (simp [*]; done)), H', ⟨by have := HJ4.out; have := HK2.out; omega⟩, ⟨by exact Kd.R_mono (Kd.R_far (p := ⟨gb32011, 1, none⟩) (Kd.R_far (p := ⟨gb32011, 0, none⟩) (Kd.R_mono HO_7.out (fun k_ hk => (⟨hk, hk.2⟩ : _ ∧ k_ ≠ gb32011))) (fun _ hk => hk.2) (.int .i64 t32009)) (fun _ hk => hk.2) (.int .i64 t32010)) (fun _ hk => hk.1.1)⟩, ⟨by refine blk_far ?_ NB32001_32011.out _; refine blk_far ?_ NB32001_32011.out _; exact BK32001.out⟩, ⟨by repeat (first | exact HB.out | apply below_alloc | apply pw_below_drewN | apply below_drew1 | refine below_set ?_ GE32001.out | refine below_set ?_ GE32008.out | refine below_set ?_ GE32011.out)⟩⟩
         ·rw [if_neg c16] at H
          exact absurd H (by simp)
        ·rw [if_neg c15] at H
         exact absurd H (by simp)
       ·rw [if_neg c14] at H
        have c14b0 : decide (x37_2 < (l0.length : Int)) = false := decide_eq_false c14
        clear c14
        replace H := Option.bind_eq_some_iff.mp H
        obtain ⟨⟨t32003, t32004⟩, A590, H⟩ := H
        replace H : (some (t32003, t32004)) = some (r1, r2) := H
        have A59 := Aside0.mk A590
        clear A590
        simp only [Option.some.injEq, Prod.mk.injEq] at H
        obtain ⟨rfl, rfl⟩ := H
        obtain ⟨Ao60, co60, eo60⟩ := Kd.R_slice HO_7.out
        subst eo60
        go_wp2_with (first | (go_at_call 58; (with_reducible refine (span_Norm.calls k2 _ _ x7_2 t32003 t32004 _ ?side1 ?side2 A59.out).mono ?_); (case side1 => exact (Kd.R_reads' HO_7.out).2.2); (case side2 => exact (Kd.R_reads' HO_7.out).2.1); rintro e w61 ⟨v32005, rfl, ho0, hb⟩; have n0_ := Aside0.mk (Kd.R_elder' (HO_7.out) (Kd.R_base ho0) hb); have n1_ := Aside0.mk (Kd.R_lower (Kd.R_newB (Kd.R_new' ho0 (Kd.R_lt (HO_7.out))) (g := gb32001) (o := .cells #[.int .i64 a1_0, .int .i64 a1_1] 37 (0, 0)) (BK32001.out)) (below_size (by repeat (first | exact HB.out | apply below_alloc | apply pw_below_drewN | apply below_drew1 | refine below_set ?_ GE32001.out)))); have n2_ := Aside0.mk (blk_below (g := gb32001) (o := .cells #[.int .i64 a1_0, .int .i64 a1_1] 37 (0, 0)) (BK32001.out) hb); have n3_ := Aside0.mk (below_step (by repeat (first | exact HB.out | apply below_alloc | apply pw_below_drewN | apply below_drew1 | refine below_set ?_ GE32001.out)) hb); clear HO_7; clear BK32001; clear HB; have HO_7 := n0_; have HO32006 := n1_; have BK32001 := n2_; have HB := n3_; clear n0_ n1_ n2_ n3_; (try clear hb); (try clear hb2); (try clear hk); (try clear hi); (try clear ho0)))
        repeat (go_quiet (first | (go_at_call 58; (with_reducible refine (span_Norm.calls k2 _ _ x7_2 t32003 t32004 _ ?side1 ?side2 A59.out).mono ?_); (case side1 => exact (Kd.R_reads' HO_7.out).2.2); (case side2 => exact (Kd.R_reads' HO_7.out).2.1); rintro e w61 ⟨v32005, rfl, ho0, hb⟩; have n0_ := Aside0.mk (Kd.R_elder' (HO_7.out) (Kd.R_base ho0) hb); have n1_ := Aside0.mk (Kd.R_lower (Kd.R_newB (Kd.R_new' ho0 (Kd.R_lt (HO_7.out))) (g := gb32001) (o := .cells #[.int .i64 a1_0, .int .i64 a1_1] 37 (0, 0)) (BK32001.out)) (below_size (by repeat (first | exact HB.out | apply below_alloc | apply pw_below_drewN | apply below_drew1 | refine below_set ?_ GE32001.out)))); have n2_ := Aside0.mk (blk_below (g := gb32001) (o := .cells #[.int .i64 a1_0, .int .i64 a1_1] 37 (0, 0)) (BK32001.out) hb); have n3_ := Aside0.mk (below_step (by repeat (first | exact HB.out | apply below_alloc | apply pw_below_drewN | apply below_drew1 | refine below_set ?_ GE32001.out)) hb); clear HO_7; clear BK32001; clear HB; have HO_7 := n0_; have HO32006 := n1_; have BK32001 := n2_; have HB := n3_; clear n0_ n1_ n2_ n3_; (try clear hb); (try clear hb2); (try clear hk); (try clear hi); (try clear ho0))); try go_wp2_with (first | (go_at_call 58; (with_reducible refine (span_Norm.calls k2 _ _ x7_2 t32003 t32004 _ ?side1 ?side2 A59.out).mono ?_); (case side1 => exact (Kd.R_reads' HO_7.out).2.2); (case side2 => exact (Kd.R_reads' HO_7.out).2.1); rintro e w61 ⟨v32005, rfl, ho0, hb⟩; have n0_ := Aside0.mk (Kd.R_elder' (HO_7.out) (Kd.R_base ho0) hb); have n1_ := Aside0.mk (Kd.R_lower (Kd.R_newB (Kd.R_new' ho0 (Kd.R_lt (HO_7.out))) (g := gb32001) (o := .cells #[.int .i64 a1_0, .int .i64 a1_1] 37 (0, 0)) (BK32001.out)) (below_size (by repeat (first | exact HB.out | apply below_alloc | apply pw_below_drewN | apply below_drew1 | refine below_set ?_ GE32001.out)))); have n2_ := Aside0.mk (blk_below (g := gb32001) (o := .cells #[.int .i64 a1_0, .int .i64 a1_1] 37 (0, 0)) (BK32001.out) hb); have n3_ := Aside0.mk (below_step (by repeat (first | exact HB.out | apply below_alloc | apply pw_below_drewN | apply below_drew1 | refine below_set ?_ GE32001.out)) hb); clear HO_7; clear BK32001; clear HB; have HO_7 := n0_; have HO32006 := n1_; have BK32001 := n2_; have HB := n3_; clear n0_ n1_ n2_ n3_; (try clear hb); (try clear hb2); (try clear hk); (try clear hi); (try clear ho0))))
        go_ret2
        exact ⟨_, by first | rfl | (simp [errW_none, errW_some] <;> rfl) | (simp [*, errW_none, errW_some] <;> rfl), by exact Kd.R_mono HO32006.out (fun _ hk => trivial), by repeat (first | exact HB.out | apply below_alloc | apply pw_below_drewN | apply below_drew1 | refine below_set ?_ GE32001.out)⟩
 ·rw [if_neg c4] at H
  have c4b0 : (t32002 == 0) = false := beq_eq_false_iff_ne.mpr c4
  have c4b1 : (t32002 != 0) = true := bne_iff_ne.mpr c4
  simp only [Option.some.injEq, Prod.mk.injEq] at H
  obtain ⟨rfl, rfl⟩ := H
  go_enter Try.func31, Try.ntmps31
  go_wp2_with (first | ((with_reducible refine gate_dst (N := 3) rfl ?_); refine box_event ?hg (N := 3) ?hd (cs := #[.int .i64 a1_0, .int .i64 a1_1]) (t := 37) ?hr ?_; (case hd => rfl); (case hg => rfl); (case hr => first | (go_simp; done) | (go_simp; rfl)); intro gb32001 hg w62 hbox hb; have n0_ := Aside0.mk (below_step (by repeat (first | exact HB.out | apply below_alloc | apply pw_below_drewN | apply below_drew1)) hb); have n1_ := Aside0.mk (hbox); have n2_ := Aside0.mk ((by rw [hg]; exact (below_size (by repeat (first | exact HB.out | apply below_alloc | apply pw_below_drewN | apply below_drew1))) : w.heap.size ≤ gb32001)); have n3_ := Aside0.mk ((by rw [hg]; exact (below_size (by repeat (first | exact HB.out | apply below_alloc | apply pw_below_drewN | apply below_drew1))) : w.heap.size ≤ gb32001)); clear HB; have HB := n0_; have BK32001 := n1_; have GW32001 := n2_; have GE32001 := n3_; clear n0_ n1_ n2_ n3_; clear hb hbox hg) | (go_at_call 14; (with_reducible refine (iso_Check.calls k _ _ l0 t32002 _ ?side1 ?side2 A3.out).mono ?_); (case side1 => exact (Kd.C_below HR0.out HB.out)); (case side2 => exact HC0.out); rintro e w63 ⟨rfl, hb⟩; have n0_ := Aside0.mk (blk_below (g := gb32001) (o := .cells #[.int .i64 a1_0, .int .i64 a1_1] 37 (0, 0)) (BK32001.out) hb); have n1_ := Aside0.mk (below_step (by repeat (first | exact HB.out | apply below_alloc | apply pw_below_drewN | apply below_drew1 | refine below_set ?_ GE32001.out)) hb); clear BK32001; clear HB; have BK32001 := n0_; have HB := n1_; clear n0_ n1_; (try clear hb); (try clear hb2); (try clear hk); (try clear hi)))
  repeat (go_quiet (first | ((with_reducible refine gate_dst (N := 3) rfl ?_); refine box_event ?hg (N := 3) ?hd (cs := #[.int .i64 a1_0, .int .i64 a1_1]) (t := 37) ?hr ?_; (case hd => rfl); (case hg => rfl); (case hr => first | (go_simp; done) | (go_simp; rfl)); intro gb32001 hg w62 hbox hb; have n0_ := Aside0.mk (below_step (by repeat (first | exact HB.out | apply below_alloc | apply pw_below_drewN | apply below_drew1)) hb); have n1_ := Aside0.mk (hbox); have n2_ := Aside0.mk ((by rw [hg]; exact (below_size (by repeat (first | exact HB.out | apply below_alloc | apply pw_below_drewN | apply below_drew1))) : w.heap.size ≤ gb32001)); have n3_ := Aside0.mk ((by rw [hg]; exact (below_size (by repeat (first | exact HB.out | apply below_alloc | apply pw_below_drewN | apply below_drew1))) : w.heap.size ≤ gb32001)); clear HB; have HB := n0_; have BK32001 := n1_; have GW32001 := n2_; have GE32001 := n3_; clear n0_ n1_ n2_ n3_; clear hb hbox hg) | (go_at_call 14; (with_reducible refine (iso_Check.calls k _ _ l0 t32002 _ ?side1 ?side2 A3.out).mono ?_); (case side1 => exact (Kd.C_below HR0.out HB.out)); (case side2 => exact HC0.out); rintro e w63 ⟨rfl, hb⟩; have n0_ := Aside0.mk (blk_below (g := gb32001) (o := .cells #[.int .i64 a1_0, .int .i64 a1_1] 37 (0, 0)) (BK32001.out) hb); have n1_ := Aside0.mk (below_step (by repeat (first | exact HB.out | apply below_alloc | apply pw_below_drewN | apply below_drew1 | refine below_set ?_ GE32001.out)) hb); clear BK32001; clear HB; have BK32001 := n0_; have HB := n1_; clear n0_ n1_; (try clear hb); (try clear hb2); (try clear hk); (try clear hi))); try go_wp2_with (first | ((with_reducible refine gate_dst (N := 3) rfl ?_); refine box_event ?hg (N := 3) ?hd (cs := #[.int .i64 a1_0, .int .i64 a1_1]) (t := 37) ?hr ?_; (case hd => rfl); (case hg => rfl); (case hr => first | (go_simp; done) | (go_simp; rfl)); intro gb32001 hg w62 hbox hb; have n0_ := Aside0.mk (below_step (by repeat (first | exact HB.out | apply below_alloc | apply pw_below_drewN | apply below_drew1)) hb); have n1_ := Aside0.mk (hbox); have n2_ := Aside0.mk ((by rw [hg]; exact (below_size (by repeat (first | exact HB.out | apply below_alloc | apply pw_below_drewN | apply below_drew1))) : w.heap.size ≤ gb32001)); have n3_ := Aside0.mk ((by rw [hg]; exact (below_size (by repeat (first | exact HB.out | apply below_alloc | apply pw_below_drewN | apply below_drew1))) : w.heap.size ≤ gb32001)); clear HB; have HB := n0_; have BK32001 := n1_; have GW32001 := n2_; have GE32001 := n3_; clear n0_ n1_ n2_ n3_; clear hb hbox hg) | (go_at_call 14; (with_reducible refine (iso_Check.calls k _ _ l0 t32002 _ ?side1 ?side2 A3.out).mono ?_); (case side1 => exact (Kd.C_below HR0.out HB.out)); (case side2 => exact HC0.out); rintro e w63 ⟨rfl, hb⟩; have n0_ := Aside0.mk (blk_below (g := gb32001) (o := .cells #[.int .i64 a1_0, .int .i64 a1_1] 37 (0, 0)) (BK32001.out) hb); have n1_ := Aside0.mk (below_step (by repeat (first | exact HB.out | apply below_alloc | apply pw_below_drewN | apply below_drew1 | refine below_set ?_ GE32001.out)) hb); clear BK32001; clear HB; have BK32001 := n0_; have HB := n1_; clear n0_ n1_; (try clear hb); (try clear hb2); (try clear hk); (try clear hi))))
  go_ret2
  exact ⟨_, by first | rfl | (simp [errW_none, errW_some] <;> rfl) | (simp [*, errW_none, errW_some] <;> rfl), by first | exact Kd.R_nil _ _ _ _ _ | exact Kd.N_nil _ _ _ _ _ | exact Kd.V_nil _ _ _ _ _ | exact Kd.Q_nil _ _ _ _ _ | exact Kd.S_nil _ _ _ _ _, by repeat (first | exact HB.out | apply below_alloc | apply pw_below_drewN | apply below_drew1 | refine below_set ?_ GE32001.out)⟩

end Go.Proofs.Ytcnkmdonbpgjiaa.G

namespace Go.Proofs.Ytcnkmdonbpgjiaa.G
open Go.RowKit Go.Proofs.YtcnkmdonbpgjiaaW.PrintWords Go.Proofs.YtcnkmdonbpgjiaaW.PrintLast Go.Proofs.YtcnkmdonbpgjiaaW.PrintMore
set_option linter.unusedVariables false
set_option linter.unusedSimpArgs false
def imgS (r : S32) : S37 := ⟨mn r.f0 (img r (r.f1 - 1)), mx r.f0 (img r (r.f1 - 1)) + 1⟩
theorem imgS_in {r : S32} (h : ¬ badR r) : 0 ≤ (imgS r).f0 ∧ (imgS r).f0 ≤ (imgS r).f1 ∧ (imgS r).f1 ≤ 17179869184 ∧ (imgS r).f1 - (imgS r).f0 = r.f1 := by
  unfold badR at h
  unfold imgS mn mx img
  dsimp only
  cases hb : r.f2 <;> simp [hb] at h ⊢ <;> (repeat' split) <;> omega
theorem images_is {r : S32} (h : ¬ badR r) : iso_images.f r.f0 r.f1 r.f2 = some ((imgS r).f0, (imgS r).f1) := by
  have hi := imgS_in h
  have hf := fit_of h
  unfold fitR at hf
  have e : wrap64 (r.f1 - 1) = r.f1 - 1 := by unfold wrap64; omega
  unfold iso_images.f
  rw [e, image_is r (r.f1 - 1) ⟨by omega, by omega, by omega⟩ (by omega) (by omega), Option.bind_some]
  have e2 : wrap64 (mx r.f0 (img r (r.f1 - 1)) + 1) = mx r.f0 (img r (r.f1 - 1)) + 1 := by
    have h1 : (imgS r).f1 = mx r.f0 (img r (r.f1 - 1)) + 1 := rfl
    unfold wrap64
    omega
  rw [e2]
  rfl
def image13 (l : List S32) : List S37 × Int := if check13 l = 0 then bothOf (l.map imgS) [] 0 else ([], check13 l)
theorem iimage_l0 (l : List S32) (hl : l.length ≤ 256) (hg : ∀ r ∈ l, ¬ badR r) : ∀ (d i : Nat) (o : List S37), l.length - i = d → i ≤ l.length → o.length ≤ i → Ends (fun k => iso_Image.l0 k o l (l.length : Int) (i : Int)) (bothOf (o ++ (l.drop i).map imgS) [] 0) := by
  intro d
  induction d with
  | zero =>
    intro i o hd hi ho
    refine Ends.succ ?_
    simp only [iso_Image.l0]
    rw [List.drop_of_length_le (by omega), List.map_nil, List.append_nil]
    exact Ends.neg (by omega) (Ends.bind (norm_ends o) (Ends.ret _))
  | succ d ih =>
    intro i o hd hi ho
    refine Ends.succ ?_
    have hx := hg (rd_T32 l (i : Int)) (by rw [rdR l i (by omega)]; exact List.getElem_mem _)
    rw [dropR l i (by omega)]
    simp only [iso_Image.l0, wrap_nat i (by omega)]
    generalize rd_T32 l (i : Int) = r at *
    refine Ends.pos (by omega) (Ends.pos (by omega) (Ends.pos (by omega) (Ends.bind (Ends.const (images_is hx)) (Ends.pos (by omega) ?_))))
    refine (ih (i + 1) (o ++ [imgS r]) (by omega) (by omega) (by simp; omega)).congr ?_
    rw [List.append_assoc]
    rfl
theorem iimage_ends (l : List S32) : Ends (fun k => iso_Image.f k l) (image13 l) := by
  unfold iso_Image.f image13
  refine Ends.bind (icheck_ends l) ?_
  by_cases h : check13 l = 0
  · rw [if_pos h]
    obtain ⟨hl, hg, _⟩ := check13_zero h
    exact Ends.pos h ((iimage_l0 l hl hg _ 0 [] rfl (by omega) (by simp)).congr (by simp))
  · rw [if_neg h]
    exact Ends.neg h (Ends.ret _)
def findS (p : Int) (r : S32) (a b : Int) : List S37 :=
  if mx (imgS r).f0 a < mn (imgS r).f1 b then [⟨p + (if r.f2 = true then (imgS r).f1 - mn (imgS r).f1 b else mx (imgS r).f0 a - (imgS r).f0), p + (if r.f2 = true then (imgS r).f1 - mn (imgS r).f1 b else mx (imgS r).f0 a - (imgS r).f0) + mn (imgS r).f1 b - mx (imgS r).f0 a⟩] else []
def findL (p a b : Int) : List S32 → List S37
  | [] => []
  | r :: l => findS p r a b ++ findL (p + r.f1) a b l
def find13 (l : List S32) (a b : Int) : List S37 × Int := if check13 l = 0 then (if a < 0 ∨ a > b ∨ b > 17179869184 then ([], 1) else bothOf (findL 0 a b l) [] 0) else ([], check13 l)
theorem findS_len (p : Int) (r : S32) (a b : Int) : (findS p r a b).length ≤ 1 := by unfold findS; split <;> simp
theorem ifind_l0 (l : List S32) (hl : l.length ≤ 256) (hg : ∀ r ∈ l, ¬ badR r) (a b : Int) (ha : 0 ≤ a) (hab : a ≤ b) (hb : b ≤ 17179869184) : ∀ (d i : Nat) (o : List S37) (p : Int), l.length - i = d → i ≤ l.length → o.length ≤ i → 0 ≤ p → p ≤ i * 17179869184 → Ends (fun k => iso_Find.l0 k o p l (l.length : Int) (i : Int) a b) (bothOf (o ++ findL p a b (l.drop i)) [] 0) := by
  intro d
  induction d with
  | zero =>
    intro i o p hd hi ho h0 h1
    refine Ends.succ ?_
    simp only [iso_Find.l0]
    rw [List.drop_of_length_le (by omega)]
    simp only [findL, List.append_nil]
    exact Ends.neg (by omega) (Ends.bind (norm_ends o) (Ends.ret _))
  | succ d ih =>
    intro i o p hd hi ho h0 h1
    refine Ends.succ ?_
    have hx := hg (rd_T32 l (i : Int)) (by rw [rdR l i (by omega)]; exact List.getElem_mem _)
    rw [dropR l i (by omega)]
    simp only [iso_Find.l0, wrap_nat i (by omega), findL]
    generalize rd_T32 l (i : Int) = r at *
    have hi2 := imgS_in hx
    have hf := fit_of hx
    unfold fitR at hf
    refine Ends.pos (by omega) (Ends.pos (by omega) (Ends.pos (by omega) (Ends.bind (Ends.const (images_is hx)) ?_)))
    dsimp only
    have ew : wrap64 (p + r.f1) = p + r.f1 := by unfold wrap64; omega
    have hm1 : 0 ≤ mx (imgS r).f0 a ∧ mx (imgS r).f0 a ≤ 17179869184 ∧ (imgS r).f0 ≤ mx (imgS r).f0 a := by unfold mx; split <;> omega
    have hm2 : mn (imgS r).f1 b ≤ 17179869184 ∧ mn (imgS r).f1 b ≤ (imgS r).f1 ∧ 0 ≤ mn (imgS r).f1 b := by unfold mn; split <;> omega
    rw [ew]
    unfold findS
    generalize hA : mx (imgS r).f0 a = A at *
    generalize hC : mn (imgS r).f1 b = C at *
    by_cases hc : A < C
    · rw [if_pos hc]
      refine Ends.pos hc ?_
      cases hb2 : r.f2 with
      | true =>
        have e1 : wrap64 ((imgS r).f1 - C) = (imgS r).f1 - C := by unfold wrap64; omega
        have e2 : wrap64 (p + ((imgS r).f1 - C)) = p + ((imgS r).f1 - C) := by unfold wrap64; omega
        have e3 : wrap64 (p + ((imgS r).f1 - C) + C) = p + ((imgS r).f1 - C) + C := by unfold wrap64; omega
        have e4 : wrap64 (p + ((imgS r).f1 - C) + C - A) = p + ((imgS r).f1 - C) + C - A := by unfold wrap64; omega
        rw [e1, e2, e3, e4, if_pos rfl]
        exact Ends.pos rfl (Ends.pos (by omega) ((ih (i + 1) _ (p + r.f1) (by omega) (by omega) (by simp; omega) (by omega) (by omega)).congr (by rw [List.append_assoc])))
      | false =>
        have e1 : wrap64 (A - (imgS r).f0) = A - (imgS r).f0 := by unfold wrap64; omega
        have e2 : wrap64 (p + (A - (imgS r).f0)) = p + (A - (imgS r).f0) := by unfold wrap64; omega
        have e3 : wrap64 (p + (A - (imgS r).f0) + C) = p + (A - (imgS r).f0) + C := by unfold wrap64; omega
        have e4 : wrap64 (p + (A - (imgS r).f0) + C - A) = p + (A - (imgS r).f0) + C - A := by unfold wrap64; omega
        rw [e1, e2, e3, e4, if_neg (by simp)]
        exact Ends.neg (by simp) (Ends.pos (by omega) ((ih (i + 1) _ (p + r.f1) (by omega) (by omega) (by simp; omega) (by omega) (by omega)).congr (by rw [List.append_assoc])))
    · rw [if_neg hc, List.nil_append]
      exact Ends.neg hc (ih (i + 1) o (p + r.f1) (by omega) (by omega) (by omega) (by omega) (by omega))
theorem ifind_ends (l : List S32) (a b : Int) : Ends (fun k => iso_Find.f k l a b) (find13 l a b) := by
  unfold iso_Find.f find13
  refine Ends.bind (icheck_ends l) ?_
  by_cases h : check13 l = 0
  · rw [if_pos h]
    obtain ⟨hl, hg, _⟩ := check13_zero h
    have key : ∀ z : Bool, z = decide (a < 0 ∨ a > b ∨ b > 17179869184) → Ends (fun k => iso_Find.j0 k l z a b) (if a < 0 ∨ a > b ∨ b > 17179869184 then ([], 1) else bothOf (findL 0 a b l) [] 0) := fun z hz => by
      refine Ends.succ ?_
      simp only [iso_Find.j0]
      by_cases hc : a < 0 ∨ a > b ∨ b > 17179869184
      · rw [if_pos hc]; exact Ends.pos (by rw [hz]; simpa using hc) (Ends.ret _)
      · rw [if_neg hc]
        exact Ends.neg (by rw [hz]; simpa using hc) ((ifind_l0 l hl hg a b (by omega) (by omega) (by omega) _ 0 [] 0 rfl (by omega) (by simp) (by omega) (by omega)).congr (by simp))
    refine Ends.pos h ?_
    by_cases c1 : a < 0
    · exact Ends.pos c1 (key true (by simp [c1]))
    · refine Ends.neg c1 ?_
      by_cases c2 : a > b
      · exact Ends.pos c2 (key true (by simp [c2]))
      · exact Ends.neg c2 (key _ (by simp [c1, c2]))
  · rw [if_neg h]
    exact Ends.neg h (Ends.ret _)
def single13 (l : List S32) : Bool := if (image13 l).2 = 0 then (if (totalOf (image13 l).1).2 = 0 then (totalOf (image13 l).1).1 == tot13 l else false) else false
theorem isingle_ends (l : List S32) : Ends (fun k => iso_Single.f k l) (single13 l) := by
  unfold iso_Single.f single13
  refine Ends.bind (iimage_ends l) ?_
  by_cases h : (image13 l).2 = 0
  · rw [if_pos h]
    have hc : check13 l = 0 := by
      by_cases hc : check13 l = 0
      · exact hc
      · unfold image13 at h; rw [if_neg hc] at h; exact absurd h hc
    obtain ⟨hl, hg, _⟩ := check13_zero hc
    refine Ends.pos h (Ends.bind (total_ends _) ?_)
    by_cases h2 : (totalOf (image13 l).1).2 = 0
    · rw [if_pos h2]
      exact Ends.pos h2 (Ends.bind (ilength_ends l (by omega) (fun r hr => by have := fit_of (hg r hr); unfold fitR at this; omega)) (Ends.ret _))
    · rw [if_neg h2]
      exact Ends.neg h2 (Ends.ret _)
  · rw [if_neg h]
    exact Ends.neg h (Ends.ret _)
end Go.Proofs.Ytcnkmdonbpgjiaa.G

namespace Go.Proofs.Ytcnkmdonbpgjiaa.G
open Go.RowKit Go.Proofs.YtcnkmdonbpgjiaaW.PrintWords Go.Proofs.YtcnkmdonbpgjiaaW.PrintLast Go.Proofs.YtcnkmdonbpgjiaaW.PrintMore
set_option linter.unusedVariables false
set_option linter.unusedSimpArgs false
theorem flat_get {α : Type} (enc : α → List Value) (sz : Nat) (hs : ∀ x, (enc x).length = sz) : ∀ (xs : List α) (j i : Nat) (p : α), xs[j]? = some p → i < sz → (xs.flatMap enc)[j * sz + i]? = (enc p)[i]?
  | [], j, i, p, h, _ => by simp at h
  | x :: xs, 0, i, p, h, hi => by
    simp at h; subst h
    rw [List.flatMap_cons, Nat.zero_mul, Nat.zero_add, List.getElem?_append_left (by rw [hs]; exact hi)]
  | x :: xs, j + 1, i, p, h, hi => by
    rw [List.flatMap_cons, List.getElem?_append_right (by rw [hs, Nat.add_mul]; omega), hs, show (j + 1) * sz + i - sz = j * sz + i by rw [Nat.add_mul]; omega]
    exact flat_get enc sz hs xs j i p (by simpa using h) hi
theorem C_block {α : Type} (d : Kd α) {W : World} {g e : Nat} {cells : Array Value} (xs : List α) (enc : α → List Value) (hK : ∀ x, d.K W x (enc x)) (hb : W.heap[g]? = some (.cells cells e (0, 0))) (hc : cells.toList = xs.flatMap enc) (hl : xs.length ≤ 9223372036854775807) :
    Kd.C d W (some ⟨g, 0, none⟩) xs.length xs :=
  ⟨rfl, hl, fun _ => ⟨_, rfl, fun j p hj => ⟨enc p, d.K_len (hK p), hK p, fun i u hu => by
    rw [add_plain, blk_cell hb]
    have hi : i < d.sz := by rw [← d.K_len (hK p)]; exact (List.getElem?_eq_some_iff.1 hu).1
    have := flat_get enc d.sz (fun x => d.K_len (hK x)) xs j i p hj hi
    rw [← hc, Array.getElem?_toList] at this
    rw [this]; exact hu⟩⟩⟩
theorem CI_block {W : World} {g : Nat} {cells : Array Value} (xs : List Int) (hb : W.heap[g]? = some (.cells cells 3 (0, 0))) (hc : cells.toList = xs.flatMap fun x => [.int .i64 x]) (hl : xs.length ≤ 1000) : Kd.C (Kd.int .i64) W (some ⟨g, 0, none⟩) xs.length xs :=
  C_block (Kd.int .i64) xs _ (fun x => rfl) hb hc (by omega)
end Go.Proofs.Ytcnkmdonbpgjiaa.G

namespace Go.Proofs.Ytcnkmdonbpgjiaa.G
open Go.RowKit Go.Proofs.YtcnkmdonbpgjiaaW.PrintWords Go.Proofs.YtcnkmdonbpgjiaaW.PrintLast Go.Proofs.YtcnkmdonbpgjiaaW.PrintMore
set_option linter.unusedVariables false
set_option linter.unusedSimpArgs false
theorem C37_block {W : World} {g : Nat} {cells : Array Value} (xs : List S37) (hb : W.heap[g]? = some (.cells cells 37 (0, 0))) (hc : cells.toList = xs.flatMap fun x => [.int .i64 x.f0, .int .i64 x.f1]) (hl : xs.length ≤ 1000) : Kd.C k37 W (some ⟨g, 0, none⟩) xs.length xs :=
  C_block k37 xs _ (fun x => k37_mk W x) hb hc (by omega)
end Go.Proofs.Ytcnkmdonbpgjiaa.G

namespace Go.Proofs.Ytcnkmdonbpgjiaa.G
open Go.RowKit Go.Proofs.YtcnkmdonbpgjiaaW.PrintWords Go.Proofs.YtcnkmdonbpgjiaaW.PrintLast Go.Proofs.YtcnkmdonbpgjiaaW.PrintMore
set_option linter.unusedVariables false
set_option linter.unusedSimpArgs false
theorem C32_block {W : World} {g : Nat} {cells : Array Value} (xs : List S32) (hb : W.heap[g]? = some (.cells cells 32 (0, 0))) (hc : cells.toList = xs.flatMap fun x => [.int .i64 x.f0, .int .i64 x.f1, .bool x.f2]) (hl : xs.length ≤ 1000) : Kd.C k32 W (some ⟨g, 0, none⟩) xs.length xs :=
  C_block k32 xs _ (fun x => k32_mk W x) hb hc (by omega)
end Go.Proofs.Ytcnkmdonbpgjiaa.G

namespace Go.Proofs.Ytcnkmdonbpgjiaa.G
open Go.RowKit Go.Proofs.YtcnkmdonbpgjiaaW.PrintWords Go.Proofs.YtcnkmdonbpgjiaaW.PrintLast Go.Proofs.YtcnkmdonbpgjiaaW.PrintMore
attribute [local go_sem] max2_int min2_int max_two min_two max_three min_three max_four min_four   -- for this text's walks alone
set_option linter.unusedVariables false
set_option linter.unusedSimpArgs false

theorem eqA32 (d : Nat) (w : World) (x0 y0 : Int) (x1 y1 : Int) (x2 y2 : Bool) :
    (Op.equalIn (d + 2) 32 (.agg #[.int .i64 x0, .int .i64 x1, .bool x2]) (.agg #[.int .i64 y0, .int .i64 y1, .bool y2])).run Try.prog w = .ok (x0 == y0 && (x1 == y1 && (x2 == y2))) w := by
  refine eqA_of Try.underlying32 (by kernel_rfl) ?_
  refine eqf_cons (by rfl) (by go_simp; rfl) (by go_simp; rfl) (by go_simp) ?_
  refine eqf_cons (by rfl) (by go_simp; rfl) (by go_simp; rfl) (by go_simp) ?_
  exact eqf_last (by rfl) (by go_simp; rfl) (by go_simp; rfl) (by go_simp)
end Go.Proofs.Ytcnkmdonbpgjiaa.G

namespace Go.Proofs.Ytcnkmdonbpgjiaa.G
open Go.RowKit Go.Proofs.YtcnkmdonbpgjiaaW.PrintWords Go.Proofs.YtcnkmdonbpgjiaaW.PrintLast Go.Proofs.YtcnkmdonbpgjiaaW.PrintMore
attribute [local go_sem] max2_int min2_int max_two min_two max_three min_three max_four min_four   -- for this text's walks alone
set_option linter.unusedVariables false
set_option linter.unusedSimpArgs false

attribute [local go_sem high] eqA32
def papermillref13_Same.l0 : Nat → List (S32) → List (S32) → Int → Option (Bool)
 | 0, _, _, _ => none
 | k + 1, x0, x1, x5 => if x5 < (x0.length : Int) then (if 0 ≤ x5 then (if x5 < (x1.length : Int) then (if (!(((rd_T32 x0 x5).f0) == ((rd_T32 x1 x5).f0)) || (!(((rd_T32 x0 x5).f1) == ((rd_T32 x1 x5).f1)) || (!(((rd_T32 x0 x5).f2) == ((rd_T32 x1 x5).f2))))) = true then (some false) else (papermillref13_Same.l0 k x0 x1 (wrap64 (x5 + 1)))) else (none)) else (none)) else (some true)
def papermillref13_Same.f (k : Nat) (l0 : List (S32)) (l1 : List (S32)) : Option (Bool) := if (l0.length : Int) = (l1.length : Int) then (papermillref13_Same.l0 k l0 l1 0) else (some false)
theorem papermillref13_Same.mono_l : ∀ k, (∀ y0 y1 y2, LeO (papermillref13_Same.l0 k y0 y1 y2) (papermillref13_Same.l0 (k + 1) y0 y1 y2))
 | 0 => fun _ _ _ r h => by simp [papermillref13_Same.l0] at h
 | k + 1 => by
  have ih0 := papermillref13_Same.mono_l k
  ·intro y0 y1 y2
   unfold papermillref13_Same.l0
   repeat' first
   | (with_reducible exact ih0 _ _ _)
   | (with_reducible exact LeO.refl _)
   | (with_reducible exact LeO.none _)
   | (with_reducible refine LeO.ite ?_ ?_)
   | (with_reducible refine LeO.bind ?_ (fun _ => ?_))
   | exact ih0 _ _ _
   | exact LeO.none _
   | refine LeO.ite ?_ ?_
   | refine LeO.bind ?_ (fun _ => ?_)
theorem papermillref13_Same.mono : ∀ a0 a1 k, LeO (papermillref13_Same.f k a0 a1) (papermillref13_Same.f (k + 1) a0 a1) := by
 intro a0 a1 k
 have ih0 := papermillref13_Same.mono_l k
 unfold papermillref13_Same.f
 repeat' first
   | (with_reducible exact ih0 _ _ _)
   | (with_reducible exact LeO.refl _)
   | (with_reducible exact LeO.none _)
   | (with_reducible refine LeO.ite ?_ ?_)
   | (with_reducible refine LeO.bind ?_ (fun _ => ?_))
   | exact ih0 _ _ _
   | exact LeO.none _
   | refine LeO.ite ?_ ?_
   | refine LeO.bind ?_ (fun _ => ?_)
set_option maxHeartbeats 8000000 in
set_option maxRecDepth 100000 in
theorem papermillref13_Same.calls (k : Nat) (A0 : Option Addr) (c0 : Nat) (l0 : List (S32)) (A1 : Option Addr) (c1 : Nat) (l1 : List (S32)) (r : Bool) (w : World) (hr0 : Kd.C k32 w A0 l0.length l0) (hc0 : l0.length ≤ c0) (hr1 : Kd.C k32 w A1 l1.length l1) (hc1 : l1.length ≤ c1) (h : papermillref13_Same.f k l0 l1 = some r) :
  Calls Try.prog 20 #[.slice A0 l0.length c0, .slice A1 l1.length c1] w fun e w' => e = .returned (.bool r) ∧ Drawn0 w w' := by
 have hu32 := Try.underlying32
 have HR0 := Aside0.mk hr0
 have HC0 := Aside0.mk hc0
 clear hr0 hc0
 have HR1 := Aside0.mk hr1
 have HC1 := Aside0.mk hc1
 clear hr1 hc1
 have H : (if (l0.length : Int) = (l1.length : Int) then (papermillref13_Same.l0 k l0 l1 0) else (some false)) = some r := h
 clear h
 by_cases c3 : (l0.length : Int) = (l1.length : Int)
 ·rw [if_pos c3] at H
  have c3b0 : ((l0.length : Int) == (l1.length : Int)) = true := beq_iff_eq.mpr c3
  have c3b1 : ((l0.length : Int) != (l1.length : Int)) = false := bne_eq_false_iff_eq.mpr c3
  have c3b2 : (l0.length == l1.length) = true := by first | simpa using c3 | (simp at c3 ⊢; omega)
  clear c3
  have H' := Aside0.mk H
  clear H
  go_enter Try.func20, Try.ntmps20
  go_wp2
  repeat (go_quiet (fail); try go_wp2)
  go_loopg [5] k (fun kq v5 w' => ∃ (x5_1 : Int), v5 = .int .i64 x5_1 ∧ Aside0 (papermillref13_Same.l0 kq l0 l1 x5_1 = some r) ∧ Aside0 (kq ≤ k) ∧ Drawn0 w w')
  case atStart => exact ⟨(0), (by first | rfl | (simp; done) | (simp [*]; done)), H', ⟨Nat.le_refl _⟩, by repeat (first | exact Drawn0.refl _ | apply Drawn0.step)⟩
  case round =>
   clear H'
   try clear c1
   try clear c2
   try clear p2
   try clear c3
   try clear c3b0
   try clear c3b1
   try clear c3b2
   obtain ⟨x5_1, rfl, HA, HK1, ⟨m1, rfl⟩⟩ := hrel
   cases gk with
   | zero => exact absurd HA.out (by simp [papermillref13_Same.l0])
   | succ k1 =>
    have H := HA.out
    clear HA
    simp only [papermillref13_Same.l0] at H
    by_cases c4 : x5_1 < (l0.length : Int)
    ·rw [if_pos c4] at H
     have c4b0 : decide (x5_1 < (l0.length : Int)) = true := decide_eq_true c4
     clear c4
     by_cases c5 : 0 ≤ x5_1
     ·rw [if_pos c5] at H
      have c5b0 : decide (0 ≤ x5_1) = true := decide_eq_true c5
      clear c5
      by_cases c6 : x5_1 < (l1.length : Int)
      ·rw [if_pos c6] at H
       have c6b0 : decide (x5_1 < (l1.length : Int)) = true := decide_eq_true c6
       clear c6
       by_cases c7 : (!(((rd_T32 l0 x5_1).f0) == ((rd_T32 l1 x5_1).f0)) || (!(((rd_T32 l0 x5_1).f1) == ((rd_T32 l1 x5_1).f1)) || (!(((rd_T32 l0 x5_1).f2) == ((rd_T32 l1 x5_1).f2))))) = true
       ·rw [if_pos c7] at H
        have c7b0 : (!(((rd_T32 l0 x5_1).f0) == ((rd_T32 l1 x5_1).f0)) || (!(((rd_T32 l0 x5_1).f1) == ((rd_T32 l1 x5_1).f1)) || (!(((rd_T32 l0 x5_1).f2) == ((rd_T32 l1 x5_1).f2))))) = true := c7
        clear c7
        obtain rfl := Option.some.inj H
        have p21001 : 0 ≤ (x5_1 : Int) := of_decide_eq_true (by assumption)
        have q21001 : x5_1 < (l0.length : Int) := of_decide_eq_true (by assumption)
        obtain ⟨ad21001, e21001, hx21001_0, hx21001_1, hx21001_2⟩ := at_T32 HR0.out x5_1 p21001 q21001
        cases e21001
        replace p21001 := eq_true p21001
        replace q21001 := eq_true q21001
        have p21002 : 0 ≤ (x5_1 : Int) := of_decide_eq_true (by assumption)
        have q21002 : x5_1 < (l1.length : Int) := of_decide_eq_true (by assumption)
        obtain ⟨ad21002, e21002, hx21002_0, hx21002_1, hx21002_2⟩ := at_T32 HR1.out x5_1 p21002 q21002
        cases e21002
        replace p21002 := eq_true p21002
        replace q21002 := eq_true q21002
        go_wp2
        repeat (go_quiet (fail); try go_wp2)
        go_ret
        exact ⟨by first | rfl | (simp; done) | (simp [*]; done), by repeat (first | exact Drawn0.refl _ | apply Drawn0.step)⟩
       ·rw [if_neg c7] at H
        have c7b0 : (!(((rd_T32 l0 x5_1).f0) == ((rd_T32 l1 x5_1).f0)) || (!(((rd_T32 l0 x5_1).f1) == ((rd_T32 l1 x5_1).f1)) || (!(((rd_T32 l0 x5_1).f2) == ((rd_T32 l1 x5_1).f2))))) = false := by simpa using c7
        clear c7
        have H' := Aside0.mk H
        clear H
        have p21001 : 0 ≤ (x5_1 : Int) := of_decide_eq_true (by assumption)
        have q21001 : x5_1 < (l0.length : Int) := of_decide_eq_true (by assumption)
        obtain ⟨ad21001, e21001, hx21001_0, hx21001_1, hx21001_2⟩ := at_T32 HR0.out x5_1 p21001 q21001
        cases e21001
        replace p21001 := eq_true p21001
        replace q21001 := eq_true q21001
        have p21002 : 0 ≤ (x5_1 : Int) := of_decide_eq_true (by assumption)
        have q21002 : x5_1 < (l1.length : Int) := of_decide_eq_true (by assumption)
        obtain ⟨ad21002, e21002, hx21002_0, hx21002_1, hx21002_2⟩ := at_T32 HR1.out x5_1 p21002 q21002
        cases e21002
        replace p21002 := eq_true p21002
        replace q21002 := eq_true q21002
        go_wp2
        repeat (go_quiet (fail); try go_wp2)
        go_roundg k1
        case measure => have := HK1.out; omega
        case rel => exact ⟨(wrap64 (x5_1 + 1)), (by first | rfl | (simp; done) | (simp [*]; done)), H', ⟨by have := HK1.out; omega⟩, by repeat (first | exact Drawn0.refl _ | apply Drawn0.step)⟩
      ·rw [if_neg c6] at H
       exact absurd H (by simp)
     ·rw [if_neg c5] at H
      exact absurd H (by simp)
    ·rw [if_neg c4] at H
     have c4b0 : decide (x5_1 < (l0.length : Int)) = false := decide_eq_false c4
     clear c4
     obtain rfl := Option.some.inj H
     go_wp2
     repeat (go_quiet (fail); try go_wp2)
     go_ret
     exact ⟨by first | rfl | (simp; done) | (simp [*]; done), by repeat (first | exact Drawn0.refl _ | apply Drawn0.step)⟩
 ·rw [if_neg c3] at H
  have c3b0 : ((l0.length : Int) == (l1.length : Int)) = false := beq_eq_false_iff_ne.mpr c3
  have c3b1 : ((l0.length : Int) != (l1.length : Int)) = true := bne_iff_ne.mpr c3
  have c3b2 : (l0.length == l1.length) = false := by first | simpa using c3 | (simp at c3 ⊢; omega)
  obtain rfl := Option.some.inj H
  go_enter Try.func20, Try.ntmps20
  go_wp2
  repeat (go_quiet (fail); try go_wp2)
  go_ret
  exact ⟨by first | rfl | (simp; done) | (simp [*]; done), by repeat (first | exact Drawn0.refl _ | apply Drawn0.step)⟩

end Go.Proofs.Ytcnkmdonbpgjiaa.G

namespace Go.Proofs.Ytcnkmdonbpgjiaa.G
open Go.RowKit Go.Proofs.YtcnkmdonbpgjiaaW.PrintWords Go.Proofs.YtcnkmdonbpgjiaaW.PrintLast Go.Proofs.YtcnkmdonbpgjiaaW.PrintMore
attribute [local go_sem] max2_int min2_int max_two min_two max_three min_three max_four min_four   -- for this text's walks alone
set_option linter.unusedVariables false
set_option linter.unusedSimpArgs false

attribute [local go_sem high] eqA37
def papermillref04_Same.l0 : Nat → List (S37) → List (S37) → Int → Option (Bool)
 | 0, _, _, _ => none
 | k + 1, x0, x1, x5 => if x5 < (x0.length : Int) then (if 0 ≤ x5 then (if x5 < (x1.length : Int) then (if (!(((rd_T37 x0 x5).f0) == ((rd_T37 x1 x5).f0)) || (!(((rd_T37 x0 x5).f1) == ((rd_T37 x1 x5).f1)))) = true then (some false) else (papermillref04_Same.l0 k x0 x1 (wrap64 (x5 + 1)))) else (none)) else (none)) else (some true)
def papermillref04_Same.f (k : Nat) (l0 : List (S37)) (l1 : List (S37)) : Option (Bool) := if (l0.length : Int) = (l1.length : Int) then (papermillref04_Same.l0 k l0 l1 0) else (some false)
theorem papermillref04_Same.mono_l : ∀ k, (∀ y0 y1 y2, LeO (papermillref04_Same.l0 k y0 y1 y2) (papermillref04_Same.l0 (k + 1) y0 y1 y2))
 | 0 => fun _ _ _ r h => by simp [papermillref04_Same.l0] at h
 | k + 1 => by
  have ih0 := papermillref04_Same.mono_l k
  ·intro y0 y1 y2
   unfold papermillref04_Same.l0
   repeat' first
   | (with_reducible exact ih0 _ _ _)
   | (with_reducible exact LeO.refl _)
   | (with_reducible exact LeO.none _)
   | (with_reducible refine LeO.ite ?_ ?_)
   | (with_reducible refine LeO.bind ?_ (fun _ => ?_))
   | exact ih0 _ _ _
   | exact LeO.none _
   | refine LeO.ite ?_ ?_
   | refine LeO.bind ?_ (fun _ => ?_)
theorem papermillref04_Same.mono : ∀ a0 a1 k, LeO (papermillref04_Same.f k a0 a1) (papermillref04_Same.f (k + 1) a0 a1) := by
 intro a0 a1 k
 have ih0 := papermillref04_Same.mono_l k
 unfold papermillref04_Same.f
 repeat' first
   | (with_reducible exact ih0 _ _ _)
   | (with_reducible exact LeO.refl _)
   | (with_reducible exact LeO.none _)
   | (with_reducible refine LeO.ite ?_ ?_)
   | (with_reducible refine LeO.bind ?_ (fun _ => ?_))
   | exact ih0 _ _ _
   | exact LeO.none _
   | refine LeO.ite ?_ ?_
   | refine LeO.bind ?_ (fun _ => ?_)
set_option maxHeartbeats 8000000 in
set_option maxRecDepth 100000 in
theorem papermillref04_Same.calls (k : Nat) (A0 : Option Addr) (c0 : Nat) (l0 : List (S37)) (A1 : Option Addr) (c1 : Nat) (l1 : List (S37)) (r : Bool) (w : World) (hr0 : Kd.C k37 w A0 l0.length l0) (hc0 : l0.length ≤ c0) (hr1 : Kd.C k37 w A1 l1.length l1) (hc1 : l1.length ≤ c1) (h : papermillref04_Same.f k l0 l1 = some r) :
  Calls Try.prog 33 #[.slice A0 l0.length c0, .slice A1 l1.length c1] w fun e w' => e = .returned (.bool r) ∧ Drawn0 w w' := by
 have hu37 := Try.underlying37
 have HR0 := Aside0.mk hr0
 have HC0 := Aside0.mk hc0
 clear hr0 hc0
 have HR1 := Aside0.mk hr1
 have HC1 := Aside0.mk hc1
 clear hr1 hc1
 have H : (if (l0.length : Int) = (l1.length : Int) then (papermillref04_Same.l0 k l0 l1 0) else (some false)) = some r := h
 clear h
 by_cases c3 : (l0.length : Int) = (l1.length : Int)
 ·rw [if_pos c3] at H
  have c3b0 : ((l0.length : Int) == (l1.length : Int)) = true := beq_iff_eq.mpr c3
  have c3b1 : ((l0.length : Int) != (l1.length : Int)) = false := bne_eq_false_iff_eq.mpr c3
  have c3b2 : (l0.length == l1.length) = true := by first | simpa using c3 | (simp at c3 ⊢; omega)
  clear c3
  have H' := Aside0.mk H
  clear H
  go_enter Try.func33, Try.ntmps33
  go_wp2
  repeat (go_quiet (fail); try go_wp2)
  go_loopg [5] k (fun kq v5 w' => ∃ (x5_1 : Int), v5 = .int .i64 x5_1 ∧ Aside0 (papermillref04_Same.l0 kq l0 l1 x5_1 = some r) ∧ Aside0 (kq ≤ k) ∧ Drawn0 w w')
  case atStart => exact ⟨(0), (by first | rfl | (simp; done) | (simp [*]; done)), H', ⟨Nat.le_refl _⟩, by repeat (first | exact Drawn0.refl _ | apply Drawn0.step)⟩
  case round =>
   clear H'
   try clear c1
   try clear p2
   try clear c3
   try clear c3b0
   try clear c3b1
   try clear c3b2
   obtain ⟨x5_1, rfl, HA, HK1, ⟨m1, rfl⟩⟩ := hrel
   cases gk with
   | zero => exact absurd HA.out (by simp [papermillref04_Same.l0])
   | succ k1 =>
    have H := HA.out
    clear HA
    simp only [papermillref04_Same.l0] at H
    by_cases c4 : x5_1 < (l0.length : Int)
    ·rw [if_pos c4] at H
     have c4b0 : decide (x5_1 < (l0.length : Int)) = true := decide_eq_true c4
     clear c4
     by_cases c5 : 0 ≤ x5_1
     ·rw [if_pos c5] at H
      have c5b0 : decide (0 ≤ x5_1) = true := decide_eq_true c5
      clear c5
      by_cases c6 : x5_1 < (l1.length : Int)
      ·rw [if_pos c6] at H
       have c6b0 : decide (x5_1 < (l1.length : Int)) = true := decide_eq_true c6
       clear c6
       by_cases c7 : (!(((rd_T37 l0 x5_1).f0) == ((rd_T37 l1 x5_1).f0)) || (!(((rd_T37 l0 x5_1).f1) == ((rd_T37 l1 x5_1).f1)))) = true
       ·rw [if_pos c7] at H
        have c7b0 : (!(((rd_T37 l0 x5_1).f0) == ((rd_T37 l1 x5_1).f0)) || (!(((rd_T37 l0 x5_1).f1) == ((rd_T37 l1 x5_1).f1)))) = true := c7
        clear c7
        obtain rfl := Option.some.inj H
        have p34001 : 0 ≤ (x5_1 : Int) := of_decide_eq_true (by assumption)
        have q34001 : x5_1 < (l0.length : Int) := of_decide_eq_true (by assumption)
        obtain ⟨ad34001, e34001, hx34001_0, hx34001_1⟩ := at_T37 HR0.out x5_1 p34001 q34001
        cases e34001
        replace p34001 := eq_true p34001
        replace q34001 := eq_true q34001
        have p34002 : 0 ≤ (x5_1 : Int) := of_decide_eq_true (by assumption)
        have q34002 : x5_1 < (l1.length : Int) := of_decide_eq_true (by assumption)
        obtain ⟨ad34002, e34002, hx34002_0, hx34002_1⟩ := at_T37 HR1.out x5_1 p34002 q34002
        cases e34002
        replace p34002 := eq_true p34002
        replace q34002 := eq_true q34002
        go_wp2
        repeat (go_quiet (fail); try go_wp2)
        go_ret
        exact ⟨by first | rfl | (simp; done) | (simp [*]; done), by repeat (first | exact Drawn0.refl _ | apply Drawn0.step)⟩
       ·rw [if_neg c7] at H
        have c7b0 : (!(((rd_T37 l0 x5_1).f0) == ((rd_T37 l1 x5_1).f0)) || (!(((rd_T37 l0 x5_1).f1) == ((rd_T37 l1 x5_1).f1)))) = false := by simpa using c7
        clear c7
        have H' := Aside0.mk H
        clear H
        have p34001 : 0 ≤ (x5_1 : Int) := of_decide_eq_true (by assumption)
        have q34001 : x5_1 < (l0.length : Int) := of_decide_eq_true (by assumption)
        obtain ⟨ad34001, e34001, hx34001_0, hx34001_1⟩ := at_T37 HR0.out x5_1 p34001 q34001
        cases e34001
        replace p34001 := eq_true p34001
        replace q34001 := eq_true q34001
        have p34002 : 0 ≤ (x5_1 : Int) := of_decide_eq_true (by assumption)
        have q34002 : x5_1 < (l1.length : Int) := of_decide_eq_true (by assumption)
        obtain ⟨ad34002, e34002, hx34002_0, hx34002_1⟩ := at_T37 HR1.out x5_1 p34002 q34002
        cases e34002
        replace p34002 := eq_true p34002
        replace q34002 := eq_true q34002
        go_wp2
        repeat (go_quiet (fail); try go_wp2)
        go_roundg k1
        case measure => have := HK1.out; omega
        case rel => exact ⟨(wrap64 (x5_1 + 1)), (by first | rfl | (simp; done) | (simp [*]; done)), H', ⟨by have := HK1.out; omega⟩, by repeat (first | exact Drawn0.refl _ | apply Drawn0.step)⟩
      ·rw [if_neg c6] at H
       exact absurd H (by simp)
     ·rw [if_neg c5] at H
      exact absurd H (by simp)
    ·rw [if_neg c4] at H
     have c4b0 : decide (x5_1 < (l0.length : Int)) = false := decide_eq_false c4
     clear c4
     obtain rfl := Option.some.inj H
     go_wp2
     repeat (go_quiet (fail); try go_wp2)
     go_ret
     exact ⟨by first | rfl | (simp; done) | (simp [*]; done), by repeat (first | exact Drawn0.refl _ | apply Drawn0.step)⟩
 ·rw [if_neg c3] at H
  have c3b0 : ((l0.length : Int) == (l1.length : Int)) = false := beq_eq_false_iff_ne.mpr c3
  have c3b1 : ((l0.length : Int) != (l1.length : Int)) = true := bne_iff_ne.mpr c3
  have c3b2 : (l0.length == l1.length) = false := by first | simpa using c3 | (simp at c3 ⊢; omega)
  obtain rfl := Option.some.inj H
  go_enter Try.func33, Try.ntmps33
  go_wp2
  repeat (go_quiet (fail); try go_wp2)
  go_ret
  exact ⟨by first | rfl | (simp; done) | (simp [*]; done), by repeat (first | exact Drawn0.refl _ | apply Drawn0.step)⟩

end Go.Proofs.Ytcnkmdonbpgjiaa.G

namespace Go.Proofs.Ytcnkmdonbpgjiaa.G
open Go.RowKit Go.Proofs.YtcnkmdonbpgjiaaW.PrintWords Go.Proofs.YtcnkmdonbpgjiaaW.PrintLast Go.Proofs.YtcnkmdonbpgjiaaW.PrintMore
set_option linter.unusedVariables false
set_option linter.unusedSimpArgs false
attribute [local go_sem] max2_int min2_int max_two min_two max_three min_three max_four min_four   -- for this text's walks alone
theorem nilC_papermilllaw13 {α : Type} (d : Kd α) (w : World) : Kd.C d w none ([] : List α).length [] := ⟨rfl, by simp, fun h => absurd h (by simp)⟩
def papermilllaw13_awake.f : Option Bool := some true
set_option maxHeartbeats 16000000 in
set_option maxRecDepth 100000 in
theorem papermilllaw13_awake.calls (r : Bool) (w : World) (h : papermilllaw13_awake.f = some r) : Calls Try.prog 13 #[] w fun e w' => e = .returned (.bool r) ∧ Below w.heap.size w w' := by
  obtain rfl := Option.some.inj h
  have HB := Aside0.mk (Below.refl w.heap.size w)
  go_enter Try.func13, Try.ntmps13
  go_wp2_with fail
  have qL1 : (w.alloc (.cells #[.int .i64 10, .int .i64 3, .bool false, .int .i64 7, .int .i64 2, .bool true] 32)).heap[w.heap.size]? = some (.cells #[.int .i64 10, .int .i64 3, .bool false, .int .i64 7, .int .i64 2, .bool true] 32 (0, 0)) := by have h_ := World.alloc_heap_new w (.cells #[.int .i64 10, .int .i64 3, .bool false, .int .i64 7, .int .i64 2, .bool true] 32); exact h_
  replace HB := Aside0.mk (below_alloc HB.out (.cells #[.int .i64 10, .int .i64 3, .bool false, .int .i64 7, .int .i64 2, .bool true] 32))
  generalize hw_ : (w.alloc (.cells #[.int .i64 10, .int .i64 3, .bool false, .int .i64 7, .int .i64 2, .bool true] 32)) = w2 at qL1 HB ⊢
  have L1 := Aside0.mk (C32_block ([⟨10, 3, false⟩, ⟨7, 2, true⟩] : List (S32)) qL1 rfl (by decide))
  clear hw_ qL1
  refine (iso_At.calls _ _ ([⟨10, 3, false⟩, ⟨7, 2, true⟩] : List (S32)) 2 12 0 _ L1.out (by decide) (show iso_At.f ([⟨10, 3, false⟩, ⟨7, 2, true⟩] : List (S32)) 2 = some (12, 0) from (by kernel_rfl))).mono ?_
  rintro e w3 ⟨rfl, hb⟩
  replace L1 := Aside0.mk (Kd.C_below L1.out hb)
  replace HB := Aside0.mk (below_then HB.out HB.out.size hb)
  clear hb
  go_wp2_with fail
  refine (iso_At.calls _ _ ([⟨10, 3, false⟩, ⟨7, 2, true⟩] : List (S32)) 4 6 0 _ L1.out (by decide) (show iso_At.f ([⟨10, 3, false⟩, ⟨7, 2, true⟩] : List (S32)) 4 = some (6, 0) from (by kernel_rfl))).mono ?_
  rintro e w4 ⟨rfl, hb⟩
  replace L1 := Aside0.mk (Kd.C_below L1.out hb)
  replace HB := Aside0.mk (below_then HB.out HB.out.size hb)
  clear hb
  go_wp2_with fail
  have qL5 : (w4.alloc (.cells #[.int .i64 5, .int .i64 1, .bool false, .int .i64 6, .int .i64 2, .bool false, .int .i64 6, .int .i64 1, .bool false] 32)).heap[w4.heap.size]? = some (.cells #[.int .i64 5, .int .i64 1, .bool false, .int .i64 6, .int .i64 2, .bool false, .int .i64 6, .int .i64 1, .bool false] 32 (0, 0)) := by have h_ := World.alloc_heap_new w4 (.cells #[.int .i64 5, .int .i64 1, .bool false, .int .i64 6, .int .i64 2, .bool false, .int .i64 6, .int .i64 1, .bool false] 32); exact h_
  replace L1 := Aside0.mk (Kd.C_alloc L1.out (.cells #[.int .i64 5, .int .i64 1, .bool false, .int .i64 6, .int .i64 2, .bool false, .int .i64 6, .int .i64 1, .bool false] 32))
  replace HB := Aside0.mk (below_alloc HB.out (.cells #[.int .i64 5, .int .i64 1, .bool false, .int .i64 6, .int .i64 2, .bool false, .int .i64 6, .int .i64 1, .bool false] 32))
  generalize hw_ : (w4.alloc (.cells #[.int .i64 5, .int .i64 1, .bool false, .int .i64 6, .int .i64 2, .bool false, .int .i64 6, .int .i64 1, .bool false] 32)) = w6 at qL5 L1 HB ⊢
  have L5 := Aside0.mk (C32_block ([⟨5, 1, false⟩, ⟨6, 2, false⟩, ⟨6, 1, false⟩] : List (S32)) qL5 rfl (by decide))
  clear hw_ qL5
  refine (iso_Norm.calls _ _ ([⟨5, 1, false⟩, ⟨6, 2, false⟩, ⟨6, 1, false⟩] : List (S32)) ([⟨5, 3, false⟩, ⟨6, 1, false⟩] : List (S32)) 0 _ L5.out (by decide) (show iso_Norm.f ([⟨5, 1, false⟩, ⟨6, 2, false⟩, ⟨6, 1, false⟩] : List (S32)) = some (([⟨5, 3, false⟩, ⟨6, 1, false⟩] : List (S32)), 0) from (by kernel_rfl))).mono ?_
  rintro e w7 ⟨v7_0, rfl, h7_0, hb⟩
  obtain ⟨A7_0, c7_0, e_, hc_L7_0, hr_L7_0⟩ := Kd.R_reads h7_0
  subst e_
  have L7_0 := Aside0.mk hr_L7_0
  have HCL7_0 := Aside0.mk hc_L7_0
  clear hr_L7_0 hc_L7_0 h7_0
  replace L1 := Aside0.mk (Kd.C_below L1.out hb)
  replace L5 := Aside0.mk (Kd.C_below L5.out hb)
  replace HB := Aside0.mk (below_then HB.out HB.out.size hb)
  clear hb
  clear L5
  go_wp2_with fail
  have qL8 : ((w7.alloc (.cells #[.int .i64 2, .int .i64 2, .bool true] 32)).alloc (.cells #[.int .i64 10, .int .i64 5, .bool false] 32)).heap[w7.heap.size]? = some (.cells #[.int .i64 2, .int .i64 2, .bool true] 32 (0, 0)) := by exact blk_alloc (by have h_ := World.alloc_heap_new w7 (.cells #[.int .i64 2, .int .i64 2, .bool true] 32); exact h_) _
  have qL9 : ((w7.alloc (.cells #[.int .i64 2, .int .i64 2, .bool true] 32)).alloc (.cells #[.int .i64 10, .int .i64 5, .bool false] 32)).heap[w7.heap.size + 1]? = some (.cells #[.int .i64 10, .int .i64 5, .bool false] 32 (0, 0)) := by have h_ := World.alloc_heap_new (w7.alloc (.cells #[.int .i64 2, .int .i64 2, .bool true] 32)) (.cells #[.int .i64 10, .int .i64 5, .bool false] 32); (simp only [World.size_alloc] at h_); exact h_
  replace L1 := Aside0.mk (Kd.C_alloc (Kd.C_alloc L1.out (.cells #[.int .i64 2, .int .i64 2, .bool true] 32)) (.cells #[.int .i64 10, .int .i64 5, .bool false] 32))
  replace L7_0 := Aside0.mk (Kd.C_alloc (Kd.C_alloc L7_0.out (.cells #[.int .i64 2, .int .i64 2, .bool true] 32)) (.cells #[.int .i64 10, .int .i64 5, .bool false] 32))
  replace HB := Aside0.mk (below_alloc (below_alloc HB.out (.cells #[.int .i64 2, .int .i64 2, .bool true] 32)) (.cells #[.int .i64 10, .int .i64 5, .bool false] 32))
  generalize hw_ : ((w7.alloc (.cells #[.int .i64 2, .int .i64 2, .bool true] 32)).alloc (.cells #[.int .i64 10, .int .i64 5, .bool false] 32)) = w10 at qL8 qL9 L1 L7_0 HB ⊢
  have L8 := Aside0.mk (C32_block ([⟨2, 2, true⟩] : List (S32)) qL8 rfl (by decide))
  have L9 := Aside0.mk (C32_block ([⟨10, 5, false⟩] : List (S32)) qL9 rfl (by decide))
  clear hw_ qL8 qL9
  refine (iso_Compose.calls _ _ ([⟨2, 2, true⟩] : List (S32)) _ _ ([⟨10, 5, false⟩] : List (S32)) ([⟨12, 2, true⟩] : List (S32)) 0 _ L8.out (by decide) L9.out (by decide) (show iso_Compose.f ([⟨2, 2, true⟩] : List (S32)) ([⟨10, 5, false⟩] : List (S32)) = some (([⟨12, 2, true⟩] : List (S32)), 0) from (by kernel_rfl))).mono ?_
  rintro e w11 ⟨v11_0, rfl, h11_0, hb⟩
  obtain ⟨A11_0, c11_0, e_, hc_L11_0, hr_L11_0⟩ := Kd.R_reads h11_0
  subst e_
  have L11_0 := Aside0.mk hr_L11_0
  have HCL11_0 := Aside0.mk hc_L11_0
  clear hr_L11_0 hc_L11_0 h11_0
  replace L1 := Aside0.mk (Kd.C_below L1.out hb)
  replace L7_0 := Aside0.mk (Kd.C_below L7_0.out hb)
  replace L8 := Aside0.mk (Kd.C_below L8.out hb)
  replace L9 := Aside0.mk (Kd.C_below L9.out hb)
  replace HB := Aside0.mk (below_then HB.out HB.out.size hb)
  clear hb
  clear L8
  clear L9
  go_wp2_with fail
  have qL12 : (w11.alloc (.cells #[.int .i64 10, .int .i64 3, .bool false] 32)).heap[w11.heap.size]? = some (.cells #[.int .i64 10, .int .i64 3, .bool false] 32 (0, 0)) := by have h_ := World.alloc_heap_new w11 (.cells #[.int .i64 10, .int .i64 3, .bool false] 32); exact h_
  replace L1 := Aside0.mk (Kd.C_alloc L1.out (.cells #[.int .i64 10, .int .i64 3, .bool false] 32))
  replace L7_0 := Aside0.mk (Kd.C_alloc L7_0.out (.cells #[.int .i64 10, .int .i64 3, .bool false] 32))
  replace L11_0 := Aside0.mk (Kd.C_alloc L11_0.out (.cells #[.int .i64 10, .int .i64 3, .bool false] 32))
  replace HB := Aside0.mk (below_alloc HB.out (.cells #[.int .i64 10, .int .i64 3, .bool false] 32))
  generalize hw_ : (w11.alloc (.cells #[.int .i64 10, .int .i64 3, .bool false] 32)) = w13 at qL12 L1 L7_0 L11_0 HB ⊢
  have L12 := Aside0.mk (C32_block ([⟨10, 3, false⟩] : List (S32)) qL12 rfl (by decide))
  clear hw_ qL12
  refine (iso_Reverse.calls _ _ ([⟨10, 3, false⟩] : List (S32)) ([⟨12, 3, true⟩] : List (S32)) 0 _ L12.out (by decide) (show iso_Reverse.f ([⟨10, 3, false⟩] : List (S32)) = some (([⟨12, 3, true⟩] : List (S32)), 0) from (by kernel_rfl))).mono ?_
  rintro e w14 ⟨v14_0, rfl, h14_0, hb⟩
  obtain ⟨A14_0, c14_0, e_, hc_L14_0, hr_L14_0⟩ := Kd.R_reads h14_0
  subst e_
  have L14_0 := Aside0.mk hr_L14_0
  have HCL14_0 := Aside0.mk hc_L14_0
  clear hr_L14_0 hc_L14_0 h14_0
  replace L1 := Aside0.mk (Kd.C_below L1.out hb)
  replace L7_0 := Aside0.mk (Kd.C_below L7_0.out hb)
  replace L11_0 := Aside0.mk (Kd.C_below L11_0.out hb)
  replace L12 := Aside0.mk (Kd.C_below L12.out hb)
  replace HB := Aside0.mk (below_then HB.out HB.out.size hb)
  clear hb
  clear L12
  go_wp2_with fail
  have qL15 : (w14.alloc (.cells #[.int .i64 10, .int .i64 3, .bool false, .int .i64 10, .int .i64 3, .bool false] 32)).heap[w14.heap.size]? = some (.cells #[.int .i64 10, .int .i64 3, .bool false, .int .i64 10, .int .i64 3, .bool false] 32 (0, 0)) := by have h_ := World.alloc_heap_new w14 (.cells #[.int .i64 10, .int .i64 3, .bool false, .int .i64 10, .int .i64 3, .bool false] 32); exact h_
  replace L1 := Aside0.mk (Kd.C_alloc L1.out (.cells #[.int .i64 10, .int .i64 3, .bool false, .int .i64 10, .int .i64 3, .bool false] 32))
  replace L7_0 := Aside0.mk (Kd.C_alloc L7_0.out (.cells #[.int .i64 10, .int .i64 3, .bool false, .int .i64 10, .int .i64 3, .bool false] 32))
  replace L11_0 := Aside0.mk (Kd.C_alloc L11_0.out (.cells #[.int .i64 10, .int .i64 3, .bool false, .int .i64 10, .int .i64 3, .bool false] 32))
  replace L14_0 := Aside0.mk (Kd.C_alloc L14_0.out (.cells #[.int .i64 10, .int .i64 3, .bool false, .int .i64 10, .int .i64 3, .bool false] 32))
  replace HB := Aside0.mk (below_alloc HB.out (.cells #[.int .i64 10, .int .i64 3, .bool false, .int .i64 10, .int .i64 3, .bool false] 32))
  generalize hw_ : (w14.alloc (.cells #[.int .i64 10, .int .i64 3, .bool false, .int .i64 10, .int .i64 3, .bool false] 32)) = w16 at qL15 L1 L7_0 L11_0 L14_0 HB ⊢
  have L15 := Aside0.mk (C32_block ([⟨10, 3, false⟩, ⟨10, 3, false⟩] : List (S32)) qL15 rfl (by decide))
  clear hw_ qL15
  obtain ⟨kq1, hq1⟩ := (show Ends (fun k => iso_Find.f k ([⟨10, 3, false⟩, ⟨10, 3, false⟩] : List (S32)) 11 12) (([⟨1, 2⟩, ⟨4, 5⟩] : List (S37)), 0) from (ifind_ends ([⟨10, 3, false⟩, ⟨10, 3, false⟩] : List (S32)) 11 12).congr (by kernel_rfl)).get
  refine (iso_Find.calls kq1 _ _ ([⟨10, 3, false⟩, ⟨10, 3, false⟩] : List (S32)) 11 12 ([⟨1, 2⟩, ⟨4, 5⟩] : List (S37)) 0 _ L15.out (by decide) hq1).mono ?_
  rintro e w17 ⟨v17_0, rfl, h17_0, hb⟩
  obtain ⟨A17_0, c17_0, e_, hc_L17_0, hr_L17_0⟩ := Kd.R_reads h17_0
  subst e_
  have L17_0 := Aside0.mk hr_L17_0
  have HCL17_0 := Aside0.mk hc_L17_0
  clear hr_L17_0 hc_L17_0 h17_0
  replace L1 := Aside0.mk (Kd.C_below L1.out hb)
  replace L7_0 := Aside0.mk (Kd.C_below L7_0.out hb)
  replace L11_0 := Aside0.mk (Kd.C_below L11_0.out hb)
  replace L14_0 := Aside0.mk (Kd.C_below L14_0.out hb)
  replace L15 := Aside0.mk (Kd.C_below L15.out hb)
  replace HB := Aside0.mk (below_then HB.out HB.out.size hb)
  clear hb
  clear L15
  go_wp2_with fail
  have qL18 : (w17.alloc (.cells #[.int .i64 5, .int .i64 3, .bool false, .int .i64 6, .int .i64 1, .bool false] 32)).heap[w17.heap.size]? = some (.cells #[.int .i64 5, .int .i64 3, .bool false, .int .i64 6, .int .i64 1, .bool false] 32 (0, 0)) := by have h_ := World.alloc_heap_new w17 (.cells #[.int .i64 5, .int .i64 3, .bool false, .int .i64 6, .int .i64 1, .bool false] 32); exact h_
  replace L1 := Aside0.mk (Kd.C_alloc L1.out (.cells #[.int .i64 5, .int .i64 3, .bool false, .int .i64 6, .int .i64 1, .bool false] 32))
  replace L7_0 := Aside0.mk (Kd.C_alloc L7_0.out (.cells #[.int .i64 5, .int .i64 3, .bool false, .int .i64 6, .int .i64 1, .bool false] 32))
  replace L11_0 := Aside0.mk (Kd.C_alloc L11_0.out (.cells #[.int .i64 5, .int .i64 3, .bool false, .int .i64 6, .int .i64 1, .bool false] 32))
  replace L14_0 := Aside0.mk (Kd.C_alloc L14_0.out (.cells #[.int .i64 5, .int .i64 3, .bool false, .int .i64 6, .int .i64 1, .bool false] 32))
  replace L17_0 := Aside0.mk (Kd.C_alloc L17_0.out (.cells #[.int .i64 5, .int .i64 3, .bool false, .int .i64 6, .int .i64 1, .bool false] 32))
  replace HB := Aside0.mk (below_alloc HB.out (.cells #[.int .i64 5, .int .i64 3, .bool false, .int .i64 6, .int .i64 1, .bool false] 32))
  generalize hw_ : (w17.alloc (.cells #[.int .i64 5, .int .i64 3, .bool false, .int .i64 6, .int .i64 1, .bool false] 32)) = w19 at qL18 L1 L7_0 L11_0 L14_0 L17_0 HB ⊢
  have L18 := Aside0.mk (C32_block ([⟨5, 3, false⟩, ⟨6, 1, false⟩] : List (S32)) qL18 rfl (by decide))
  clear hw_ qL18
  refine (papermillref13_Same.calls 60 _ _ ([⟨5, 3, false⟩, ⟨6, 1, false⟩] : List (S32)) _ _ ([⟨5, 3, false⟩, ⟨6, 1, false⟩] : List (S32)) true _ L7_0.out HCL7_0.out L18.out (by decide) (show papermillref13_Same.f 60 ([⟨5, 3, false⟩, ⟨6, 1, false⟩] : List (S32)) ([⟨5, 3, false⟩, ⟨6, 1, false⟩] : List (S32)) = some true from (by kernel_rfl))).mono ?_
  rintro e w20 ⟨rfl, hd⟩
  replace L1 := Aside0.mk (Kd.C_below L1.out hd.below)
  replace L7_0 := Aside0.mk (Kd.C_below L7_0.out hd.below)
  replace L11_0 := Aside0.mk (Kd.C_below L11_0.out hd.below)
  replace L14_0 := Aside0.mk (Kd.C_below L14_0.out hd.below)
  replace L17_0 := Aside0.mk (Kd.C_below L17_0.out hd.below)
  replace L18 := Aside0.mk (Kd.C_below L18.out hd.below)
  replace HB := Aside0.mk (below_then HB.out HB.out.size hd.below)
  clear hd
  clear L7_0 HCL7_0
  clear L18
  go_wp2_with fail
  have qL21 : (w20.alloc (.cells #[.int .i64 12, .int .i64 2, .bool true] 32)).heap[w20.heap.size]? = some (.cells #[.int .i64 12, .int .i64 2, .bool true] 32 (0, 0)) := by have h_ := World.alloc_heap_new w20 (.cells #[.int .i64 12, .int .i64 2, .bool true] 32); exact h_
  replace L1 := Aside0.mk (Kd.C_alloc L1.out (.cells #[.int .i64 12, .int .i64 2, .bool true] 32))
  replace L11_0 := Aside0.mk (Kd.C_alloc L11_0.out (.cells #[.int .i64 12, .int .i64 2, .bool true] 32))
  replace L14_0 := Aside0.mk (Kd.C_alloc L14_0.out (.cells #[.int .i64 12, .int .i64 2, .bool true] 32))
  replace L17_0 := Aside0.mk (Kd.C_alloc L17_0.out (.cells #[.int .i64 12, .int .i64 2, .bool true] 32))
  replace HB := Aside0.mk (below_alloc HB.out (.cells #[.int .i64 12, .int .i64 2, .bool true] 32))
  generalize hw_ : (w20.alloc (.cells #[.int .i64 12, .int .i64 2, .bool true] 32)) = w22 at qL21 L1 L11_0 L14_0 L17_0 HB ⊢
  have L21 := Aside0.mk (C32_block ([⟨12, 2, true⟩] : List (S32)) qL21 rfl (by decide))
  clear hw_ qL21
  refine (papermillref13_Same.calls 60 _ _ ([⟨12, 2, true⟩] : List (S32)) _ _ ([⟨12, 2, true⟩] : List (S32)) true _ L11_0.out HCL11_0.out L21.out (by decide) (show papermillref13_Same.f 60 ([⟨12, 2, true⟩] : List (S32)) ([⟨12, 2, true⟩] : List (S32)) = some true from (by kernel_rfl))).mono ?_
  rintro e w23 ⟨rfl, hd⟩
  replace L1 := Aside0.mk (Kd.C_below L1.out hd.below)
  replace L11_0 := Aside0.mk (Kd.C_below L11_0.out hd.below)
  replace L14_0 := Aside0.mk (Kd.C_below L14_0.out hd.below)
  replace L17_0 := Aside0.mk (Kd.C_below L17_0.out hd.below)
  replace L21 := Aside0.mk (Kd.C_below L21.out hd.below)
  replace HB := Aside0.mk (below_then HB.out HB.out.size hd.below)
  clear hd
  clear L11_0 HCL11_0
  clear L21
  go_wp2_with fail
  have qL24 : (w23.alloc (.cells #[.int .i64 12, .int .i64 3, .bool true] 32)).heap[w23.heap.size]? = some (.cells #[.int .i64 12, .int .i64 3, .bool true] 32 (0, 0)) := by have h_ := World.alloc_heap_new w23 (.cells #[.int .i64 12, .int .i64 3, .bool true] 32); exact h_
  replace L1 := Aside0.mk (Kd.C_alloc L1.out (.cells #[.int .i64 12, .int .i64 3, .bool true] 32))
  replace L14_0 := Aside0.mk (Kd.C_alloc L14_0.out (.cells #[.int .i64 12, .int .i64 3, .bool true] 32))
  replace L17_0 := Aside0.mk (Kd.C_alloc L17_0.out (.cells #[.int .i64 12, .int .i64 3, .bool true] 32))
  replace HB := Aside0.mk (below_alloc HB.out (.cells #[.int .i64 12, .int .i64 3, .bool true] 32))
  generalize hw_ : (w23.alloc (.cells #[.int .i64 12, .int .i64 3, .bool true] 32)) = w25 at qL24 L1 L14_0 L17_0 HB ⊢
  have L24 := Aside0.mk (C32_block ([⟨12, 3, true⟩] : List (S32)) qL24 rfl (by decide))
  clear hw_ qL24
  refine (papermillref13_Same.calls 60 _ _ ([⟨12, 3, true⟩] : List (S32)) _ _ ([⟨12, 3, true⟩] : List (S32)) true _ L14_0.out HCL14_0.out L24.out (by decide) (show papermillref13_Same.f 60 ([⟨12, 3, true⟩] : List (S32)) ([⟨12, 3, true⟩] : List (S32)) = some true from (by kernel_rfl))).mono ?_
  rintro e w26 ⟨rfl, hd⟩
  replace L1 := Aside0.mk (Kd.C_below L1.out hd.below)
  replace L14_0 := Aside0.mk (Kd.C_below L14_0.out hd.below)
  replace L17_0 := Aside0.mk (Kd.C_below L17_0.out hd.below)
  replace L24 := Aside0.mk (Kd.C_below L24.out hd.below)
  replace HB := Aside0.mk (below_then HB.out HB.out.size hd.below)
  clear hd
  clear L14_0 HCL14_0
  clear L24
  go_wp2_with fail
  have qL27 : (w26.alloc (.cells #[.int .i64 1, .int .i64 2, .int .i64 4, .int .i64 5] 37)).heap[w26.heap.size]? = some (.cells #[.int .i64 1, .int .i64 2, .int .i64 4, .int .i64 5] 37 (0, 0)) := by have h_ := World.alloc_heap_new w26 (.cells #[.int .i64 1, .int .i64 2, .int .i64 4, .int .i64 5] 37); exact h_
  replace L1 := Aside0.mk (Kd.C_alloc L1.out (.cells #[.int .i64 1, .int .i64 2, .int .i64 4, .int .i64 5] 37))
  replace L17_0 := Aside0.mk (Kd.C_alloc L17_0.out (.cells #[.int .i64 1, .int .i64 2, .int .i64 4, .int .i64 5] 37))
  replace HB := Aside0.mk (below_alloc HB.out (.cells #[.int .i64 1, .int .i64 2, .int .i64 4, .int .i64 5] 37))
  generalize hw_ : (w26.alloc (.cells #[.int .i64 1, .int .i64 2, .int .i64 4, .int .i64 5] 37)) = w28 at qL27 L1 L17_0 HB ⊢
  have L27 := Aside0.mk (C37_block ([⟨1, 2⟩, ⟨4, 5⟩] : List (S37)) qL27 rfl (by decide))
  clear hw_ qL27
  refine (papermillref04_Same.calls 60 _ _ ([⟨1, 2⟩, ⟨4, 5⟩] : List (S37)) _ _ ([⟨1, 2⟩, ⟨4, 5⟩] : List (S37)) true _ L17_0.out HCL17_0.out L27.out (by decide) (show papermillref04_Same.f 60 ([⟨1, 2⟩, ⟨4, 5⟩] : List (S37)) ([⟨1, 2⟩, ⟨4, 5⟩] : List (S37)) = some true from (by kernel_rfl))).mono ?_
  rintro e w29 ⟨rfl, hd⟩
  replace L1 := Aside0.mk (Kd.C_below L1.out hd.below)
  replace L17_0 := Aside0.mk (Kd.C_below L17_0.out hd.below)
  replace L27 := Aside0.mk (Kd.C_below L27.out hd.below)
  replace HB := Aside0.mk (below_then HB.out HB.out.size hd.below)
  clear hd
  clear L17_0 HCL17_0
  clear L27
  go_wp2_with fail
  obtain ⟨kq2, hq2⟩ := (show Ends (fun k => iso_Single.f k ([⟨10, 3, false⟩, ⟨7, 2, true⟩] : List (S32))) true from (isingle_ends ([⟨10, 3, false⟩, ⟨7, 2, true⟩] : List (S32))).congr (by kernel_rfl)).get
  refine (iso_Single.calls kq2 _ _ ([⟨10, 3, false⟩, ⟨7, 2, true⟩] : List (S32)) true _ L1.out (by decide) hq2).mono ?_
  rintro e w30 ⟨rfl, hb⟩
  replace L1 := Aside0.mk (Kd.C_below L1.out hb)
  replace HB := Aside0.mk (below_then HB.out HB.out.size hb)
  clear hb
  clear L1
  go_wp2_with fail
  have qL31 : (w30.alloc (.cells #[.int .i64 4, .int .i64 2, .bool false, .int .i64 5, .int .i64 1, .bool false] 32)).heap[w30.heap.size]? = some (.cells #[.int .i64 4, .int .i64 2, .bool false, .int .i64 5, .int .i64 1, .bool false] 32 (0, 0)) := by have h_ := World.alloc_heap_new w30 (.cells #[.int .i64 4, .int .i64 2, .bool false, .int .i64 5, .int .i64 1, .bool false] 32); exact h_
  replace HB := Aside0.mk (below_alloc HB.out (.cells #[.int .i64 4, .int .i64 2, .bool false, .int .i64 5, .int .i64 1, .bool false] 32))
  generalize hw_ : (w30.alloc (.cells #[.int .i64 4, .int .i64 2, .bool false, .int .i64 5, .int .i64 1, .bool false] 32)) = w32 at qL31 HB ⊢
  have L31 := Aside0.mk (C32_block ([⟨4, 2, false⟩, ⟨5, 1, false⟩] : List (S32)) qL31 rfl (by decide))
  clear hw_ qL31
  obtain ⟨kq3, hq3⟩ := (show Ends (fun k => iso_Single.f k ([⟨4, 2, false⟩, ⟨5, 1, false⟩] : List (S32))) false from (isingle_ends ([⟨4, 2, false⟩, ⟨5, 1, false⟩] : List (S32))).congr (by kernel_rfl)).get
  refine (iso_Single.calls kq3 _ _ ([⟨4, 2, false⟩, ⟨5, 1, false⟩] : List (S32)) false _ L31.out (by decide) hq3).mono ?_
  rintro e w33 ⟨rfl, hb⟩
  replace L31 := Aside0.mk (Kd.C_below L31.out hb)
  replace HB := Aside0.mk (below_then HB.out HB.out.size hb)
  clear hb
  clear L31
  go_wp2
  go_ret
  exact ⟨rfl, HB.out⟩
end Go.Proofs.Ytcnkmdonbpgjiaa.G

namespace Go.Proofs.Ytcnkmdonbpgjiaa.G
open Go.RowKit Go.Proofs.YtcnkmdonbpgjiaaW.PrintWords Go.Proofs.YtcnkmdonbpgjiaaW.PrintLast Go.Proofs.YtcnkmdonbpgjiaaW.PrintMore
open Go.ChangeShapes Go.WideShapes Go.Deep
set_option linter.unusedVariables false
set_option linter.unusedSimpArgs false

theorem pick_list {α : Type} {Q : Nat → α → Prop} : ∀ (n : Nat), (∀ i, i < n → ∃ v, Q i v) → ∃ l : List α, l.length = n ∧ ∀ i v, l[i]? = some v → Q i v
  | 0, _ => ⟨[], rfl, fun i v h => by simp at h⟩
  | n + 1, h => by
    obtain ⟨l, hl, hv⟩ := pick_list n (fun i hi => h i (by omega))
    obtain ⟨v, hv1⟩ := h n (by omega)
    refine ⟨l ++ [v], by simp [hl], fun i u hu => ?_⟩
    rcases Nat.lt_or_ge i l.length with h1 | h1
    · rw [List.getElem?_append_left h1] at hu; exact hv i u hu
    · have e : i = l.length := by
        have := (List.getElem?_eq_some_iff.1 hu).1; simp at this; omega
      subst e
      have : v = u := by simpa using hu
      subst this
      rw [hl]; exact hv1
def Opens {α : Type} (P : Program) (d : Kd α) (t : TypeId) (Wf : α → Prop) : Prop :=
  ∀ {H : Type} (enc : TypeId × Value → H) (W : World) (fuel : Nat) (cs : List Value) (x : DataW H × List MemPlace), DataW.trod enc P W 0 (fun _ => true) true fuel t cs = some x → ∃ v : α, d.K W v cs ∧ Wf v
theorem Opens.int {P : Program} {t : TypeId} {k : IntKind} (ht : P.underlying t = some (.int k)) : Opens P (Kd.int k) t (fun n => (Lit.int k n).wf = true) :=
  fun enc W fuel cs x h => by obtain ⟨n, rfl, _, hw⟩ := DataW.trod_int ht h; exact ⟨n, rfl, hw⟩
theorem Opens.bool {P : Program} {t : TypeId} (ht : P.underlying t = some .bool) : Opens P Kd.bool t (fun _ => True) :=
  fun enc W fuel cs x h => by obtain ⟨n, rfl, _⟩ := DataW.trod_bool ht h; exact ⟨n, rfl, trivial⟩
theorem Opens.slice {α : Type} {P : Program} {t e : TypeId} {d : Kd α} {Wf : α → Prop} (ht : P.underlying t = some (.slice e)) (hC : P.cellsOf e = d.sz) (h : Opens P d e Wf) :
    Opens P (Kd.slice e d) t (fun l => l.length ≤ maxLen ∧ ∀ x ∈ l, Wf x) := by
  intro H enc W fuel cs x hx
  rcases open_slice ht hx with ⟨rfl, _⟩ | ⟨a, len, cap, m, n, D, Pl, rfl, _, hl, hm, hmm, _, hi⟩
  · exact ⟨[], ⟨none, 0, rfl, Nat.le_refl _, rfl, by simp, fun h => absurd h (by simp)⟩, by simp, fun x h => by simp at h⟩
  · have hml : len ≤ m := by rw [hmm]; simp only [if_true]; exact hl
    have key : ∀ i, i < len → ∃ v : α, (∃ c, c.length = d.sz ∧ d.K W v c ∧ ∀ q u, c[q]? = some u → W.cell? (a.add (i * d.sz + q)) = some u) ∧ Wf v := by
      intro i hil
      obtain ⟨cs', hc, ht'⟩ := hi i (by omega)
      rw [hC] at hc
      obtain ⟨_, hcl, hat⟩ := World.cells?_some hc
      obtain ⟨v, hK, hw⟩ := h enc W n cs' _ ht'
      refine ⟨v, ⟨cs', d.K_len hK, hK, fun q u hq => ?_⟩, hw⟩
      have hql : q < d.sz := by rw [← d.K_len hK]; exact (List.getElem?_eq_some_iff.1 hq).1
      have := hat q hql
      rw [← Go.Deep.add_add, this]; exact hq
    obtain ⟨l, rfl, hv⟩ := pick_list len key
    refine ⟨l, ⟨some a, cap, rfl, hl, rfl, by unfold maxLen at hm; omega, fun _ => ⟨a, rfl, fun j p hj => (hv j p hj).1⟩⟩, Nat.le_trans hl hm, fun x hx => ?_⟩
    obtain ⟨i, hi', rfl⟩ := List.getElem_of_mem hx
    exact (hv i _ (List.getElem?_eq_getElem hi')).2

def wf_32 (s : S32) : Prop := (Lit.int .i64 s.f0).wf = true ∧ (Lit.int .i64 s.f1).wf = true ∧ True
theorem cells_32 : Try.prog.cellsOf 32 = 3 := by kernel_rfl
theorem cells1_3 : Try.prog.cellsOf 3 = 1 := by kernel_rfl
theorem cells1_4 : Try.prog.cellsOf 4 = 1 := by kernel_rfl
set_option maxRecDepth 100000 in
theorem opens_32 : Opens Try.prog k32 32 wf_32 := by
  intro H enc W fuel cs x h
  obtain ⟨xs, n, rfl, rfl, hlen, hxl, hf⟩ := DataW.trod_struct Try.underlying32 h
  rw [cells_32] at hlen
  match cs, hlen with
  | [c0, c1, c2], _ =>
    match xs, hxl with
    | [y0, y1, y2], _ =>
      have e0 : DataW.trod enc Try.prog W 0 (fun _ => true) true n 3 (([c0, c1, c2].drop 0).take (Try.prog.cellsOf 3)) = some y0 := hf 0 _ rfl
      rw [cells1_3] at e0
      have e1 : DataW.trod enc Try.prog W 0 (fun _ => true) true n 3 (([c0, c1, c2].drop 1).take (Try.prog.cellsOf 3)) = some y1 := hf 1 _ rfl
      rw [cells1_3] at e1
      have e2 : DataW.trod enc Try.prog W 0 (fun _ => true) true n 4 (([c0, c1, c2].drop 2).take (Try.prog.cellsOf 4)) = some y2 := hf 2 _ rfl
      rw [cells1_4] at e2
      obtain ⟨v0, q0, w0⟩ := (Opens.int Try.underlying3) enc W n [c0] y0 e0
      cases q0
      obtain ⟨v1, q1, w1⟩ := (Opens.int Try.underlying3) enc W n [c1] y1 e1
      cases q1
      obtain ⟨v2, q2, w2⟩ := (Opens.bool Try.underlying4) enc W n [c2] y2 e2
      cases q2
      exact ⟨⟨v0, v1, v2⟩, k32_mk _ _, w0, w1, w2⟩
def wf_37 (s : S37) : Prop := (Lit.int .i64 s.f0).wf = true ∧ (Lit.int .i64 s.f1).wf = true
theorem cells_37 : Try.prog.cellsOf 37 = 2 := by kernel_rfl
set_option maxRecDepth 100000 in
theorem opens_37 : Opens Try.prog k37 37 wf_37 := by
  intro H enc W fuel cs x h
  obtain ⟨xs, n, rfl, rfl, hlen, hxl, hf⟩ := DataW.trod_struct Try.underlying37 h
  rw [cells_37] at hlen
  match cs, hlen with
  | [c0, c1], _ =>
    match xs, hxl with
    | [y0, y1], _ =>
      have e0 : DataW.trod enc Try.prog W 0 (fun _ => true) true n 3 (([c0, c1].drop 0).take (Try.prog.cellsOf 3)) = some y0 := hf 0 _ rfl
      rw [cells1_3] at e0
      have e1 : DataW.trod enc Try.prog W 0 (fun _ => true) true n 3 (([c0, c1].drop 1).take (Try.prog.cellsOf 3)) = some y1 := hf 1 _ rfl
      rw [cells1_3] at e1
      obtain ⟨v0, q0, w0⟩ := (Opens.int Try.underlying3) enc W n [c0] y0 e0
      cases q0
      obtain ⟨v1, q1, w1⟩ := (Opens.int Try.underlying3) enc W n [c1] y1 e1
      cases q1
      exact ⟨⟨v0, v1⟩, k37_mk _ _, w0, w1⟩
end Go.Proofs.Ytcnkmdonbpgjiaa.G

namespace Go.Proofs.Ytcnkmdonbpgjiaa.G
open Go.RowKit Go.Proofs.YtcnkmdonbpgjiaaW.PrintWords Go.Proofs.YtcnkmdonbpgjiaaW.PrintLast Go.Proofs.YtcnkmdonbpgjiaaW.PrintMore
attribute [local go_sem] max2_int min2_int max_two min_two max_three min_three max_four min_four   -- for this text's walks alone
set_option linter.unusedVariables false
set_option linter.unusedSimpArgs false

def papermilllaw13_great.f (l0 : List (S32)) : Option (Bool) := some (decide ((l0.length : Int) > 300))
set_option maxHeartbeats 8000000 in
set_option maxRecDepth 100000 in
theorem papermilllaw13_great.calls (A0 : Option Addr) (c0 : Nat) (l0 : List (S32)) (r : Bool) (w : World) (hr0 : Kd.C k32 w A0 l0.length l0) (hc0 : l0.length ≤ c0) (h : papermilllaw13_great.f l0 = some r) :
    Calls Try.prog 12 #[.slice A0 l0.length c0] w fun e w' => e = .returned (.bool r) ∧ Drawn0 w w' := by
  have HR0 := Aside0.mk hr0
  have HC0 := Aside0.mk hc0
  clear hr0 hc0
  have H : (some (decide ((l0.length : Int) > 300))) = some r := h
  clear h
  obtain rfl := Option.some.inj H
  go_enter Try.func12, Try.ntmps12
  go_wp2
  go_ret
  exact ⟨by first | rfl | (simp; done) | (simp [*]; done), by repeat (first | exact Drawn0.refl _ | apply Drawn0.step)⟩

end Go.Proofs.Ytcnkmdonbpgjiaa.G
