import Derived.Test.YtjkakgkiikjdmaaQ1
import Derived.Test.YtjkakgkiikjdmaaQ3
import Derived.Test.YtjkakgkiikjdmaaQ4
import Derived.Test.YtjkakgkiikjdmaaK5
namespace Go.Proofs.Ytjkakgkiikjdmaa.G
open Go.RowKit Go.Proofs.YtjkakgkiikjdmaaW.PrintWords Go.Proofs.YtjkakgkiikjdmaaW.PrintLast Go.Proofs.YtjkakgkiikjdmaaW.PrintMore
attribute [local go_sem] max2_int min2_int max_two min_two max_three min_three max_four min_four   -- for this text's walks alone
set_option linter.unusedVariables false
set_option linter.unusedSimpArgs false

mutual
def papermilllaw40_SpliceKeeps.j0 : Nat → Int → List (S49) → List (S49) → Bool → Int → Int → Option (Bool)
 | 0, _, _, _, _, _, _ => none
 | k + 1, x0, x1, x7, x48, x10002000, x10002001 => if x48 = true then (some false) else (papermilllaw40_SpliceKeeps.l0 k x0 x1 x7 0 x10002000 x10002001)
def papermilllaw40_SpliceKeeps.l0 : Nat → Int → List (S49) → List (S49) → Int → Int → Int → Option (Bool)
 | 0, _, _, _, _, _, _ => none
 | k + 1, x0, x1, x7, x9, x10002000, x10002001 => if x9 < (x7.length : Int) then (if 0 ≤ x9 then (if ((rd_T49 x7 x9).f0) < 0 then (some false) else (if ((rd_T49 x7 x9).f1) > x0 then (some false) else (if (wrap64 (((rd_T49 x7 x9).f1) - ((rd_T49 x7 x9).f0))) < x10002000 then (some false) else (if x9 > 0 then (if 0 ≤ (wrap64 (x9 - 1)) then (if (wrap64 (x9 - 1)) < (x7.length : Int) then (if ((rd_T49 x7 x9).f0) ≤ ((rd_T49 x7 (wrap64 (x9 - 1))).f1) then (some false) else (papermilllaw40_SpliceKeeps.l0 k x0 x1 x7 (wrap64 (x9 + 1)) x10002000 x10002001)) else (none)) else (none)) else (papermilllaw40_SpliceKeeps.l0 k x0 x1 x7 (wrap64 (x9 + 1)) x10002000 x10002001))))) else (none)) else ((span_Common.f k x7 x1).bind fun bt10015 => ((span_Total.f k x7).bind fun bt10019 => ((splice_Waste.f k x0 x1 x10002000).bind fun bt10021 => (if bt10015.2 = 0 then (if (bt10015.1.length : Int) = 0 then (if bt10019.2 = 0 then (if bt10021.2 = 0 then (papermilllaw40_SpliceKeeps.j2 k x0 x1 x7 ((wrap64 (bt10019.1 + bt10021.1)) != x0) x10002000 x10002001) else (papermilllaw40_SpliceKeeps.j2 k x0 x1 x7 true x10002000 x10002001)) else (papermilllaw40_SpliceKeeps.j2 k x0 x1 x7 true x10002000 x10002001)) else (papermilllaw40_SpliceKeeps.j2 k x0 x1 x7 true x10002000 x10002001)) else (papermilllaw40_SpliceKeeps.j2 k x0 x1 x7 true x10002000 x10002001)))))
def papermilllaw40_SpliceKeeps.j2 : Nat → Int → List (S49) → List (S49) → Bool → Int → Int → Option (Bool)
 | 0, _, _, _, _, _, _ => none
 | k + 1, x0, x1, x7, x144, x10002000, x10002001 => if x144 = true then (some false) else (if x10002001 < 0 then (papermilllaw40_SpliceKeeps.j3 k x0 x1 true x10002000 x10002001) else (if x10002001 ≥ x0 then (papermilllaw40_SpliceKeeps.j3 k x0 x1 true x10002000 x10002001) else ((span_Has.f x1 x10002001).bind fun t10023 => (if t10023 = true then (papermilllaw40_SpliceKeeps.j3 k x0 x1 true x10002000 x10002001) else ((span_Has.f x7 x10002001).bind fun t10024 => (papermilllaw40_SpliceKeeps.j3 k x0 x1 t10024 x10002000 x10002001))))))
def papermilllaw40_SpliceKeeps.j3 : Nat → Int → List (S49) → Bool → Int → Int → Option (Bool)
 | 0, _, _, _, _, _ => none
 | k + 1, x0, x1, x165, x10002000, x10002001 => if x165 = true then ((papermilllaw40_awake.f).bind fun t10025 => (some t10025)) else (papermilllaw40_SpliceKeeps.l1 k x1 0 x0 0 x10002000 x10002001)
def papermilllaw40_SpliceKeeps.l1 : Nat → List (S49) → Int → Int → Int → Int → Int → Option (Bool)
 | 0, _, _, _, _, _, _ => none
 | k + 1, x1, x16, x17, x18, x10002000, x10002001 => if x18 < (x1.length : Int) then (if 0 ≤ x18 then (if ((rd_T49 x1 x18).f0) < ((rd_T49 x1 x18).f1) then (papermilllaw40_SpliceKeeps.j5 k x1 x16 x17 x18 (decide (((rd_T49 x1 x18).f1) ≤ x10002001)) x10002000 x10002001) else (papermilllaw40_SpliceKeeps.j5 k x1 x16 x17 x18 false x10002000 x10002001)) else (none)) else (if (wrap64 (x17 - x16)) < x10002000 then ((papermilllaw40_awake.f).bind fun t10026 => (some t10026)) else (some false))
def papermilllaw40_SpliceKeeps.j5 : Nat → List (S49) → Int → Int → Int → Bool → Int → Int → Option (Bool)
 | 0, _, _, _, _, _, _, _ => none
 | k + 1, x1, x16, x17, x18, x194, x10002000, x10002001 => if x194 = true then (if 0 ≤ x18 then (if x18 < (x1.length : Int) then (if ((rd_T49 x1 x18).f0) < ((rd_T49 x1 x18).f1) then (if ((rd_T49 x1 x18).f0) > x10002001 then (papermilllaw40_SpliceKeeps.l1 k x1 (mx x16 ((rd_T49 x1 x18).f1)) (mn x17 ((rd_T49 x1 x18).f0)) (wrap64 (x18 + 1)) x10002000 x10002001) else (papermilllaw40_SpliceKeeps.l1 k x1 (mx x16 ((rd_T49 x1 x18).f1)) x17 (wrap64 (x18 + 1)) x10002000 x10002001)) else (papermilllaw40_SpliceKeeps.l1 k x1 (mx x16 ((rd_T49 x1 x18).f1)) x17 (wrap64 (x18 + 1)) x10002000 x10002001)) else (none)) else (none)) else (if 0 ≤ x18 then (if x18 < (x1.length : Int) then (if ((rd_T49 x1 x18).f0) < ((rd_T49 x1 x18).f1) then (if ((rd_T49 x1 x18).f0) > x10002001 then (papermilllaw40_SpliceKeeps.l1 k x1 x16 (mn x17 ((rd_T49 x1 x18).f0)) (wrap64 (x18 + 1)) x10002000 x10002001) else (papermilllaw40_SpliceKeeps.l1 k x1 x16 x17 (wrap64 (x18 + 1)) x10002000 x10002001)) else (papermilllaw40_SpliceKeeps.l1 k x1 x16 x17 (wrap64 (x18 + 1)) x10002000 x10002001)) else (none)) else (none))
end
def papermilllaw40_SpliceKeeps.f (k : Nat) (a0 : Int) (l1 : List (S49)) (a2_0 : Int) (a2_1 : Int) : Option (Bool) := (papermilllaw40_great.f l1).bind fun t10002 => (if t10002 = true then ((papermilllaw40_awake.f).bind fun t10003 => (some t10003)) else ((splice_Keep.f a0 l1 a2_0).bind fun bt10004 => (if bt10004.2 = 0 then (if (bt10004.1.length : Int) > 300 then (papermilllaw40_SpliceKeeps.j0 k a0 l1 bt10004.1 true a2_0 a2_1) else (if a0 < 0 then (papermilllaw40_SpliceKeeps.j0 k a0 l1 bt10004.1 true a2_0 a2_1) else (papermilllaw40_SpliceKeeps.j0 k a0 l1 bt10004.1 (decide (a0 > 17179869184)) a2_0 a2_1))) else (if (bt10004.1.length : Int) = 0 then ((papermilllaw40_awake.f).bind fun t10008 => (some t10008)) else (some false)))))
set_option maxHeartbeats 8000000 in
set_option maxRecDepth 100000 in
theorem papermilllaw40_SpliceKeeps.calls (k : Nat) (a0 : Int) (A1 : Option Addr) (c1 : Nat) (l1 : List (S49)) (a2_0 : Int) (a2_1 : Int) (r : Bool) (w : World) (hr1 : Kd.C k49 w A1 l1.length l1) (hc1 : l1.length ≤ c1) (h : papermilllaw40_SpliceKeeps.f k a0 l1 a2_0 a2_1 = some r) :
  Calls Try.prog 9 #[.int .i64 a0, .slice A1 l1.length c1, .agg #[.int .i64 a2_0, .int .i64 a2_1]] w fun e w' => e = .returned (.bool r) ∧ Below w.heap.size w w' := by
 have hu44 := Try.underlying44
 have HR1 := Aside0.mk hr1
 have HC1 := Aside0.mk hc1
 clear hr1 hc1
 have HB := Aside0.mk (Below.refl w.heap.size w)
 have H : ((papermilllaw40_great.f l1).bind fun t10002 => (if t10002 = true then ((papermilllaw40_awake.f).bind fun t10003 => (some t10003)) else ((splice_Keep.f a0 l1 a2_0).bind fun bt10004 => (if bt10004.2 = 0 then (if (bt10004.1.length : Int) > 300 then (papermilllaw40_SpliceKeeps.j0 k a0 l1 bt10004.1 true a2_0 a2_1) else (if a0 < 0 then (papermilllaw40_SpliceKeeps.j0 k a0 l1 bt10004.1 true a2_0 a2_1) else (papermilllaw40_SpliceKeeps.j0 k a0 l1 bt10004.1 (decide (a0 > 17179869184)) a2_0 a2_1))) else (if (bt10004.1.length : Int) = 0 then ((papermilllaw40_awake.f).bind fun t10008 => (some t10008)) else (some false)))))) = some r := h
 clear h
 replace H := Option.bind_eq_some_iff.mp H
 obtain ⟨t10002, A40, H⟩ := H
 replace H : (if t10002 = true then ((papermilllaw40_awake.f).bind fun t10003 => (some t10003)) else ((splice_Keep.f a0 l1 a2_0).bind fun bt10004 => (if bt10004.2 = 0 then (if (bt10004.1.length : Int) > 300 then (papermilllaw40_SpliceKeeps.j0 k a0 l1 bt10004.1 true a2_0 a2_1) else (if a0 < 0 then (papermilllaw40_SpliceKeeps.j0 k a0 l1 bt10004.1 true a2_0 a2_1) else (papermilllaw40_SpliceKeeps.j0 k a0 l1 bt10004.1 (decide (a0 > 17179869184)) a2_0 a2_1))) else (if (bt10004.1.length : Int) = 0 then ((papermilllaw40_awake.f).bind fun t10008 => (some t10008)) else (some false))))) = some r := H
 have A4 := Aside0.mk A40
 clear A40
 by_cases c5 : t10002 = true
 ·subst c5
  have H1 : ((papermilllaw40_awake.f).bind fun t10003 => (some t10003)) = some r := by rw [if_pos rfl] at H; exact H
  clear H
  have H := H1
  clear H1
  replace H := Option.bind_eq_some_iff.mp H
  obtain ⟨t10003, A60, H⟩ := H
  replace H : (some t10003) = some r := H
  have A6 := Aside0.mk A60
  clear A60
  obtain rfl := Option.some.inj H
  go_enter Try.func9, Try.ntmps9
  go_wp2_with (first | ((with_reducible refine gate_dst (N := 5) rfl ?_); (try (refine gate_guard (by rfl) ?_; dsimp only)); refine box_event ?hg (N := 5) ?hd (cs := #[.int .i64 a2_0, .int .i64 a2_1]) (t := 44) ?hr ?_; (case hd => rfl); (case hg => rfl); (case hr => first | (go_simp; done) | (go_simp; rfl)); intro gb10001 hg w7 hbox hb; have n0_ := Aside0.mk (below_step (by repeat (first | exact HB.out | apply below_alloc | apply pw_below_drewN | apply below_drew1)) hb); have n1_ := Aside0.mk (hbox); have n2_ := Aside0.mk ((by rw [hg]; exact (below_size (by repeat (first | exact HB.out | apply below_alloc | apply pw_below_drewN | apply below_drew1))) : w.heap.size ≤ gb10001)); have n3_ := Aside0.mk ((by rw [hg]; exact (below_size (by repeat (first | exact HB.out | apply below_alloc | apply pw_below_drewN | apply below_drew1))) : w.heap.size ≤ gb10001)); clear HB; have HB := n0_; have BK10001 := n1_; have GW10001 := n2_; have GE10001 := n3_; clear n0_ n1_ n2_ n3_; clear hb hbox hg) | (go_at_call 11; (with_reducible refine (papermilllaw40_great.calls _ _ l1 true _ ?side1 ?side2 A4.out).mono ?_); (case side1 => repeat (first | exact (Kd.C_below HR1.out HB.out) | (with_reducible refine Kd.C_alloc ?_ _) | (with_reducible refine Kd.C_drewN ?_ _) | (with_reducible refine Kd.C_drew ?_))); (case side2 => exact HC1.out); rintro e w' ⟨rfl, ⟨nd, rfl⟩⟩; (try first | exact ⟨rfl, _, World.drewN_drewN _ _ _⟩ | exact ⟨rfl, _, Eq.trans (World.drewN_drewN _ _ _) (congrArg (World.drewN _) (Nat.add_assoc _ _ _))⟩)) | (go_at_call 12; (with_reducible refine (papermilllaw40_awake.calls  t10003 _ A6.out).mono ?_); rintro e w8 ⟨rfl, hb⟩; have n0_ := Aside0.mk (blk_below (g := gb10001) (o := .cells #[.int .i64 a2_0, .int .i64 a2_1] 44 (0, 0)) (by (with_reducible repeat (first | refine blk_drewN ?_ _ | refine blk_drew ?_ | refine blk_alloc ?_ _)); exact BK10001.out) hb); have n1_ := Aside0.mk (below_step (by repeat (first | exact HB.out | apply below_alloc | apply pw_below_drewN | apply below_drew1 | refine below_set ?_ GE10001.out)) hb); clear BK10001; clear HB; have BK10001 := n0_; have HB := n1_; clear n0_ n1_; (try clear hb); (try clear hb2); (try clear hk); (try clear hi)))
  repeat (go_quiet (first | ((with_reducible refine gate_dst (N := 5) rfl ?_); (try (refine gate_guard (by rfl) ?_; dsimp only)); refine box_event ?hg (N := 5) ?hd (cs := #[.int .i64 a2_0, .int .i64 a2_1]) (t := 44) ?hr ?_; (case hd => rfl); (case hg => rfl); (case hr => first | (go_simp; done) | (go_simp; rfl)); intro gb10001 hg w7 hbox hb; have n0_ := Aside0.mk (below_step (by repeat (first | exact HB.out | apply below_alloc | apply pw_below_drewN | apply below_drew1)) hb); have n1_ := Aside0.mk (hbox); have n2_ := Aside0.mk ((by rw [hg]; exact (below_size (by repeat (first | exact HB.out | apply below_alloc | apply pw_below_drewN | apply below_drew1))) : w.heap.size ≤ gb10001)); have n3_ := Aside0.mk ((by rw [hg]; exact (below_size (by repeat (first | exact HB.out | apply below_alloc | apply pw_below_drewN | apply below_drew1))) : w.heap.size ≤ gb10001)); clear HB; have HB := n0_; have BK10001 := n1_; have GW10001 := n2_; have GE10001 := n3_; clear n0_ n1_ n2_ n3_; clear hb hbox hg) | (go_at_call 11; (with_reducible refine (papermilllaw40_great.calls _ _ l1 true _ ?side1 ?side2 A4.out).mono ?_); (case side1 => repeat (first | exact (Kd.C_below HR1.out HB.out) | (with_reducible refine Kd.C_alloc ?_ _) | (with_reducible refine Kd.C_drewN ?_ _) | (with_reducible refine Kd.C_drew ?_))); (case side2 => exact HC1.out); rintro e w' ⟨rfl, ⟨nd, rfl⟩⟩; (try first | exact ⟨rfl, _, World.drewN_drewN _ _ _⟩ | exact ⟨rfl, _, Eq.trans (World.drewN_drewN _ _ _) (congrArg (World.drewN _) (Nat.add_assoc _ _ _))⟩)) | (go_at_call 12; (with_reducible refine (papermilllaw40_awake.calls  t10003 _ A6.out).mono ?_); rintro e w8 ⟨rfl, hb⟩; have n0_ := Aside0.mk (blk_below (g := gb10001) (o := .cells #[.int .i64 a2_0, .int .i64 a2_1] 44 (0, 0)) (by (with_reducible repeat (first | refine blk_drewN ?_ _ | refine blk_drew ?_ | refine blk_alloc ?_ _)); exact BK10001.out) hb); have n1_ := Aside0.mk (below_step (by repeat (first | exact HB.out | apply below_alloc | apply pw_below_drewN | apply below_drew1 | refine below_set ?_ GE10001.out)) hb); clear BK10001; clear HB; have BK10001 := n0_; have HB := n1_; clear n0_ n1_; (try clear hb); (try clear hb2); (try clear hk); (try clear hi))); try go_wp2_with (first | ((with_reducible refine gate_dst (N := 5) rfl ?_); (try (refine gate_guard (by rfl) ?_; dsimp only)); refine box_event ?hg (N := 5) ?hd (cs := #[.int .i64 a2_0, .int .i64 a2_1]) (t := 44) ?hr ?_; (case hd => rfl); (case hg => rfl); (case hr => first | (go_simp; done) | (go_simp; rfl)); intro gb10001 hg w7 hbox hb; have n0_ := Aside0.mk (below_step (by repeat (first | exact HB.out | apply below_alloc | apply pw_below_drewN | apply below_drew1)) hb); have n1_ := Aside0.mk (hbox); have n2_ := Aside0.mk ((by rw [hg]; exact (below_size (by repeat (first | exact HB.out | apply below_alloc | apply pw_below_drewN | apply below_drew1))) : w.heap.size ≤ gb10001)); have n3_ := Aside0.mk ((by rw [hg]; exact (below_size (by repeat (first | exact HB.out | apply below_alloc | apply pw_below_drewN | apply below_drew1))) : w.heap.size ≤ gb10001)); clear HB; have HB := n0_; have BK10001 := n1_; have GW10001 := n2_; have GE10001 := n3_; clear n0_ n1_ n2_ n3_; clear hb hbox hg) | (go_at_call 11; (with_reducible refine (papermilllaw40_great.calls _ _ l1 true _ ?side1 ?side2 A4.out).mono ?_); (case side1 => repeat (first | exact (Kd.C_below HR1.out HB.out) | (with_reducible refine Kd.C_alloc ?_ _) | (with_reducible refine Kd.C_drewN ?_ _) | (with_reducible refine Kd.C_drew ?_))); (case side2 => exact HC1.out); rintro e w' ⟨rfl, ⟨nd, rfl⟩⟩; (try first | exact ⟨rfl, _, World.drewN_drewN _ _ _⟩ | exact ⟨rfl, _, Eq.trans (World.drewN_drewN _ _ _) (congrArg (World.drewN _) (Nat.add_assoc _ _ _))⟩)) | (go_at_call 12; (with_reducible refine (papermilllaw40_awake.calls  t10003 _ A6.out).mono ?_); rintro e w8 ⟨rfl, hb⟩; have n0_ := Aside0.mk (blk_below (g := gb10001) (o := .cells #[.int .i64 a2_0, .int .i64 a2_1] 44 (0, 0)) (by (with_reducible repeat (first | refine blk_drewN ?_ _ | refine blk_drew ?_ | refine blk_alloc ?_ _)); exact BK10001.out) hb); have n1_ := Aside0.mk (below_step (by repeat (first | exact HB.out | apply below_alloc | apply pw_below_drewN | apply below_drew1 | refine below_set ?_ GE10001.out)) hb); clear BK10001; clear HB; have BK10001 := n0_; have HB := n1_; clear n0_ n1_; (try clear hb); (try clear hb2); (try clear hk); (try clear hi))))
  go_ret
  exact ⟨by first | rfl | (simp [errW_none, errW_some] <;> rfl) | (simp [*, errW_none, errW_some] <;> rfl), by repeat (first | exact HB.out | apply below_alloc | apply pw_below_drewN | apply below_drew1 | refine below_set ?_ GE10001.out)⟩
 ·replace c5 := Bool.eq_false_iff.mpr c5
  subst c5
  have H1 : ((splice_Keep.f a0 l1 a2_0).bind fun bt10004 => (if bt10004.2 = 0 then (if (bt10004.1.length : Int) > 300 then (papermilllaw40_SpliceKeeps.j0 k a0 l1 bt10004.1 true a2_0 a2_1) else (if a0 < 0 then (papermilllaw40_SpliceKeeps.j0 k a0 l1 bt10004.1 true a2_0 a2_1) else (papermilllaw40_SpliceKeeps.j0 k a0 l1 bt10004.1 (decide (a0 > 17179869184)) a2_0 a2_1))) else (if (bt10004.1.length : Int) = 0 then ((papermilllaw40_awake.f).bind fun t10008 => (some t10008)) else (some false)))) = some r := by rw [if_neg (show ¬ (false = true) by decide)] at H; first | exact H | simpa using H
  clear H
  have H := H1
  clear H1
  replace H := Option.bind_eq_some_iff.mp H
  obtain ⟨⟨t10004, t10005⟩, A90, H⟩ := H
  replace H : (if t10005 = 0 then (if (t10004.length : Int) > 300 then (papermilllaw40_SpliceKeeps.j0 k a0 l1 t10004 true a2_0 a2_1) else (if a0 < 0 then (papermilllaw40_SpliceKeeps.j0 k a0 l1 t10004 true a2_0 a2_1) else (papermilllaw40_SpliceKeeps.j0 k a0 l1 t10004 (decide (a0 > 17179869184)) a2_0 a2_1))) else (if (t10004.length : Int) = 0 then ((papermilllaw40_awake.f).bind fun t10008 => (some t10008)) else (some false))) = some r := H
  have A9 := Aside0.mk A90
  clear A90
  by_cases c10 : t10005 = 0
  ·rw [if_pos c10] at H
   have c10b0 : (t10005 == 0) = true := beq_iff_eq.mpr c10
   have c10b1 : (t10005 != 0) = false := bne_eq_false_iff_eq.mpr c10
   clear c10
   have HC11 := Aside0.mk H
   clear H
   go_enter Try.func9, Try.ntmps9
   go_upto_region 6 with (first | ((with_reducible refine gate_dst (N := 5) rfl ?_); (try (refine gate_guard (by rfl) ?_; dsimp only)); refine box_event ?hg (N := 5) ?hd (cs := #[.int .i64 a2_0, .int .i64 a2_1]) (t := 44) ?hr ?_; (case hd => rfl); (case hg => rfl); (case hr => first | (go_simp; done) | (go_simp; rfl)); intro gb10001 hg w12 hbox hb; have n0_ := Aside0.mk (below_step (by repeat (first | exact HB.out | apply below_alloc | apply pw_below_drewN | apply below_drew1)) hb); have n1_ := Aside0.mk (hbox); have n2_ := Aside0.mk ((by rw [hg]; exact (below_size (by repeat (first | exact HB.out | apply below_alloc | apply pw_below_drewN | apply below_drew1))) : w.heap.size ≤ gb10001)); have n3_ := Aside0.mk ((by rw [hg]; exact (below_size (by repeat (first | exact HB.out | apply below_alloc | apply pw_below_drewN | apply below_drew1))) : w.heap.size ≤ gb10001)); clear HB; have HB := n0_; have BK10001 := n1_; have GW10001 := n2_; have GE10001 := n3_; clear n0_ n1_ n2_ n3_; clear hb hbox hg) | (go_at_call 11; (with_reducible refine (papermilllaw40_great.calls _ _ l1 false _ ?side1 ?side2 A4.out).mono ?_); (case side1 => repeat (first | exact (Kd.C_below HR1.out HB.out) | (with_reducible refine Kd.C_alloc ?_ _) | (with_reducible refine Kd.C_drewN ?_ _) | (with_reducible refine Kd.C_drew ?_))); (case side2 => exact HC1.out); rintro e w' ⟨rfl, ⟨nd, rfl⟩⟩; (try first | exact ⟨rfl, _, World.drewN_drewN _ _ _⟩ | exact ⟨rfl, _, Eq.trans (World.drewN_drewN _ _ _) (congrArg (World.drewN _) (Nat.add_assoc _ _ _))⟩); have hcz13_0 : w12.cell? ⟨gb10001, 0, none⟩ = some (.int .i64 a2_0) := (blk_cell BK10001.out 0).trans rfl; have hcz13_1 : w12.cell? ⟨gb10001, 1, none⟩ = some (.int .i64 a2_1) := (blk_cell BK10001.out 1).trans rfl; have hfz13_0 := blk_frozen BK10001.out 0; have hfz13_1 := blk_frozen BK10001.out 1) | (go_at_call 13; (with_reducible refine (splice_Keep.calls a0 _ _ l1 a2_0 t10004 t10005 _ ?side1 ?side2 A9.out).mono ?_); (case side1 => repeat (first | exact (Kd.C_below HR1.out (by repeat (first | exact HB.out | apply below_alloc | apply pw_below_drewN | apply below_drew1 | refine below_set ?_ GE10001.out))) | (with_reducible refine Kd.C_alloc ?_ _) | (with_reducible refine Kd.C_drewN ?_ _) | (with_reducible refine Kd.C_drew ?_))); (case side2 => exact HC1.out); rintro e w14 ⟨v10006, rfl, ho0, hb⟩; have n0_ := Aside0.mk (Kd.R_lower ho0 (below_size (by repeat (first | exact HB.out | apply below_alloc | apply pw_below_drewN | apply below_drew1 | refine below_set ?_ GE10001.out)))); have n1_ := Aside0.mk (blk_below (g := gb10001) (o := .cells #[.int .i64 a2_0, .int .i64 a2_1] 44 (0, 0)) (by (with_reducible repeat (first | refine blk_drewN ?_ _ | refine blk_drew ?_ | refine blk_alloc ?_ _)); exact BK10001.out) hb); have n2_ := Aside0.mk (below_step (by repeat (first | exact HB.out | apply below_alloc | apply pw_below_drewN | apply below_drew1 | refine below_set ?_ GE10001.out)) hb); clear BK10001; clear HB; have HO10007 := n0_; have BK10001 := n1_; have HB := n2_; clear n0_ n1_ n2_; (try clear hb); (try clear hb2); (try clear hk); (try clear hi); (try clear ho0)))
   repeat (go_quiet (first | ((with_reducible refine gate_dst (N := 5) rfl ?_); (try (refine gate_guard (by rfl) ?_; dsimp only)); refine box_event ?hg (N := 5) ?hd (cs := #[.int .i64 a2_0, .int .i64 a2_1]) (t := 44) ?hr ?_; (case hd => rfl); (case hg => rfl); (case hr => first | (go_simp; done) | (go_simp; rfl)); intro gb10001 hg w12 hbox hb; have n0_ := Aside0.mk (below_step (by repeat (first | exact HB.out | apply below_alloc | apply pw_below_drewN | apply below_drew1)) hb); have n1_ := Aside0.mk (hbox); have n2_ := Aside0.mk ((by rw [hg]; exact (below_size (by repeat (first | exact HB.out | apply below_alloc | apply pw_below_drewN | apply below_drew1))) : w.heap.size ≤ gb10001)); have n3_ := Aside0.mk ((by rw [hg]; exact (below_size (by repeat (first | exact HB.out | apply below_alloc | apply pw_below_drewN | apply below_drew1))) : w.heap.size ≤ gb10001)); clear HB; have HB := n0_; have BK10001 := n1_; have GW10001 := n2_; have GE10001 := n3_; clear n0_ n1_ n2_ n3_; clear hb hbox hg) | (go_at_call 11; (with_reducible refine (papermilllaw40_great.calls _ _ l1 false _ ?side1 ?side2 A4.out).mono ?_); (case side1 => repeat (first | exact (Kd.C_below HR1.out HB.out) | (with_reducible refine Kd.C_alloc ?_ _) | (with_reducible refine Kd.C_drewN ?_ _) | (with_reducible refine Kd.C_drew ?_))); (case side2 => exact HC1.out); rintro e w' ⟨rfl, ⟨nd, rfl⟩⟩; (try first | exact ⟨rfl, _, World.drewN_drewN _ _ _⟩ | exact ⟨rfl, _, Eq.trans (World.drewN_drewN _ _ _) (congrArg (World.drewN _) (Nat.add_assoc _ _ _))⟩); have hcz13_0 : w12.cell? ⟨gb10001, 0, none⟩ = some (.int .i64 a2_0) := (blk_cell BK10001.out 0).trans rfl; have hcz13_1 : w12.cell? ⟨gb10001, 1, none⟩ = some (.int .i64 a2_1) := (blk_cell BK10001.out 1).trans rfl; have hfz13_0 := blk_frozen BK10001.out 0; have hfz13_1 := blk_frozen BK10001.out 1) | (go_at_call 13; (with_reducible refine (splice_Keep.calls a0 _ _ l1 a2_0 t10004 t10005 _ ?side1 ?side2 A9.out).mono ?_); (case side1 => repeat (first | exact (Kd.C_below HR1.out (by repeat (first | exact HB.out | apply below_alloc | apply pw_below_drewN | apply below_drew1 | refine below_set ?_ GE10001.out))) | (with_reducible refine Kd.C_alloc ?_ _) | (with_reducible refine Kd.C_drewN ?_ _) | (with_reducible refine Kd.C_drew ?_))); (case side2 => exact HC1.out); rintro e w14 ⟨v10006, rfl, ho0, hb⟩; have n0_ := Aside0.mk (Kd.R_lower ho0 (below_size (by repeat (first | exact HB.out | apply below_alloc | apply pw_below_drewN | apply below_drew1 | refine below_set ?_ GE10001.out)))); have n1_ := Aside0.mk (blk_below (g := gb10001) (o := .cells #[.int .i64 a2_0, .int .i64 a2_1] 44 (0, 0)) (by (with_reducible repeat (first | refine blk_drewN ?_ _ | refine blk_drew ?_ | refine blk_alloc ?_ _)); exact BK10001.out) hb); have n2_ := Aside0.mk (below_step (by repeat (first | exact HB.out | apply below_alloc | apply pw_below_drewN | apply below_drew1 | refine below_set ?_ GE10001.out)) hb); clear BK10001; clear HB; have HO10007 := n0_; have BK10001 := n1_; have HB := n2_; clear n0_ n1_ n2_; (try clear hb); (try clear hb2); (try clear hk); (try clear hi); (try clear ho0))); go_upto_region 6 with (first | ((with_reducible refine gate_dst (N := 5) rfl ?_); (try (refine gate_guard (by rfl) ?_; dsimp only)); refine box_event ?hg (N := 5) ?hd (cs := #[.int .i64 a2_0, .int .i64 a2_1]) (t := 44) ?hr ?_; (case hd => rfl); (case hg => rfl); (case hr => first | (go_simp; done) | (go_simp; rfl)); intro gb10001 hg w12 hbox hb; have n0_ := Aside0.mk (below_step (by repeat (first | exact HB.out | apply below_alloc | apply pw_below_drewN | apply below_drew1)) hb); have n1_ := Aside0.mk (hbox); have n2_ := Aside0.mk ((by rw [hg]; exact (below_size (by repeat (first | exact HB.out | apply below_alloc | apply pw_below_drewN | apply below_drew1))) : w.heap.size ≤ gb10001)); have n3_ := Aside0.mk ((by rw [hg]; exact (below_size (by repeat (first | exact HB.out | apply below_alloc | apply pw_below_drewN | apply below_drew1))) : w.heap.size ≤ gb10001)); clear HB; have HB := n0_; have BK10001 := n1_; have GW10001 := n2_; have GE10001 := n3_; clear n0_ n1_ n2_ n3_; clear hb hbox hg) | (go_at_call 11; (with_reducible refine (papermilllaw40_great.calls _ _ l1 false _ ?side1 ?side2 A4.out).mono ?_); (case side1 => repeat (first | exact (Kd.C_below HR1.out HB.out) | (with_reducible refine Kd.C_alloc ?_ _) | (with_reducible refine Kd.C_drewN ?_ _) | (with_reducible refine Kd.C_drew ?_))); (case side2 => exact HC1.out); rintro e w' ⟨rfl, ⟨nd, rfl⟩⟩; (try first | exact ⟨rfl, _, World.drewN_drewN _ _ _⟩ | exact ⟨rfl, _, Eq.trans (World.drewN_drewN _ _ _) (congrArg (World.drewN _) (Nat.add_assoc _ _ _))⟩); have hcz13_0 : w12.cell? ⟨gb10001, 0, none⟩ = some (.int .i64 a2_0) := (blk_cell BK10001.out 0).trans rfl; have hcz13_1 : w12.cell? ⟨gb10001, 1, none⟩ = some (.int .i64 a2_1) := (blk_cell BK10001.out 1).trans rfl; have hfz13_0 := blk_frozen BK10001.out 0; have hfz13_1 := blk_frozen BK10001.out 1) | (go_at_call 13; (with_reducible refine (splice_Keep.calls a0 _ _ l1 a2_0 t10004 t10005 _ ?side1 ?side2 A9.out).mono ?_); (case side1 => repeat (first | exact (Kd.C_below HR1.out (by repeat (first | exact HB.out | apply below_alloc | apply pw_below_drewN | apply below_drew1 | refine below_set ?_ GE10001.out))) | (with_reducible refine Kd.C_alloc ?_ _) | (with_reducible refine Kd.C_drewN ?_ _) | (with_reducible refine Kd.C_drew ?_))); (case side2 => exact HC1.out); rintro e w14 ⟨v10006, rfl, ho0, hb⟩; have n0_ := Aside0.mk (Kd.R_lower ho0 (below_size (by repeat (first | exact HB.out | apply below_alloc | apply pw_below_drewN | apply below_drew1 | refine below_set ?_ GE10001.out)))); have n1_ := Aside0.mk (blk_below (g := gb10001) (o := .cells #[.int .i64 a2_0, .int .i64 a2_1] 44 (0, 0)) (by (with_reducible repeat (first | refine blk_drewN ?_ _ | refine blk_drew ?_ | refine blk_alloc ?_ _)); exact BK10001.out) hb); have n2_ := Aside0.mk (below_step (by repeat (first | exact HB.out | apply below_alloc | apply pw_below_drewN | apply below_drew1 | refine below_set ?_ GE10001.out)) hb); clear BK10001; clear HB; have HO10007 := n0_; have BK10001 := n1_; have HB := n2_; clear n0_ n1_ n2_; (try clear hb); (try clear hb2); (try clear hk); (try clear hi); (try clear ho0))))
   (try simp only [Act.put, List.setIfInBounds_toArray, List.set_cons_zero, List.set_cons_succ])
   go_cut [48] (fun v48 wc => ∃ (kq : Nat) (x48_10 : Bool), v48 = .bool x48_10 ∧ Aside0 (papermilllaw40_SpliceKeeps.j0 kq a0 l1 t10004 x48_10 a2_0 a2_1 = some r) ∧ Aside0 (kq ≤ k) ∧ Aside0 (Kd.R k49 49 wc w.heap.size (fun _ => True) v10006 t10004) ∧ Aside0 (wc.heap[gb10001]? = some (.cells #[.int .i64 a2_0, .int .i64 a2_1] 44 (0, 0))) ∧ Aside0 (Below w.heap.size w wc))
   case first => as_aux_lemma =>
    have H := HC11.out
    clear HC11
    by_cases c15 : (t10004.length : Int) > 300
    ·rw [if_pos c15] at H
     have c15b0 : decide (300 < (t10004.length : Int)) = true := decide_eq_true c15
     have c15b1 : decide (300 < t10004.length) = true := decide_eq_true (by omega)
     clear c15
     (first | rw [c15b0] | (simp only [i64_w, i32_w]; rw [c15b0]) | skip)
     have H' := Aside0.mk H
     clear H
     obtain ⟨Ao16, co16, eo16⟩ := Kd.R_slice HO10007.out
     subst eo16
     go_wp2
     repeat (go_quiet (fail); try go_wp2)
     go_meet
     case rel => exact ⟨_, (true), (by first | rfl | (simp; done) | (simp [*]; done)), H', ⟨by first | omega | exact Nat.le_refl _⟩, ⟨by (with_reducible repeat (first | apply Kd.R_alloc | apply Kd.R_drewN | apply Kd.R_drew)); exact HO10007.out⟩, ⟨by (with_reducible repeat (first | refine blk_drewN ?_ _ | refine blk_drew ?_ | refine blk_alloc ?_ _)); exact BK10001.out⟩, ⟨by repeat (first | exact HB.out | apply below_alloc | apply pw_below_drewN | apply below_drew1 | refine below_set ?_ GE10001.out)⟩⟩
    ·rw [if_neg c15] at H
     have c15b0 : decide (300 < (t10004.length : Int)) = false := decide_eq_false c15
     have c15b1 : decide (300 < t10004.length) = false := decide_eq_false (by omega)
     clear c15
     (first | rw [c15b0] | (simp only [i64_w, i32_w]; rw [c15b0]) | skip)
     by_cases c17 : a0 < 0
     ·rw [if_pos c17] at H
      have c17b0 : decide (a0 < 0) = true := decide_eq_true c17
      clear c17
      have H' := Aside0.mk H
      clear H
      obtain ⟨Ao18, co18, eo18⟩ := Kd.R_slice HO10007.out
      subst eo18
      go_wp2
      repeat (go_quiet (fail); try go_wp2)
      go_meet
      case rel => exact ⟨_, (true), (by first | rfl | (simp; done) | (simp [*]; done)), H', ⟨by first | omega | exact Nat.le_refl _⟩, ⟨by (with_reducible repeat (first | apply Kd.R_alloc | apply Kd.R_drewN | apply Kd.R_drew)); exact HO10007.out⟩, ⟨by (with_reducible repeat (first | refine blk_drewN ?_ _ | refine blk_drew ?_ | refine blk_alloc ?_ _)); exact BK10001.out⟩, ⟨by repeat (first | exact HB.out | apply below_alloc | apply pw_below_drewN | apply below_drew1 | refine below_set ?_ GE10001.out)⟩⟩
     ·rw [if_neg c17] at H
      have c17b0 : decide (a0 < 0) = false := decide_eq_false c17
      clear c17
      have H' := Aside0.mk H
      clear H
      obtain ⟨Ao19, co19, eo19⟩ := Kd.R_slice HO10007.out
      subst eo19
      go_wp2
      repeat (go_quiet (fail); try go_wp2)
      go_meet
      case rel => exact ⟨_, (decide (a0 > 17179869184)), (by first | rfl | (simp; done) | (simp [*]; done)), H', ⟨by first | omega | exact Nat.le_refl _⟩, ⟨by (with_reducible repeat (first | apply Kd.R_alloc | apply Kd.R_drewN | apply Kd.R_drew)); exact HO10007.out⟩, ⟨by (with_reducible repeat (first | refine blk_drewN ?_ _ | refine blk_drew ?_ | refine blk_alloc ?_ _)); exact BK10001.out⟩, ⟨by repeat (first | exact HB.out | apply below_alloc | apply pw_below_drewN | apply below_drew1 | refine below_set ?_ GE10001.out)⟩⟩
   case rest => as_aux_lemma =>
    clear HC11
    try clear c1
    try clear p2
    try clear c5
    try clear c9
    try clear c10
    try clear c10b0
    try clear c10b1
    try clear c15
    try clear c15b0
    try clear c15b1
    try clear c17
    try clear c17b0
    try clear hcz13_0
    try clear hcz13_1
    try clear hfz13_0
    try clear hfz13_1
    obtain ⟨kq, x48_10, rfl, HA, HJ10, HO_7, BK10001, HB⟩ := hcut
    cases kq with
    | zero => exact absurd HA.out (by simp [papermilllaw40_SpliceKeeps.j0])
    | succ kj10 =>
     have H := HA.out
     clear HA
     simp only [papermilllaw40_SpliceKeeps.j0] at H
     by_cases c20 : x48_10 = true
     ·subst c20
      have H1 : (some false) = some r := by rw [if_pos rfl] at H; exact H
      clear H
      have H := H1
      clear H1
      obtain rfl := Option.some.inj H
      go_wp2
      repeat (go_quiet (fail); try go_wp2)
      go_ret
      exact ⟨by first | rfl | (simp [errW_none, errW_some] <;> rfl) | (simp [*, errW_none, errW_some] <;> rfl), by repeat (first | exact HB.out | apply below_alloc | apply pw_below_drewN | apply below_drew1 | refine below_set ?_ GE10001.out)⟩
     ·replace c20 := Bool.eq_false_iff.mpr c20
      subst c20
      have H1 : (papermilllaw40_SpliceKeeps.l0 kj10 a0 l1 t10004 0 a2_0 a2_1) = some r := by rw [if_neg (show ¬ (false = true) by decide)] at H; first | exact H | simpa using H
      clear H
      have H := H1
      clear H1
      have H' := Aside0.mk H
      clear H
      go_wp2
      repeat (go_quiet (fail); try go_wp2)
      go_loopg [9] kj10 (fun kq v9 w' => ∃ (x9_2 : Int), v9 = .int .i64 x9_2 ∧ Aside0 (papermilllaw40_SpliceKeeps.l0 kq a0 l1 t10004 x9_2 a2_0 a2_1 = some r) ∧ Aside0 (kq ≤ kj10) ∧ Aside0 (Kd.R k49 49 w' w.heap.size (fun _ => True) v10006 t10004) ∧ Aside0 (w'.heap[gb10001]? = some (.cells #[.int .i64 a2_0, .int .i64 a2_1] 44 (0, 0))) ∧ Aside0 (Below w.heap.size w w'))
      case atStart => exact ⟨(0), (by first | rfl | (simp; done) | (simp [*]; done)), H', ⟨Nat.le_refl _⟩, ⟨by (with_reducible repeat (first | apply Kd.R_alloc | apply Kd.R_drewN | apply Kd.R_drew)); exact HO_7.out⟩, ⟨by (with_reducible repeat (first | refine blk_drewN ?_ _ | refine blk_drew ?_ | refine blk_alloc ?_ _)); exact BK10001.out⟩, ⟨by repeat (first | exact HB.out | apply below_alloc | apply pw_below_drewN | apply below_drew1 | refine below_set ?_ GE10001.out)⟩⟩
      case round => as_aux_lemma =>
       clear H'
       try clear c1
       try clear c2
       try clear p2
       try clear c5
       try clear c9
       try clear c10
       try clear c10b0
       try clear c10b1
       try clear c15
       try clear c15b0
       try clear c15b1
       try clear c17
       try clear c17b0
       try clear c20
       try clear hcz13_0
       try clear hcz13_1
       try clear hfz13_0
       try clear hfz13_1
       try clear p2
       obtain ⟨x9_2, rfl, HA, HK2, HO_7, BK10001, HB⟩ := hrel
       cases gk with
       | zero => exact absurd HA.out (by simp [papermilllaw40_SpliceKeeps.l0])
       | succ k2 =>
        have H := HA.out
        clear HA
        simp only [papermilllaw40_SpliceKeeps.l0] at H
        by_cases c21 : x9_2 < (t10004.length : Int)
        ·rw [if_pos c21] at H
         have c21b0 : decide (x9_2 < (t10004.length : Int)) = true := decide_eq_true c21
         clear c21
         by_cases c22 : 0 ≤ x9_2
         ·rw [if_pos c22] at H
          have c22b0 : decide (0 ≤ x9_2) = true := decide_eq_true c22
          clear c22
          by_cases c23 : ((rd_T49 t10004 x9_2).f0) < 0
          ·rw [if_pos c23] at H
           have c23b0 : decide (((rd_T49 t10004 x9_2).f0) < 0) = true := decide_eq_true c23
           clear c23
           obtain rfl := Option.some.inj H
           obtain ⟨Ao24, co24, eo24⟩ := Kd.R_slice HO_7.out
           subst eo24
           have p10009 : 0 ≤ (x9_2 : Int) := of_decide_eq_true (by first | (with_reducible assumption) | assumption)
           have q10009 : x9_2 < (t10004.length : Int) := of_decide_eq_true (by first | (with_reducible assumption) | assumption)
           obtain ⟨ad10009, e10009, hx10009_0, hx10009_1⟩ := at_T49 (Kd.R_reads' HO_7.out).2.2 x9_2 p10009 q10009
           cases e10009
           replace p10009 := eq_true p10009
           replace q10009 := eq_true q10009
           go_wp2
           repeat (go_quiet (fail); try go_wp2)
           go_ret
           exact ⟨by first | rfl | (simp [errW_none, errW_some] <;> rfl) | (simp [*, errW_none, errW_some] <;> rfl), by repeat (first | exact HB.out | apply below_alloc | apply pw_below_drewN | apply below_drew1 | refine below_set ?_ GE10001.out)⟩
          ·rw [if_neg c23] at H
           have c23b0 : decide (((rd_T49 t10004 x9_2).f0) < 0) = false := decide_eq_false c23
           clear c23
           by_cases c25 : ((rd_T49 t10004 x9_2).f1) > a0
           ·rw [if_pos c25] at H
            have c25b0 : decide (a0 < ((rd_T49 t10004 x9_2).f1)) = true := decide_eq_true c25
            clear c25
            obtain rfl := Option.some.inj H
            obtain ⟨Ao26, co26, eo26⟩ := Kd.R_slice HO_7.out
            subst eo26
            have p10009 : 0 ≤ (x9_2 : Int) := of_decide_eq_true (by first | (with_reducible assumption) | assumption)
            have q10009 : x9_2 < (t10004.length : Int) := of_decide_eq_true (by first | (with_reducible assumption) | assumption)
            obtain ⟨ad10009, e10009, hx10009_0, hx10009_1⟩ := at_T49 (Kd.R_reads' HO_7.out).2.2 x9_2 p10009 q10009
            cases e10009
            replace p10009 := eq_true p10009
            replace q10009 := eq_true q10009
            have p10010 : 0 ≤ (x9_2 : Int) := of_decide_eq_true (by first | (with_reducible assumption) | assumption)
            have q10010 : x9_2 < (t10004.length : Int) := of_decide_eq_true (by first | (with_reducible assumption) | assumption)
            obtain ⟨ad10010, e10010, hx10010_0, hx10010_1⟩ := at_T49 (Kd.R_reads' HO_7.out).2.2 x9_2 p10010 q10010
            obtain rfl : ad10009 = ad10010 := (by injection e10010)
            replace p10010 := eq_true p10010
            replace q10010 := eq_true q10010
            go_wp2
            repeat (go_quiet (fail); try go_wp2)
            go_ret
            exact ⟨by first | rfl | (simp [errW_none, errW_some] <;> rfl) | (simp [*, errW_none, errW_some] <;> rfl), by repeat (first | exact HB.out | apply below_alloc | apply pw_below_drewN | apply below_drew1 | refine below_set ?_ GE10001.out)⟩
           ·rw [if_neg c25] at H
            have c25b0 : decide (a0 < ((rd_T49 t10004 x9_2).f1)) = false := decide_eq_false c25
            clear c25
            by_cases c27 : (wrap64 (((rd_T49 t10004 x9_2).f1) - ((rd_T49 t10004 x9_2).f0))) < a2_0
            ·rw [if_pos c27] at H
             have c27b0 : decide ((wrap64 (((rd_T49 t10004 x9_2).f1) - ((rd_T49 t10004 x9_2).f0))) < a2_0) = true := decide_eq_true c27
             clear c27
             obtain rfl := Option.some.inj H
             obtain ⟨Ao28, co28, eo28⟩ := Kd.R_slice HO_7.out
             subst eo28
             have p10009 : 0 ≤ (x9_2 : Int) := of_decide_eq_true (by first | (with_reducible assumption) | assumption)
             have q10009 : x9_2 < (t10004.length : Int) := of_decide_eq_true (by first | (with_reducible assumption) | assumption)
             obtain ⟨ad10009, e10009, hx10009_0, hx10009_1⟩ := at_T49 (Kd.R_reads' HO_7.out).2.2 x9_2 p10009 q10009
             cases e10009
             replace p10009 := eq_true p10009
             replace q10009 := eq_true q10009
             have p10010 : 0 ≤ (x9_2 : Int) := of_decide_eq_true (by first | (with_reducible assumption) | assumption)
             have q10010 : x9_2 < (t10004.length : Int) := of_decide_eq_true (by first | (with_reducible assumption) | assumption)
             obtain ⟨ad10010, e10010, hx10010_0, hx10010_1⟩ := at_T49 (Kd.R_reads' HO_7.out).2.2 x9_2 p10010 q10010
             obtain rfl : ad10009 = ad10010 := (by injection e10010)
             replace p10010 := eq_true p10010
             replace q10010 := eq_true q10010
             have p10011 : 0 ≤ (x9_2 : Int) := of_decide_eq_true (by first | (with_reducible assumption) | assumption)
             have q10011 : x9_2 < (t10004.length : Int) := of_decide_eq_true (by first | (with_reducible assumption) | assumption)
             obtain ⟨ad10011, e10011, hx10011_0, hx10011_1⟩ := at_T49 (Kd.R_reads' HO_7.out).2.2 x9_2 p10011 q10011
             obtain rfl : ad10009 = ad10011 := (by injection e10011)
             replace p10011 := eq_true p10011
             replace q10011 := eq_true q10011
             have p10012 : 0 ≤ (x9_2 : Int) := of_decide_eq_true (by first | (with_reducible assumption) | assumption)
             have q10012 : x9_2 < (t10004.length : Int) := of_decide_eq_true (by first | (with_reducible assumption) | assumption)
             obtain ⟨ad10012, e10012, hx10012_0, hx10012_1⟩ := at_T49 (Kd.R_reads' HO_7.out).2.2 x9_2 p10012 q10012
             obtain rfl : ad10009 = ad10012 := (by injection e10012)
             replace p10012 := eq_true p10012
             replace q10012 := eq_true q10012
             have hcz29_0 : wr.cell? ⟨gb10001, 0, none⟩ = some (.int .i64 a2_0) := (blk_cell BK10001.out 0).trans rfl
             have hcz29_1 : wr.cell? ⟨gb10001, 1, none⟩ = some (.int .i64 a2_1) := (blk_cell BK10001.out 1).trans rfl
             have hfz29_0 := blk_frozen BK10001.out 0
             have hfz29_1 := blk_frozen BK10001.out 1
             go_wp2
             repeat (go_quiet (fail); try go_wp2)
             go_ret
             exact ⟨by first | rfl | (simp [errW_none, errW_some] <;> rfl) | (simp [*, errW_none, errW_some] <;> rfl), by repeat (first | exact HB.out | apply below_alloc | apply pw_below_drewN | apply below_drew1 | refine below_set ?_ GE10001.out)⟩
            ·rw [if_neg c27] at H
             have c27b0 : decide ((wrap64 (((rd_T49 t10004 x9_2).f1) - ((rd_T49 t10004 x9_2).f0))) < a2_0) = false := decide_eq_false c27
             clear c27
             by_cases c30 : x9_2 > 0
             ·rw [if_pos c30] at H
              have c30b0 : decide (0 < x9_2) = true := decide_eq_true c30
              clear c30
              obtain ⟨ji31, hji31⟩ : ∃ j_ : Int, (wrap64 (x9_2 - 1)) = j_ := ⟨_, rfl⟩
              replace H : (if 0 ≤ (ji31) then (if (ji31) < (t10004.length : Int) then (if ((rd_T49 t10004 x9_2).f0) ≤ ((rd_T49 t10004 (ji31)).f1) then (some false) else (papermilllaw40_SpliceKeeps.l0 k2 a0 l1 t10004 (wrap64 (x9_2 + 1)) a2_0 a2_1)) else (none)) else (none)) = some r := by first | (rw [hji31] at H; exact H) | (simp only [hji31] at H ⊢; exact H)
              have hji31w : (IntKind.i64.wrap (x9_2 - 1)) = ji31 := (i64_w _).trans hji31
              by_cases c32 : 0 ≤ (ji31)
              ·rw [if_pos c32] at H
               have c32b0 : decide (0 ≤ (ji31)) = true := decide_eq_true c32
               clear c32
               by_cases c33 : (ji31) < (t10004.length : Int)
               ·rw [if_pos c33] at H
                have c33b0 : decide ((ji31) < (t10004.length : Int)) = true := decide_eq_true c33
                clear c33
                by_cases c34 : ((rd_T49 t10004 x9_2).f0) ≤ ((rd_T49 t10004 (ji31)).f1)
                ·rw [if_pos c34] at H
                 have c34b0 : decide (((rd_T49 t10004 x9_2).f0) ≤ ((rd_T49 t10004 (ji31)).f1)) = true := decide_eq_true c34
                 clear c34
                 obtain rfl := Option.some.inj H
                 obtain ⟨Ao35, co35, eo35⟩ := Kd.R_slice HO_7.out
                 subst eo35
                 have p10009 : 0 ≤ (x9_2 : Int) := of_decide_eq_true (by first | (with_reducible assumption) | assumption)
                 have q10009 : x9_2 < (t10004.length : Int) := of_decide_eq_true (by first | (with_reducible assumption) | assumption)
                 obtain ⟨ad10009, e10009, hx10009_0, hx10009_1⟩ := at_T49 (Kd.R_reads' HO_7.out).2.2 x9_2 p10009 q10009
                 cases e10009
                 replace p10009 := eq_true p10009
                 replace q10009 := eq_true q10009
                 have p10010 : 0 ≤ (x9_2 : Int) := of_decide_eq_true (by first | (with_reducible assumption) | assumption)
                 have q10010 : x9_2 < (t10004.length : Int) := of_decide_eq_true (by first | (with_reducible assumption) | assumption)
                 obtain ⟨ad10010, e10010, hx10010_0, hx10010_1⟩ := at_T49 (Kd.R_reads' HO_7.out).2.2 x9_2 p10010 q10010
                 obtain rfl : ad10009 = ad10010 := (by injection e10010)
                 replace p10010 := eq_true p10010
                 replace q10010 := eq_true q10010
                 have p10011 : 0 ≤ (x9_2 : Int) := of_decide_eq_true (by first | (with_reducible assumption) | assumption)
                 have q10011 : x9_2 < (t10004.length : Int) := of_decide_eq_true (by first | (with_reducible assumption) | assumption)
                 obtain ⟨ad10011, e10011, hx10011_0, hx10011_1⟩ := at_T49 (Kd.R_reads' HO_7.out).2.2 x9_2 p10011 q10011
                 obtain rfl : ad10009 = ad10011 := (by injection e10011)
                 replace p10011 := eq_true p10011
                 replace q10011 := eq_true q10011
                 have p10012 : 0 ≤ (x9_2 : Int) := of_decide_eq_true (by first | (with_reducible assumption) | assumption)
                 have q10012 : x9_2 < (t10004.length : Int) := of_decide_eq_true (by first | (with_reducible assumption) | assumption)
                 obtain ⟨ad10012, e10012, hx10012_0, hx10012_1⟩ := at_T49 (Kd.R_reads' HO_7.out).2.2 x9_2 p10012 q10012
                 obtain rfl : ad10009 = ad10012 := (by injection e10012)
                 replace p10012 := eq_true p10012
                 replace q10012 := eq_true q10012
                 have hcz36_0 : wr.cell? ⟨gb10001, 0, none⟩ = some (.int .i64 a2_0) := (blk_cell BK10001.out 0).trans rfl
                 have hcz36_1 : wr.cell? ⟨gb10001, 1, none⟩ = some (.int .i64 a2_1) := (blk_cell BK10001.out 1).trans rfl
                 have hfz36_0 := blk_frozen BK10001.out 0
                 have hfz36_1 := blk_frozen BK10001.out 1
                 have p10013 : 0 ≤ (x9_2 : Int) := of_decide_eq_true (by first | (with_reducible assumption) | assumption)
                 have q10013 : x9_2 < (t10004.length : Int) := of_decide_eq_true (by first | (with_reducible assumption) | assumption)
                 obtain ⟨ad10013, e10013, hx10013_0, hx10013_1⟩ := at_T49 (Kd.R_reads' HO_7.out).2.2 x9_2 p10013 q10013
                 obtain rfl : ad10009 = ad10013 := (by injection e10013)
                 replace p10013 := eq_true p10013
                 replace q10013 := eq_true q10013
                 have p10014 : 0 ≤ ((ji31) : Int) := of_decide_eq_true (by first | (with_reducible assumption) | assumption)
                 have q10014 : (ji31) < (t10004.length : Int) := of_decide_eq_true (by first | (with_reducible assumption) | assumption)
                 obtain ⟨ad10014, e10014, hx10014_0, hx10014_1⟩ := at_T49 (Kd.R_reads' HO_7.out).2.2 (ji31) p10014 q10014
                 obtain rfl : ad10009 = ad10014 := (by injection e10014)
                 replace p10014 := eq_true p10014
                 replace q10014 := eq_true q10014
                 go_wp2
                 repeat (go_quiet (fail); try go_wp2)
                 go_ret
                 exact ⟨by first | rfl | (simp [errW_none, errW_some] <;> rfl) | (simp only [← hji31]; first | rfl | (simp [errW_none, errW_some] <;> rfl)) | (simp [*, errW_none, errW_some] <;> rfl), by repeat (first | exact HB.out | apply below_alloc | apply pw_below_drewN | apply below_drew1 | refine below_set ?_ GE10001.out)⟩
                ·rw [if_neg c34] at H
                 have c34b0 : decide (((rd_T49 t10004 x9_2).f0) ≤ ((rd_T49 t10004 (ji31)).f1)) = false := decide_eq_false c34
                 clear c34
                 have H' := Aside0.mk H
                 clear H
                 obtain ⟨Ao37, co37, eo37⟩ := Kd.R_slice HO_7.out
                 subst eo37
                 have p10009 : 0 ≤ (x9_2 : Int) := of_decide_eq_true (by first | (with_reducible assumption) | assumption)
                 have q10009 : x9_2 < (t10004.length : Int) := of_decide_eq_true (by first | (with_reducible assumption) | assumption)
                 obtain ⟨ad10009, e10009, hx10009_0, hx10009_1⟩ := at_T49 (Kd.R_reads' HO_7.out).2.2 x9_2 p10009 q10009
                 cases e10009
                 replace p10009 := eq_true p10009
                 replace q10009 := eq_true q10009
                 have p10010 : 0 ≤ (x9_2 : Int) := of_decide_eq_true (by first | (with_reducible assumption) | assumption)
                 have q10010 : x9_2 < (t10004.length : Int) := of_decide_eq_true (by first | (with_reducible assumption) | assumption)
                 obtain ⟨ad10010, e10010, hx10010_0, hx10010_1⟩ := at_T49 (Kd.R_reads' HO_7.out).2.2 x9_2 p10010 q10010
                 obtain rfl : ad10009 = ad10010 := (by injection e10010)
                 replace p10010 := eq_true p10010
                 replace q10010 := eq_true q10010
                 have p10011 : 0 ≤ (x9_2 : Int) := of_decide_eq_true (by first | (with_reducible assumption) | assumption)
                 have q10011 : x9_2 < (t10004.length : Int) := of_decide_eq_true (by first | (with_reducible assumption) | assumption)
                 obtain ⟨ad10011, e10011, hx10011_0, hx10011_1⟩ := at_T49 (Kd.R_reads' HO_7.out).2.2 x9_2 p10011 q10011
                 obtain rfl : ad10009 = ad10011 := (by injection e10011)
                 replace p10011 := eq_true p10011
                 replace q10011 := eq_true q10011
                 have p10012 : 0 ≤ (x9_2 : Int) := of_decide_eq_true (by first | (with_reducible assumption) | assumption)
                 have q10012 : x9_2 < (t10004.length : Int) := of_decide_eq_true (by first | (with_reducible assumption) | assumption)
                 obtain ⟨ad10012, e10012, hx10012_0, hx10012_1⟩ := at_T49 (Kd.R_reads' HO_7.out).2.2 x9_2 p10012 q10012
                 obtain rfl : ad10009 = ad10012 := (by injection e10012)
                 replace p10012 := eq_true p10012
                 replace q10012 := eq_true q10012
                 have hcz38_0 : wr.cell? ⟨gb10001, 0, none⟩ = some (.int .i64 a2_0) := (blk_cell BK10001.out 0).trans rfl
                 have hcz38_1 : wr.cell? ⟨gb10001, 1, none⟩ = some (.int .i64 a2_1) := (blk_cell BK10001.out 1).trans rfl
                 have hfz38_0 := blk_frozen BK10001.out 0
                 have hfz38_1 := blk_frozen BK10001.out 1
                 have p10013 : 0 ≤ (x9_2 : Int) := of_decide_eq_true (by first | (with_reducible assumption) | assumption)
                 have q10013 : x9_2 < (t10004.length : Int) := of_decide_eq_true (by first | (with_reducible assumption) | assumption)
                 obtain ⟨ad10013, e10013, hx10013_0, hx10013_1⟩ := at_T49 (Kd.R_reads' HO_7.out).2.2 x9_2 p10013 q10013
                 obtain rfl : ad10009 = ad10013 := (by injection e10013)
                 replace p10013 := eq_true p10013
                 replace q10013 := eq_true q10013
                 have p10014 : 0 ≤ ((ji31) : Int) := of_decide_eq_true (by first | (with_reducible assumption) | assumption)
                 have q10014 : (ji31) < (t10004.length : Int) := of_decide_eq_true (by first | (with_reducible assumption) | assumption)
                 obtain ⟨ad10014, e10014, hx10014_0, hx10014_1⟩ := at_T49 (Kd.R_reads' HO_7.out).2.2 (ji31) p10014 q10014
                 obtain rfl : ad10009 = ad10014 := (by injection e10014)
                 replace p10014 := eq_true p10014
                 replace q10014 := eq_true q10014
                 go_wp2
                 repeat (go_quiet (fail); try go_wp2)
                 go_roundg k2
                 case measure => have := HJ10.out; have := HK2.out; omega
                 case rel => exact ⟨(wrap64 (x9_2 + 1)), (by first | rfl | (simp; done) | (simp [*]; done)), H', ⟨by have := HJ10.out; have := HK2.out; omega⟩, ⟨by (with_reducible repeat (first | apply Kd.R_alloc | apply Kd.R_drewN | apply Kd.R_drew)); exact HO_7.out⟩, ⟨by (with_reducible repeat (first | refine blk_drewN ?_ _ | refine blk_drew ?_ | refine blk_alloc ?_ _)); exact BK10001.out⟩, ⟨by repeat (first | exact HB.out | apply below_alloc | apply pw_below_drewN | apply below_drew1 | refine below_set ?_ GE10001.out)⟩⟩
               ·rw [if_neg c33] at H
                exact absurd H (by simp)
              ·rw [if_neg c32] at H
               exact absurd H (by simp)
             ·rw [if_neg c30] at H
              have c30b0 : decide (0 < x9_2) = false := decide_eq_false c30
              clear c30
              have H' := Aside0.mk H
              clear H
              obtain ⟨Ao39, co39, eo39⟩ := Kd.R_slice HO_7.out
              subst eo39
              have p10009 : 0 ≤ (x9_2 : Int) := of_decide_eq_true (by first | (with_reducible assumption) | assumption)
              have q10009 : x9_2 < (t10004.length : Int) := of_decide_eq_true (by first | (with_reducible assumption) | assumption)
              obtain ⟨ad10009, e10009, hx10009_0, hx10009_1⟩ := at_T49 (Kd.R_reads' HO_7.out).2.2 x9_2 p10009 q10009
              cases e10009
              replace p10009 := eq_true p10009
              replace q10009 := eq_true q10009
              have p10010 : 0 ≤ (x9_2 : Int) := of_decide_eq_true (by first | (with_reducible assumption) | assumption)
              have q10010 : x9_2 < (t10004.length : Int) := of_decide_eq_true (by first | (with_reducible assumption) | assumption)
              obtain ⟨ad10010, e10010, hx10010_0, hx10010_1⟩ := at_T49 (Kd.R_reads' HO_7.out).2.2 x9_2 p10010 q10010
              obtain rfl : ad10009 = ad10010 := (by injection e10010)
              replace p10010 := eq_true p10010
              replace q10010 := eq_true q10010
              have p10011 : 0 ≤ (x9_2 : Int) := of_decide_eq_true (by first | (with_reducible assumption) | assumption)
              have q10011 : x9_2 < (t10004.length : Int) := of_decide_eq_true (by first | (with_reducible assumption) | assumption)
              obtain ⟨ad10011, e10011, hx10011_0, hx10011_1⟩ := at_T49 (Kd.R_reads' HO_7.out).2.2 x9_2 p10011 q10011
              obtain rfl : ad10009 = ad10011 := (by injection e10011)
              replace p10011 := eq_true p10011
              replace q10011 := eq_true q10011
              have p10012 : 0 ≤ (x9_2 : Int) := of_decide_eq_true (by first | (with_reducible assumption) | assumption)
              have q10012 : x9_2 < (t10004.length : Int) := of_decide_eq_true (by first | (with_reducible assumption) | assumption)
              obtain ⟨ad10012, e10012, hx10012_0, hx10012_1⟩ := at_T49 (Kd.R_reads' HO_7.out).2.2 x9_2 p10012 q10012
              obtain rfl : ad10009 = ad10012 := (by injection e10012)
              replace p10012 := eq_true p10012
              replace q10012 := eq_true q10012
              have hcz40_0 : wr.cell? ⟨gb10001, 0, none⟩ = some (.int .i64 a2_0) := (blk_cell BK10001.out 0).trans rfl
              have hcz40_1 : wr.cell? ⟨gb10001, 1, none⟩ = some (.int .i64 a2_1) := (blk_cell BK10001.out 1).trans rfl
              have hfz40_0 := blk_frozen BK10001.out 0
              have hfz40_1 := blk_frozen BK10001.out 1
              go_wp2
              repeat (go_quiet (fail); try go_wp2)
              go_roundg k2
              case measure => have := HJ10.out; have := HK2.out; omega
              case rel => exact ⟨(wrap64 (x9_2 + 1)), (by first | rfl | (simp; done) | (simp [*]; done)), H', ⟨by have := HJ10.out; have := HK2.out; omega⟩, ⟨by (with_reducible repeat (first | apply Kd.R_alloc | apply Kd.R_drewN | apply Kd.R_drew)); exact HO_7.out⟩, ⟨by (with_reducible repeat (first | refine blk_drewN ?_ _ | refine blk_drew ?_ | refine blk_alloc ?_ _)); exact BK10001.out⟩, ⟨by repeat (first | exact HB.out | apply below_alloc | apply pw_below_drewN | apply below_drew1 | refine below_set ?_ GE10001.out)⟩⟩
         ·rw [if_neg c22] at H
          exact absurd H (by simp)
        ·rw [if_neg c21] at H
         have c21b0 : decide (x9_2 < (t10004.length : Int)) = false := decide_eq_false c21
         clear c21
         replace H := Option.bind_eq_some_iff.mp H
         obtain ⟨⟨t10015, t10016⟩, A410, H⟩ := H
         replace H : ((span_Total.f k2 t10004).bind fun bt10019 => ((splice_Waste.f k2 a0 l1 a2_0).bind fun bt10021 => (if t10016 = 0 then (if (t10015.length : Int) = 0 then (if bt10019.2 = 0 then (if bt10021.2 = 0 then (papermilllaw40_SpliceKeeps.j2 k2 a0 l1 t10004 ((wrap64 (bt10019.1 + bt10021.1)) != a0) a2_0 a2_1) else (papermilllaw40_SpliceKeeps.j2 k2 a0 l1 t10004 true a2_0 a2_1)) else (papermilllaw40_SpliceKeeps.j2 k2 a0 l1 t10004 true a2_0 a2_1)) else (papermilllaw40_SpliceKeeps.j2 k2 a0 l1 t10004 true a2_0 a2_1)) else (papermilllaw40_SpliceKeeps.j2 k2 a0 l1 t10004 true a2_0 a2_1)))) = some r := H
         have A41 := Aside0.mk A410
         clear A410
         replace H := Option.bind_eq_some_iff.mp H
         obtain ⟨⟨t10019, t10020⟩, A420, H⟩ := H
         replace H : ((splice_Waste.f k2 a0 l1 a2_0).bind fun bt10021 => (if t10016 = 0 then (if (t10015.length : Int) = 0 then (if t10020 = 0 then (if bt10021.2 = 0 then (papermilllaw40_SpliceKeeps.j2 k2 a0 l1 t10004 ((wrap64 (t10019 + bt10021.1)) != a0) a2_0 a2_1) else (papermilllaw40_SpliceKeeps.j2 k2 a0 l1 t10004 true a2_0 a2_1)) else (papermilllaw40_SpliceKeeps.j2 k2 a0 l1 t10004 true a2_0 a2_1)) else (papermilllaw40_SpliceKeeps.j2 k2 a0 l1 t10004 true a2_0 a2_1)) else (papermilllaw40_SpliceKeeps.j2 k2 a0 l1 t10004 true a2_0 a2_1))) = some r := H
         have A42 := Aside0.mk A420
         clear A420
         replace H := Option.bind_eq_some_iff.mp H
         obtain ⟨⟨t10021, t10022⟩, A430, H⟩ := H
         replace H : (if t10016 = 0 then (if (t10015.length : Int) = 0 then (if t10020 = 0 then (if t10022 = 0 then (papermilllaw40_SpliceKeeps.j2 k2 a0 l1 t10004 ((wrap64 (t10019 + t10021)) != a0) a2_0 a2_1) else (papermilllaw40_SpliceKeeps.j2 k2 a0 l1 t10004 true a2_0 a2_1)) else (papermilllaw40_SpliceKeeps.j2 k2 a0 l1 t10004 true a2_0 a2_1)) else (papermilllaw40_SpliceKeeps.j2 k2 a0 l1 t10004 true a2_0 a2_1)) else (papermilllaw40_SpliceKeeps.j2 k2 a0 l1 t10004 true a2_0 a2_1)) = some r := H
         have A43 := Aside0.mk A430
         clear A430
         have HC44 := Aside0.mk H
         clear H
         obtain ⟨Ao45, co45, eo45⟩ := Kd.R_slice HO_7.out
         subst eo45
         go_upto_region 16 with (first | (go_at_call 32; (with_reducible refine (span_Common.calls k2 _ _ t10004 _ _ l1 t10015 t10016 _ ?side1 ?side2 ?side3 ?side4 A41.out).mono ?_); (case side1 => repeat (first | exact (Kd.R_reads' HO_7.out).2.2 | (with_reducible refine Kd.C_alloc ?_ _) | (with_reducible refine Kd.C_drewN ?_ _) | (with_reducible refine Kd.C_drew ?_))); (case side2 => exact (Kd.R_reads' HO_7.out).2.1); (case side3 => repeat (first | exact (Kd.C_below HR1.out HB.out) | (with_reducible refine Kd.C_alloc ?_ _) | (with_reducible refine Kd.C_drewN ?_ _) | (with_reducible refine Kd.C_drew ?_))); (case side4 => exact HC1.out); rintro e w46 ⟨v10017, rfl, ho0, hb⟩; have n0_ := Aside0.mk (Kd.R_elder' (by (with_reducible repeat (first | apply Kd.R_alloc | apply Kd.R_drewN | apply Kd.R_drew)); exact HO_7.out) (Kd.R_base ho0) hb); have n1_ := Aside0.mk (Kd.R_lower (Kd.R_new' ho0 (Kd.R_lt (by (with_reducible repeat (first | apply Kd.R_alloc | apply Kd.R_drewN | apply Kd.R_drew)); exact HO_7.out))) (below_size (by repeat (first | exact HB.out | apply below_alloc | apply pw_below_drewN | apply below_drew1 | refine below_set ?_ GE10001.out)))); have n2_ := Aside0.mk (blk_below (g := gb10001) (o := .cells #[.int .i64 a2_0, .int .i64 a2_1] 44 (0, 0)) (by (with_reducible repeat (first | refine blk_drewN ?_ _ | refine blk_drew ?_ | refine blk_alloc ?_ _)); exact BK10001.out) hb); have n3_ := Aside0.mk (below_step (by repeat (first | exact HB.out | apply below_alloc | apply pw_below_drewN | apply below_drew1 | refine below_set ?_ GE10001.out)) hb); clear HO_7; clear BK10001; clear HB; have HO_7 := n0_; have HO10018 := n1_; have BK10001 := n2_; have HB := n3_; clear n0_ n1_ n2_ n3_; (try clear hb); (try clear hb2); (try clear hk); (try clear hi); (try clear ho0)) | (go_at_call 33; (with_reducible refine (span_Total.calls k2 _ _ t10004 t10019 t10020 _ ?side1 ?side2 A42.out).mono ?_); (case side1 => repeat (first | exact (Kd.R_reads' HO_7.out).2.2 | (with_reducible refine Kd.C_alloc ?_ _) | (with_reducible refine Kd.C_drewN ?_ _) | (with_reducible refine Kd.C_drew ?_))); (case side2 => exact (Kd.R_reads' HO_7.out).2.1); rintro e w47 ⟨rfl, hb⟩; have n0_ := Aside0.mk (Kd.R_below (by (with_reducible repeat (first | apply Kd.R_alloc | apply Kd.R_drewN | apply Kd.R_drew)); exact HO_7.out) hb); have n1_ := Aside0.mk (Kd.R_below (by (with_reducible repeat (first | apply Kd.R_alloc | apply Kd.R_drewN | apply Kd.R_drew)); exact HO10018.out) hb); have n2_ := Aside0.mk (blk_below (g := gb10001) (o := .cells #[.int .i64 a2_0, .int .i64 a2_1] 44 (0, 0)) (by (with_reducible repeat (first | refine blk_drewN ?_ _ | refine blk_drew ?_ | refine blk_alloc ?_ _)); exact BK10001.out) hb); have n3_ := Aside0.mk (below_step (by repeat (first | exact HB.out | apply below_alloc | apply pw_below_drewN | apply below_drew1 | refine below_set ?_ GE10001.out)) hb); clear HO_7; clear HO10018; clear BK10001; clear HB; have HO_7 := n0_; have HO10018 := n1_; have BK10001 := n2_; have HB := n3_; clear n0_ n1_ n2_ n3_; (try clear hb); (try clear hb2); (try clear hk); (try clear hi); have hcz48_0 : w47.cell? ⟨gb10001, 0, none⟩ = some (.int .i64 a2_0) := (blk_cell BK10001.out 0).trans rfl; have hcz48_1 : w47.cell? ⟨gb10001, 1, none⟩ = some (.int .i64 a2_1) := (blk_cell BK10001.out 1).trans rfl; have hfz48_0 := blk_frozen BK10001.out 0; have hfz48_1 := blk_frozen BK10001.out 1) | (go_at_call 15; (with_reducible refine (splice_Waste.calls k2 a0 _ _ l1 a2_0 t10021 t10022 _ ?side1 ?side2 A43.out).mono ?_); (case side1 => repeat (first | exact (Kd.C_below HR1.out HB.out) | (with_reducible refine Kd.C_alloc ?_ _) | (with_reducible refine Kd.C_drewN ?_ _) | (with_reducible refine Kd.C_drew ?_))); (case side2 => exact HC1.out); rintro e w49 ⟨rfl, hb⟩; have n0_ := Aside0.mk (Kd.R_below (by (with_reducible repeat (first | apply Kd.R_alloc | apply Kd.R_drewN | apply Kd.R_drew)); exact HO_7.out) hb); have n1_ := Aside0.mk (Kd.R_below (by (with_reducible repeat (first | apply Kd.R_alloc | apply Kd.R_drewN | apply Kd.R_drew)); exact HO10018.out) hb); have n2_ := Aside0.mk (blk_below (g := gb10001) (o := .cells #[.int .i64 a2_0, .int .i64 a2_1] 44 (0, 0)) (by (with_reducible repeat (first | refine blk_drewN ?_ _ | refine blk_drew ?_ | refine blk_alloc ?_ _)); exact BK10001.out) hb); have n3_ := Aside0.mk (below_step (by repeat (first | exact HB.out | apply below_alloc | apply pw_below_drewN | apply below_drew1 | refine below_set ?_ GE10001.out)) hb); clear HO_7; clear HO10018; clear BK10001; clear HB; have HO_7 := n0_; have HO10018 := n1_; have BK10001 := n2_; have HB := n3_; clear n0_ n1_ n2_ n3_; (try clear hb); (try clear hb2); (try clear hk); (try clear hi)))
         repeat (go_quiet (first | (go_at_call 32; (with_reducible refine (span_Common.calls k2 _ _ t10004 _ _ l1 t10015 t10016 _ ?side1 ?side2 ?side3 ?side4 A41.out).mono ?_); (case side1 => repeat (first | exact (Kd.R_reads' HO_7.out).2.2 | (with_reducible refine Kd.C_alloc ?_ _) | (with_reducible refine Kd.C_drewN ?_ _) | (with_reducible refine Kd.C_drew ?_))); (case side2 => exact (Kd.R_reads' HO_7.out).2.1); (case side3 => repeat (first | exact (Kd.C_below HR1.out HB.out) | (with_reducible refine Kd.C_alloc ?_ _) | (with_reducible refine Kd.C_drewN ?_ _) | (with_reducible refine Kd.C_drew ?_))); (case side4 => exact HC1.out); rintro e w46 ⟨v10017, rfl, ho0, hb⟩; have n0_ := Aside0.mk (Kd.R_elder' (by (with_reducible repeat (first | apply Kd.R_alloc | apply Kd.R_drewN | apply Kd.R_drew)); exact HO_7.out) (Kd.R_base ho0) hb); have n1_ := Aside0.mk (Kd.R_lower (Kd.R_new' ho0 (Kd.R_lt (by (with_reducible repeat (first | apply Kd.R_alloc | apply Kd.R_drewN | apply Kd.R_drew)); exact HO_7.out))) (below_size (by repeat (first | exact HB.out | apply below_alloc | apply pw_below_drewN | apply below_drew1 | refine below_set ?_ GE10001.out)))); have n2_ := Aside0.mk (blk_below (g := gb10001) (o := .cells #[.int .i64 a2_0, .int .i64 a2_1] 44 (0, 0)) (by (with_reducible repeat (first | refine blk_drewN ?_ _ | refine blk_drew ?_ | refine blk_alloc ?_ _)); exact BK10001.out) hb); have n3_ := Aside0.mk (below_step (by repeat (first | exact HB.out | apply below_alloc | apply pw_below_drewN | apply below_drew1 | refine below_set ?_ GE10001.out)) hb); clear HO_7; clear BK10001; clear HB; have HO_7 := n0_; have HO10018 := n1_; have BK10001 := n2_; have HB := n3_; clear n0_ n1_ n2_ n3_; (try clear hb); (try clear hb2); (try clear hk); (try clear hi); (try clear ho0)) | (go_at_call 33; (with_reducible refine (span_Total.calls k2 _ _ t10004 t10019 t10020 _ ?side1 ?side2 A42.out).mono ?_); (case side1 => repeat (first | exact (Kd.R_reads' HO_7.out).2.2 | (with_reducible refine Kd.C_alloc ?_ _) | (with_reducible refine Kd.C_drewN ?_ _) | (with_reducible refine Kd.C_drew ?_))); (case side2 => exact (Kd.R_reads' HO_7.out).2.1); rintro e w47 ⟨rfl, hb⟩; have n0_ := Aside0.mk (Kd.R_below (by (with_reducible repeat (first | apply Kd.R_alloc | apply Kd.R_drewN | apply Kd.R_drew)); exact HO_7.out) hb); have n1_ := Aside0.mk (Kd.R_below (by (with_reducible repeat (first | apply Kd.R_alloc | apply Kd.R_drewN | apply Kd.R_drew)); exact HO10018.out) hb); have n2_ := Aside0.mk (blk_below (g := gb10001) (o := .cells #[.int .i64 a2_0, .int .i64 a2_1] 44 (0, 0)) (by (with_reducible repeat (first | refine blk_drewN ?_ _ | refine blk_drew ?_ | refine blk_alloc ?_ _)); exact BK10001.out) hb); have n3_ := Aside0.mk (below_step (by repeat (first | exact HB.out | apply below_alloc | apply pw_below_drewN | apply below_drew1 | refine below_set ?_ GE10001.out)) hb); clear HO_7; clear HO10018; clear BK10001; clear HB; have HO_7 := n0_; have HO10018 := n1_; have BK10001 := n2_; have HB := n3_; clear n0_ n1_ n2_ n3_; (try clear hb); (try clear hb2); (try clear hk); (try clear hi); have hcz48_0 : w47.cell? ⟨gb10001, 0, none⟩ = some (.int .i64 a2_0) := (blk_cell BK10001.out 0).trans rfl; have hcz48_1 : w47.cell? ⟨gb10001, 1, none⟩ = some (.int .i64 a2_1) := (blk_cell BK10001.out 1).trans rfl; have hfz48_0 := blk_frozen BK10001.out 0; have hfz48_1 := blk_frozen BK10001.out 1) | (go_at_call 15; (with_reducible refine (splice_Waste.calls k2 a0 _ _ l1 a2_0 t10021 t10022 _ ?side1 ?side2 A43.out).mono ?_); (case side1 => repeat (first | exact (Kd.C_below HR1.out HB.out) | (with_reducible refine Kd.C_alloc ?_ _) | (with_reducible refine Kd.C_drewN ?_ _) | (with_reducible refine Kd.C_drew ?_))); (case side2 => exact HC1.out); rintro e w49 ⟨rfl, hb⟩; have n0_ := Aside0.mk (Kd.R_below (by (with_reducible repeat (first | apply Kd.R_alloc | apply Kd.R_drewN | apply Kd.R_drew)); exact HO_7.out) hb); have n1_ := Aside0.mk (Kd.R_below (by (with_reducible repeat (first | apply Kd.R_alloc | apply Kd.R_drewN | apply Kd.R_drew)); exact HO10018.out) hb); have n2_ := Aside0.mk (blk_below (g := gb10001) (o := .cells #[.int .i64 a2_0, .int .i64 a2_1] 44 (0, 0)) (by (with_reducible repeat (first | refine blk_drewN ?_ _ | refine blk_drew ?_ | refine blk_alloc ?_ _)); exact BK10001.out) hb); have n3_ := Aside0.mk (below_step (by repeat (first | exact HB.out | apply below_alloc | apply pw_below_drewN | apply below_drew1 | refine below_set ?_ GE10001.out)) hb); clear HO_7; clear HO10018; clear BK10001; clear HB; have HO_7 := n0_; have HO10018 := n1_; have BK10001 := n2_; have HB := n3_; clear n0_ n1_ n2_ n3_; (try clear hb); (try clear hb2); (try clear hk); (try clear hi))); go_upto_region 16 with (first | (go_at_call 32; (with_reducible refine (span_Common.calls k2 _ _ t10004 _ _ l1 t10015 t10016 _ ?side1 ?side2 ?side3 ?side4 A41.out).mono ?_); (case side1 => repeat (first | exact (Kd.R_reads' HO_7.out).2.2 | (with_reducible refine Kd.C_alloc ?_ _) | (with_reducible refine Kd.C_drewN ?_ _) | (with_reducible refine Kd.C_drew ?_))); (case side2 => exact (Kd.R_reads' HO_7.out).2.1); (case side3 => repeat (first | exact (Kd.C_below HR1.out HB.out) | (with_reducible refine Kd.C_alloc ?_ _) | (with_reducible refine Kd.C_drewN ?_ _) | (with_reducible refine Kd.C_drew ?_))); (case side4 => exact HC1.out); rintro e w46 ⟨v10017, rfl, ho0, hb⟩; have n0_ := Aside0.mk (Kd.R_elder' (by (with_reducible repeat (first | apply Kd.R_alloc | apply Kd.R_drewN | apply Kd.R_drew)); exact HO_7.out) (Kd.R_base ho0) hb); have n1_ := Aside0.mk (Kd.R_lower (Kd.R_new' ho0 (Kd.R_lt (by (with_reducible repeat (first | apply Kd.R_alloc | apply Kd.R_drewN | apply Kd.R_drew)); exact HO_7.out))) (below_size (by repeat (first | exact HB.out | apply below_alloc | apply pw_below_drewN | apply below_drew1 | refine below_set ?_ GE10001.out)))); have n2_ := Aside0.mk (blk_below (g := gb10001) (o := .cells #[.int .i64 a2_0, .int .i64 a2_1] 44 (0, 0)) (by (with_reducible repeat (first | refine blk_drewN ?_ _ | refine blk_drew ?_ | refine blk_alloc ?_ _)); exact BK10001.out) hb); have n3_ := Aside0.mk (below_step (by repeat (first | exact HB.out | apply below_alloc | apply pw_below_drewN | apply below_drew1 | refine below_set ?_ GE10001.out)) hb); clear HO_7; clear BK10001; clear HB; have HO_7 := n0_; have HO10018 := n1_; have BK10001 := n2_; have HB := n3_; clear n0_ n1_ n2_ n3_; (try clear hb); (try clear hb2); (try clear hk); (try clear hi); (try clear ho0)) | (go_at_call 33; (with_reducible refine (span_Total.calls k2 _ _ t10004 t10019 t10020 _ ?side1 ?side2 A42.out).mono ?_); (case side1 => repeat (first | exact (Kd.R_reads' HO_7.out).2.2 | (with_reducible refine Kd.C_alloc ?_ _) | (with_reducible refine Kd.C_drewN ?_ _) | (with_reducible refine Kd.C_drew ?_))); (case side2 => exact (Kd.R_reads' HO_7.out).2.1); rintro e w47 ⟨rfl, hb⟩; have n0_ := Aside0.mk (Kd.R_below (by (with_reducible repeat (first | apply Kd.R_alloc | apply Kd.R_drewN | apply Kd.R_drew)); exact HO_7.out) hb); have n1_ := Aside0.mk (Kd.R_below (by (with_reducible repeat (first | apply Kd.R_alloc | apply Kd.R_drewN | apply Kd.R_drew)); exact HO10018.out) hb); have n2_ := Aside0.mk (blk_below (g := gb10001) (o := .cells #[.int .i64 a2_0, .int .i64 a2_1] 44 (0, 0)) (by (with_reducible repeat (first | refine blk_drewN ?_ _ | refine blk_drew ?_ | refine blk_alloc ?_ _)); exact BK10001.out) hb); have n3_ := Aside0.mk (below_step (by repeat (first | exact HB.out | apply below_alloc | apply pw_below_drewN | apply below_drew1 | refine below_set ?_ GE10001.out)) hb); clear HO_7; clear HO10018; clear BK10001; clear HB; have HO_7 := n0_; have HO10018 := n1_; have BK10001 := n2_; have HB := n3_; clear n0_ n1_ n2_ n3_; (try clear hb); (try clear hb2); (try clear hk); (try clear hi); have hcz48_0 : w47.cell? ⟨gb10001, 0, none⟩ = some (.int .i64 a2_0) := (blk_cell BK10001.out 0).trans rfl; have hcz48_1 : w47.cell? ⟨gb10001, 1, none⟩ = some (.int .i64 a2_1) := (blk_cell BK10001.out 1).trans rfl; have hfz48_0 := blk_frozen BK10001.out 0; have hfz48_1 := blk_frozen BK10001.out 1) | (go_at_call 15; (with_reducible refine (splice_Waste.calls k2 a0 _ _ l1 a2_0 t10021 t10022 _ ?side1 ?side2 A43.out).mono ?_); (case side1 => repeat (first | exact (Kd.C_below HR1.out HB.out) | (with_reducible refine Kd.C_alloc ?_ _) | (with_reducible refine Kd.C_drewN ?_ _) | (with_reducible refine Kd.C_drew ?_))); (case side2 => exact HC1.out); rintro e w49 ⟨rfl, hb⟩; have n0_ := Aside0.mk (Kd.R_below (by (with_reducible repeat (first | apply Kd.R_alloc | apply Kd.R_drewN | apply Kd.R_drew)); exact HO_7.out) hb); have n1_ := Aside0.mk (Kd.R_below (by (with_reducible repeat (first | apply Kd.R_alloc | apply Kd.R_drewN | apply Kd.R_drew)); exact HO10018.out) hb); have n2_ := Aside0.mk (blk_below (g := gb10001) (o := .cells #[.int .i64 a2_0, .int .i64 a2_1] 44 (0, 0)) (by (with_reducible repeat (first | refine blk_drewN ?_ _ | refine blk_drew ?_ | refine blk_alloc ?_ _)); exact BK10001.out) hb); have n3_ := Aside0.mk (below_step (by repeat (first | exact HB.out | apply below_alloc | apply pw_below_drewN | apply below_drew1 | refine below_set ?_ GE10001.out)) hb); clear HO_7; clear HO10018; clear BK10001; clear HB; have HO_7 := n0_; have HO10018 := n1_; have BK10001 := n2_; have HB := n3_; clear n0_ n1_ n2_ n3_; (try clear hb); (try clear hb2); (try clear hk); (try clear hi))))
         (try simp only [Act.put, List.setIfInBounds_toArray, List.set_cons_zero, List.set_cons_succ])
         go_cut [144] (fun v144 wc => ∃ (kq : Nat) (x144_43 : Bool), v144 = .bool x144_43 ∧ Aside0 (papermilllaw40_SpliceKeeps.j2 kq a0 l1 t10004 x144_43 a2_0 a2_1 = some r) ∧ Aside0 (kq ≤ k2) ∧ Aside0 (Kd.R k49 49 wc w.heap.size (fun _ => True) (.slice Ao45 t10004.length co45) t10004) ∧ Aside0 (wc.heap[gb10001]? = some (.cells #[.int .i64 a2_0, .int .i64 a2_1] 44 (0, 0))) ∧ Aside0 (Below w.heap.size w wc))
         case first => as_aux_lemma =>
          have H := HC44.out
          clear HC44
          by_cases c50 : t10016 = 0
          ·rw [if_pos c50] at H
           have c50b0 : (t10016 == 0) = true := beq_iff_eq.mpr c50
           have c50b1 : (t10016 != 0) = false := bne_eq_false_iff_eq.mpr c50
           clear c50
           (first | rw [c50b0] | (simp only [i64_w, i32_w]; rw [c50b0]) | skip)
           by_cases c51 : (t10015.length : Int) = 0
           ·rw [if_pos c51] at H
            have c51b0 : ((t10015.length : Int) == 0) = true := beq_iff_eq.mpr c51
            have c51b1 : ((t10015.length : Int) != 0) = false := bne_eq_false_iff_eq.mpr c51
            clear c51
            by_cases c52 : t10020 = 0
            ·rw [if_pos c52] at H
             have c52b0 : (t10020 == 0) = true := beq_iff_eq.mpr c52
             have c52b1 : (t10020 != 0) = false := bne_eq_false_iff_eq.mpr c52
             clear c52
             by_cases c53 : t10022 = 0
             ·rw [if_pos c53] at H
              have c53b0 : (t10022 == 0) = true := beq_iff_eq.mpr c53
              have c53b1 : (t10022 != 0) = false := bne_eq_false_iff_eq.mpr c53
              clear c53
              have H' := Aside0.mk H
              clear H
              obtain ⟨Ao54, co54, eo54⟩ := Kd.R_slice HO10018.out
              subst eo54
              go_wp2
              repeat (go_quiet (fail); try go_wp2)
              go_meet
              case rel => exact ⟨_, (((wrap64 (t10019 + t10021)) != a0)), (by first | rfl | (simp; done) | (simp [*]; done)), H', ⟨by have := HJ10.out; have := HK2.out; first | omega | exact Nat.le_refl _⟩, ⟨by (with_reducible repeat (first | apply Kd.R_alloc | apply Kd.R_drewN | apply Kd.R_drew)); exact Kd.R_mono HO_7.out (fun _ hk => trivial)⟩, ⟨by (with_reducible repeat (first | refine blk_drewN ?_ _ | refine blk_drew ?_ | refine blk_alloc ?_ _)); exact BK10001.out⟩, ⟨by repeat (first | exact HB.out | apply below_alloc | apply pw_below_drewN | apply below_drew1 | refine below_set ?_ GE10001.out)⟩⟩
             ·rw [if_neg c53] at H
              have c53b0 : (t10022 == 0) = false := beq_eq_false_iff_ne.mpr c53
              have c53b1 : (t10022 != 0) = true := bne_iff_ne.mpr c53
              have H' := Aside0.mk H
              clear H
              obtain ⟨Ao55, co55, eo55⟩ := Kd.R_slice HO10018.out
              subst eo55
              go_wp2
              repeat (go_quiet (fail); try go_wp2)
              go_meet
              case rel => exact ⟨_, (true), (by first | rfl | (simp; done) | (simp [*]; done)), H', ⟨by have := HJ10.out; have := HK2.out; first | omega | exact Nat.le_refl _⟩, ⟨by (with_reducible repeat (first | apply Kd.R_alloc | apply Kd.R_drewN | apply Kd.R_drew)); exact Kd.R_mono HO_7.out (fun _ hk => trivial)⟩, ⟨by (with_reducible repeat (first | refine blk_drewN ?_ _ | refine blk_drew ?_ | refine blk_alloc ?_ _)); exact BK10001.out⟩, ⟨by repeat (first | exact HB.out | apply below_alloc | apply pw_below_drewN | apply below_drew1 | refine below_set ?_ GE10001.out)⟩⟩
            ·rw [if_neg c52] at H
             have c52b0 : (t10020 == 0) = false := beq_eq_false_iff_ne.mpr c52
             have c52b1 : (t10020 != 0) = true := bne_iff_ne.mpr c52
             have H' := Aside0.mk H
             clear H
             obtain ⟨Ao56, co56, eo56⟩ := Kd.R_slice HO10018.out
             subst eo56
             go_wp2
             repeat (go_quiet (fail); try go_wp2)
             go_meet
             case rel => exact ⟨_, (true), (by first | rfl | (simp; done) | (simp [*]; done)), H', ⟨by have := HJ10.out; have := HK2.out; first | omega | exact Nat.le_refl _⟩, ⟨by (with_reducible repeat (first | apply Kd.R_alloc | apply Kd.R_drewN | apply Kd.R_drew)); exact Kd.R_mono HO_7.out (fun _ hk => trivial)⟩, ⟨by (with_reducible repeat (first | refine blk_drewN ?_ _ | refine blk_drew ?_ | refine blk_alloc ?_ _)); exact BK10001.out⟩, ⟨by repeat (first | exact HB.out | apply below_alloc | apply pw_below_drewN | apply below_drew1 | refine below_set ?_ GE10001.out)⟩⟩
           ·rw [if_neg c51] at H
            have c51b0 : ((t10015.length : Int) == 0) = false := beq_eq_false_iff_ne.mpr c51
            have c51b1 : ((t10015.length : Int) != 0) = true := bne_iff_ne.mpr c51
            have c51b2 : ¬ (t10015 = []) := fun h_ => c51 (by rw [h_]; rfl)
            have H' := Aside0.mk H
            clear H
            obtain ⟨Ao57, co57, eo57⟩ := Kd.R_slice HO10018.out
            subst eo57
            go_wp2
            repeat (go_quiet (fail); try go_wp2)
            go_meet
            case rel => exact ⟨_, (true), (by first | rfl | (simp; done) | (simp [*]; done)), H', ⟨by have := HJ10.out; have := HK2.out; first | omega | exact Nat.le_refl _⟩, ⟨by (with_reducible repeat (first | apply Kd.R_alloc | apply Kd.R_drewN | apply Kd.R_drew)); exact Kd.R_mono HO_7.out (fun _ hk => trivial)⟩, ⟨by (with_reducible repeat (first | refine blk_drewN ?_ _ | refine blk_drew ?_ | refine blk_alloc ?_ _)); exact BK10001.out⟩, ⟨by repeat (first | exact HB.out | apply below_alloc | apply pw_below_drewN | apply below_drew1 | refine below_set ?_ GE10001.out)⟩⟩
          ·rw [if_neg c50] at H
           have c50b0 : (t10016 == 0) = false := beq_eq_false_iff_ne.mpr c50
           have c50b1 : (t10016 != 0) = true := bne_iff_ne.mpr c50
           (first | rw [c50b0] | (simp only [i64_w, i32_w]; rw [c50b0]) | skip)
           have H' := Aside0.mk H
           clear H
           go_wp2
           repeat (go_quiet (fail); try go_wp2)
           go_meet
           case rel => exact ⟨_, (true), (by first | rfl | (simp; done) | (simp [*]; done)), H', ⟨by have := HJ10.out; have := HK2.out; first | omega | exact Nat.le_refl _⟩, ⟨by (with_reducible repeat (first | apply Kd.R_alloc | apply Kd.R_drewN | apply Kd.R_drew)); exact Kd.R_mono HO_7.out (fun _ hk => trivial)⟩, ⟨by (with_reducible repeat (first | refine blk_drewN ?_ _ | refine blk_drew ?_ | refine blk_alloc ?_ _)); exact BK10001.out⟩, ⟨by repeat (first | exact HB.out | apply below_alloc | apply pw_below_drewN | apply below_drew1 | refine below_set ?_ GE10001.out)⟩⟩
         case rest => as_aux_lemma =>
          clear HC44
          try clear c1
          try clear p1
          try clear q1
          try clear hx1
          try clear c2
          try clear p2
          try clear c3
          try clear c5
          try clear p6
          try clear c9
          try clear c10
          try clear c10b0
          try clear c10b1
          try clear p10
          try clear q10
          try clear hx10
          try clear c15
          try clear c15b0
          try clear c15b1
          try clear c17
          try clear c17b0
          try clear c20
          try clear c21
          try clear c21b0
          try clear c22
          try clear c22b0
          try clear c23
          try clear c23b0
          try clear c25
          try clear c25b0
          try clear c27
          try clear c27b0
          try clear c30
          try clear c30b0
          try clear c32
          try clear c32b0
          try clear c33
          try clear c33b0
          try clear c34
          try clear c34b0
          try clear c50
          try clear c50b0
          try clear c50b1
          try clear c51
          try clear c51b0
          try clear c51b1
          try clear c51b2
          try clear c52
          try clear c52b0
          try clear c52b1
          try clear c53
          try clear c53b0
          try clear c53b1
          try clear hcz13_0
          try clear hcz13_1
          try clear hcz29_0
          try clear hcz29_1
          try clear hcz36_0
          try clear hcz36_1
          try clear hcz38_0
          try clear hcz38_1
          try clear hcz40_0
          try clear hcz40_1
          try clear hcz48_0
          try clear hcz48_1
          try clear hfz13_0
          try clear hfz13_1
          try clear hfz29_0
          try clear hfz29_1
          try clear hfz36_0
          try clear hfz36_1
          try clear hfz38_0
          try clear hfz38_1
          try clear hfz40_0
          try clear hfz40_1
          try clear hfz48_0
          try clear hfz48_1
          try clear hx10009_0
          try clear hx10009_1
          try clear hx10010_0
          try clear hx10010_1
          try clear hx10011_0
          try clear hx10011_1
          try clear hx10012_0
          try clear hx10012_1
          try clear hx10013_0
          try clear hx10013_1
          try clear hx10014_0
          try clear hx10014_1
          try clear p10009
          try clear p10010
          try clear p10011
          try clear p10012
          try clear p10013
          try clear p10014
          try clear p2
          try clear q10009
          try clear q10010
          try clear q10011
          try clear q10012
          try clear q10013
          try clear q10014
          obtain ⟨kq, x144_43, rfl, HA, HJ43, HO_7, BK10001, HB⟩ := hcut
          cases kq with
          | zero => exact absurd HA.out (by simp [papermilllaw40_SpliceKeeps.j2])
          | succ kj43 =>
           have H := HA.out
           clear HA
           simp only [papermilllaw40_SpliceKeeps.j2] at H
           by_cases c58 : x144_43 = true
           ·subst c58
            have H1 : (some false) = some r := by rw [if_pos rfl] at H; exact H
            clear H
            have H := H1
            clear H1
            obtain rfl := Option.some.inj H
            go_wp2
            repeat (go_quiet (fail); try go_wp2)
            go_ret
            exact ⟨by first | rfl | (simp [errW_none, errW_some] <;> rfl) | (simp [*, errW_none, errW_some] <;> rfl), by repeat (first | exact HB.out | apply below_alloc | apply pw_below_drewN | apply below_drew1 | refine below_set ?_ GE10001.out)⟩
           ·replace c58 := Bool.eq_false_iff.mpr c58
            subst c58
            have H1 : (if a2_1 < 0 then (papermilllaw40_SpliceKeeps.j3 kj43 a0 l1 true a2_0 a2_1) else (if a2_1 ≥ a0 then (papermilllaw40_SpliceKeeps.j3 kj43 a0 l1 true a2_0 a2_1) else ((span_Has.f l1 a2_1).bind fun t10023 => (if t10023 = true then (papermilllaw40_SpliceKeeps.j3 kj43 a0 l1 true a2_0 a2_1) else ((span_Has.f t10004 a2_1).bind fun t10024 => (papermilllaw40_SpliceKeeps.j3 kj43 a0 l1 t10024 a2_0 a2_1)))))) = some r := by rw [if_neg (show ¬ (false = true) by decide)] at H; first | exact H | simpa using H
            clear H
            have H := H1
            clear H1
            have HC59 := Aside0.mk H
            clear H
            go_upto_region 18 with (fail)
            repeat (go_quiet (fail); go_upto_region 18 with (fail))
            go_cut [165] (fun v165 wc => ∃ (kq : Nat) (x165_58 : Bool), v165 = .bool x165_58 ∧ Aside0 (papermilllaw40_SpliceKeeps.j3 kq a0 l1 x165_58 a2_0 a2_1 = some r) ∧ Aside0 (kq ≤ kj43) ∧ Aside0 (wc.heap[gb10001]? = some (.cells #[.int .i64 a2_0, .int .i64 a2_1] 44 (0, 0))) ∧ Aside0 (Below w.heap.size w wc))
            case first => as_aux_lemma =>
             have H := HC59.out
             clear HC59
             by_cases c60 : a2_1 < 0
             ·rw [if_pos c60] at H
              have c60b0 : decide (a2_1 < 0) = true := decide_eq_true c60
              clear c60
              (first | rw [c60b0] | (simp only [i64_w, i32_w]; rw [c60b0]) | skip)
              have H' := Aside0.mk H
              clear H
              have hcz61_0 : wc.cell? ⟨gb10001, 0, none⟩ = some (.int .i64 a2_0) := (blk_cell BK10001.out 0).trans rfl
              have hcz61_1 : wc.cell? ⟨gb10001, 1, none⟩ = some (.int .i64 a2_1) := (blk_cell BK10001.out 1).trans rfl
              have hfz61_0 := blk_frozen BK10001.out 0
              have hfz61_1 := blk_frozen BK10001.out 1
              go_wp2
              repeat (go_quiet (fail); try go_wp2)
              go_meet
              case rel => exact ⟨_, (true), (by first | rfl | (simp; done) | (simp [*]; done)), H', ⟨by have := HJ10.out; have := HK2.out; have := HJ43.out; first | omega | exact Nat.le_refl _⟩, ⟨by (with_reducible repeat (first | refine blk_drewN ?_ _ | refine blk_drew ?_ | refine blk_alloc ?_ _)); exact BK10001.out⟩, ⟨by repeat (first | exact HB.out | apply below_alloc | apply pw_below_drewN | apply below_drew1 | refine below_set ?_ GE10001.out)⟩⟩
             ·rw [if_neg c60] at H
              have c60b0 : decide (a2_1 < 0) = false := decide_eq_false c60
              clear c60
              (first | rw [c60b0] | (simp only [i64_w, i32_w]; rw [c60b0]) | skip)
              by_cases c62 : a2_1 ≥ a0
              ·rw [if_pos c62] at H
               have c62b0 : decide (a0 ≤ a2_1) = true := decide_eq_true c62
               clear c62
               have H' := Aside0.mk H
               clear H
               have hcz63_0 : wc.cell? ⟨gb10001, 0, none⟩ = some (.int .i64 a2_0) := (blk_cell BK10001.out 0).trans rfl
               have hcz63_1 : wc.cell? ⟨gb10001, 1, none⟩ = some (.int .i64 a2_1) := (blk_cell BK10001.out 1).trans rfl
               have hfz63_0 := blk_frozen BK10001.out 0
               have hfz63_1 := blk_frozen BK10001.out 1
               go_wp2
               repeat (go_quiet (fail); try go_wp2)
               go_meet
               case rel => exact ⟨_, (true), (by first | rfl | (simp; done) | (simp [*]; done)), H', ⟨by have := HJ10.out; have := HK2.out; have := HJ43.out; first | omega | exact Nat.le_refl _⟩, ⟨by (with_reducible repeat (first | refine blk_drewN ?_ _ | refine blk_drew ?_ | refine blk_alloc ?_ _)); exact BK10001.out⟩, ⟨by repeat (first | exact HB.out | apply below_alloc | apply pw_below_drewN | apply below_drew1 | refine below_set ?_ GE10001.out)⟩⟩
              ·rw [if_neg c62] at H
               have c62b0 : decide (a0 ≤ a2_1) = false := decide_eq_false c62
               clear c62
               replace H := Option.bind_eq_some_iff.mp H
               obtain ⟨t10023, A640, H⟩ := H
               replace H : (if t10023 = true then (papermilllaw40_SpliceKeeps.j3 kj43 a0 l1 true a2_0 a2_1) else ((span_Has.f t10004 a2_1).bind fun t10024 => (papermilllaw40_SpliceKeeps.j3 kj43 a0 l1 t10024 a2_0 a2_1))) = some r := H
               have A64 := Aside0.mk A640
               clear A640
               by_cases c65 : t10023 = true
               ·subst c65
                have H1 : (papermilllaw40_SpliceKeeps.j3 kj43 a0 l1 true a2_0 a2_1) = some r := by rw [if_pos rfl] at H; exact H
                clear H
                have H := H1
                clear H1
                have H' := Aside0.mk H
                clear H
                have hcz66_0 : wc.cell? ⟨gb10001, 0, none⟩ = some (.int .i64 a2_0) := (blk_cell BK10001.out 0).trans rfl
                have hcz66_1 : wc.cell? ⟨gb10001, 1, none⟩ = some (.int .i64 a2_1) := (blk_cell BK10001.out 1).trans rfl
                have hfz66_0 := blk_frozen BK10001.out 0
                have hfz66_1 := blk_frozen BK10001.out 1
                go_wp2_with (first | (go_at_call 28; (with_reducible refine (span_Has.calls _ _ l1 a2_1 true _ ?side1 ?side2 A64.out).mono ?_); (case side1 => repeat (first | exact (Kd.C_below HR1.out HB.out) | (with_reducible refine Kd.C_alloc ?_ _) | (with_reducible refine Kd.C_drewN ?_ _) | (with_reducible refine Kd.C_drew ?_))); (case side2 => exact HC1.out); rintro e w67 ⟨rfl, hb⟩; have n0_ := Aside0.mk (Kd.R_below (by (with_reducible repeat (first | apply Kd.R_alloc | apply Kd.R_drewN | apply Kd.R_drew)); exact HO_7.out) hb); have n1_ := Aside0.mk (blk_below (g := gb10001) (o := .cells #[.int .i64 a2_0, .int .i64 a2_1] 44 (0, 0)) (by (with_reducible repeat (first | refine blk_drewN ?_ _ | refine blk_drew ?_ | refine blk_alloc ?_ _)); exact BK10001.out) hb); have n2_ := Aside0.mk (below_step (by repeat (first | exact HB.out | apply below_alloc | apply pw_below_drewN | apply below_drew1 | refine below_set ?_ GE10001.out)) hb); clear HO_7; clear BK10001; clear HB; have HO_7 := n0_; have BK10001 := n1_; have HB := n2_; clear n0_ n1_ n2_; (try clear hb); (try clear hb2); (try clear hk); (try clear hi)))
                repeat (go_quiet (first | (go_at_call 28; (with_reducible refine (span_Has.calls _ _ l1 a2_1 true _ ?side1 ?side2 A64.out).mono ?_); (case side1 => repeat (first | exact (Kd.C_below HR1.out HB.out) | (with_reducible refine Kd.C_alloc ?_ _) | (with_reducible refine Kd.C_drewN ?_ _) | (with_reducible refine Kd.C_drew ?_))); (case side2 => exact HC1.out); rintro e w67 ⟨rfl, hb⟩; have n0_ := Aside0.mk (Kd.R_below (by (with_reducible repeat (first | apply Kd.R_alloc | apply Kd.R_drewN | apply Kd.R_drew)); exact HO_7.out) hb); have n1_ := Aside0.mk (blk_below (g := gb10001) (o := .cells #[.int .i64 a2_0, .int .i64 a2_1] 44 (0, 0)) (by (with_reducible repeat (first | refine blk_drewN ?_ _ | refine blk_drew ?_ | refine blk_alloc ?_ _)); exact BK10001.out) hb); have n2_ := Aside0.mk (below_step (by repeat (first | exact HB.out | apply below_alloc | apply pw_below_drewN | apply below_drew1 | refine below_set ?_ GE10001.out)) hb); clear HO_7; clear BK10001; clear HB; have HO_7 := n0_; have BK10001 := n1_; have HB := n2_; clear n0_ n1_ n2_; (try clear hb); (try clear hb2); (try clear hk); (try clear hi))); try go_wp2_with (first | (go_at_call 28; (with_reducible refine (span_Has.calls _ _ l1 a2_1 true _ ?side1 ?side2 A64.out).mono ?_); (case side1 => repeat (first | exact (Kd.C_below HR1.out HB.out) | (with_reducible refine Kd.C_alloc ?_ _) | (with_reducible refine Kd.C_drewN ?_ _) | (with_reducible refine Kd.C_drew ?_))); (case side2 => exact HC1.out); rintro e w67 ⟨rfl, hb⟩; have n0_ := Aside0.mk (Kd.R_below (by (with_reducible repeat (first | apply Kd.R_alloc | apply Kd.R_drewN | apply Kd.R_drew)); exact HO_7.out) hb); have n1_ := Aside0.mk (blk_below (g := gb10001) (o := .cells #[.int .i64 a2_0, .int .i64 a2_1] 44 (0, 0)) (by (with_reducible repeat (first | refine blk_drewN ?_ _ | refine blk_drew ?_ | refine blk_alloc ?_ _)); exact BK10001.out) hb); have n2_ := Aside0.mk (below_step (by repeat (first | exact HB.out | apply below_alloc | apply pw_below_drewN | apply below_drew1 | refine below_set ?_ GE10001.out)) hb); clear HO_7; clear BK10001; clear HB; have HO_7 := n0_; have BK10001 := n1_; have HB := n2_; clear n0_ n1_ n2_; (try clear hb); (try clear hb2); (try clear hk); (try clear hi))))
                go_meet
                case rel => exact ⟨_, (true), (by first | rfl | (simp; done) | (simp [*]; done)), H', ⟨by have := HJ10.out; have := HK2.out; have := HJ43.out; first | omega | exact Nat.le_refl _⟩, ⟨by (with_reducible repeat (first | refine blk_drewN ?_ _ | refine blk_drew ?_ | refine blk_alloc ?_ _)); exact BK10001.out⟩, ⟨by repeat (first | exact HB.out | apply below_alloc | apply pw_below_drewN | apply below_drew1 | refine below_set ?_ GE10001.out)⟩⟩
               ·replace c65 := Bool.eq_false_iff.mpr c65
                subst c65
                have H1 : ((span_Has.f t10004 a2_1).bind fun t10024 => (papermilllaw40_SpliceKeeps.j3 kj43 a0 l1 t10024 a2_0 a2_1)) = some r := by rw [if_neg (show ¬ (false = true) by decide)] at H; first | exact H | simpa using H
                clear H
                have H := H1
                clear H1
                replace H := Option.bind_eq_some_iff.mp H
                obtain ⟨t10024, A680, H⟩ := H
                replace H : (papermilllaw40_SpliceKeeps.j3 kj43 a0 l1 t10024 a2_0 a2_1) = some r := H
                have A68 := Aside0.mk A680
                clear A680
                have H' := Aside0.mk H
                clear H
                have hcz69_0 : wc.cell? ⟨gb10001, 0, none⟩ = some (.int .i64 a2_0) := (blk_cell BK10001.out 0).trans rfl
                have hcz69_1 : wc.cell? ⟨gb10001, 1, none⟩ = some (.int .i64 a2_1) := (blk_cell BK10001.out 1).trans rfl
                have hfz69_0 := blk_frozen BK10001.out 0
                have hfz69_1 := blk_frozen BK10001.out 1
                go_wp2_with (first | (go_at_call 28; (with_reducible refine (span_Has.calls _ _ l1 a2_1 false _ ?side1 ?side2 A64.out).mono ?_); (case side1 => repeat (first | exact (Kd.C_below HR1.out HB.out) | (with_reducible refine Kd.C_alloc ?_ _) | (with_reducible refine Kd.C_drewN ?_ _) | (with_reducible refine Kd.C_drew ?_))); (case side2 => exact HC1.out); rintro e w70 ⟨rfl, hb⟩; have n0_ := Aside0.mk (Kd.R_below (by (with_reducible repeat (first | apply Kd.R_alloc | apply Kd.R_drewN | apply Kd.R_drew)); exact HO_7.out) hb); have n1_ := Aside0.mk (blk_below (g := gb10001) (o := .cells #[.int .i64 a2_0, .int .i64 a2_1] 44 (0, 0)) (by (with_reducible repeat (first | refine blk_drewN ?_ _ | refine blk_drew ?_ | refine blk_alloc ?_ _)); exact BK10001.out) hb); have n2_ := Aside0.mk (below_step (by repeat (first | exact HB.out | apply below_alloc | apply pw_below_drewN | apply below_drew1 | refine below_set ?_ GE10001.out)) hb); clear HO_7; clear BK10001; clear HB; have HO_7 := n0_; have BK10001 := n1_; have HB := n2_; clear n0_ n1_ n2_; (try clear hb); (try clear hb2); (try clear hk); (try clear hi); have hcz71_0 : w70.cell? ⟨gb10001, 0, none⟩ = some (.int .i64 a2_0) := (blk_cell BK10001.out 0).trans rfl; have hcz71_1 : w70.cell? ⟨gb10001, 1, none⟩ = some (.int .i64 a2_1) := (blk_cell BK10001.out 1).trans rfl; have hfz71_0 := blk_frozen BK10001.out 0; have hfz71_1 := blk_frozen BK10001.out 1) | (go_at_call 28; (with_reducible refine (span_Has.calls _ _ t10004 a2_1 t10024 _ ?side1 ?side2 A68.out).mono ?_); (case side1 => repeat (first | exact (Kd.R_reads' HO_7.out).2.2 | (with_reducible refine Kd.C_alloc ?_ _) | (with_reducible refine Kd.C_drewN ?_ _) | (with_reducible refine Kd.C_drew ?_))); (case side2 => exact (Kd.R_reads' HO_7.out).2.1); rintro e w72 ⟨rfl, hb⟩; have n0_ := Aside0.mk (Kd.R_below (by (with_reducible repeat (first | apply Kd.R_alloc | apply Kd.R_drewN | apply Kd.R_drew)); exact HO_7.out) hb); have n1_ := Aside0.mk (blk_below (g := gb10001) (o := .cells #[.int .i64 a2_0, .int .i64 a2_1] 44 (0, 0)) (by (with_reducible repeat (first | refine blk_drewN ?_ _ | refine blk_drew ?_ | refine blk_alloc ?_ _)); exact BK10001.out) hb); have n2_ := Aside0.mk (below_step (by repeat (first | exact HB.out | apply below_alloc | apply pw_below_drewN | apply below_drew1 | refine below_set ?_ GE10001.out)) hb); clear HO_7; clear BK10001; clear HB; have HO_7 := n0_; have BK10001 := n1_; have HB := n2_; clear n0_ n1_ n2_; (try clear hb); (try clear hb2); (try clear hk); (try clear hi)))
                repeat (go_quiet (first | (go_at_call 28; (with_reducible refine (span_Has.calls _ _ l1 a2_1 false _ ?side1 ?side2 A64.out).mono ?_); (case side1 => repeat (first | exact (Kd.C_below HR1.out HB.out) | (with_reducible refine Kd.C_alloc ?_ _) | (with_reducible refine Kd.C_drewN ?_ _) | (with_reducible refine Kd.C_drew ?_))); (case side2 => exact HC1.out); rintro e w70 ⟨rfl, hb⟩; have n0_ := Aside0.mk (Kd.R_below (by (with_reducible repeat (first | apply Kd.R_alloc | apply Kd.R_drewN | apply Kd.R_drew)); exact HO_7.out) hb); have n1_ := Aside0.mk (blk_below (g := gb10001) (o := .cells #[.int .i64 a2_0, .int .i64 a2_1] 44 (0, 0)) (by (with_reducible repeat (first | refine blk_drewN ?_ _ | refine blk_drew ?_ | refine blk_alloc ?_ _)); exact BK10001.out) hb); have n2_ := Aside0.mk (below_step (by repeat (first | exact HB.out | apply below_alloc | apply pw_below_drewN | apply below_drew1 | refine below_set ?_ GE10001.out)) hb); clear HO_7; clear BK10001; clear HB; have HO_7 := n0_; have BK10001 := n1_; have HB := n2_; clear n0_ n1_ n2_; (try clear hb); (try clear hb2); (try clear hk); (try clear hi); have hcz71_0 : w70.cell? ⟨gb10001, 0, none⟩ = some (.int .i64 a2_0) := (blk_cell BK10001.out 0).trans rfl; have hcz71_1 : w70.cell? ⟨gb10001, 1, none⟩ = some (.int .i64 a2_1) := (blk_cell BK10001.out 1).trans rfl; have hfz71_0 := blk_frozen BK10001.out 0; have hfz71_1 := blk_frozen BK10001.out 1) | (go_at_call 28; (with_reducible refine (span_Has.calls _ _ t10004 a2_1 t10024 _ ?side1 ?side2 A68.out).mono ?_); (case side1 => repeat (first | exact (Kd.R_reads' HO_7.out).2.2 | (with_reducible refine Kd.C_alloc ?_ _) | (with_reducible refine Kd.C_drewN ?_ _) | (with_reducible refine Kd.C_drew ?_))); (case side2 => exact (Kd.R_reads' HO_7.out).2.1); rintro e w72 ⟨rfl, hb⟩; have n0_ := Aside0.mk (Kd.R_below (by (with_reducible repeat (first | apply Kd.R_alloc | apply Kd.R_drewN | apply Kd.R_drew)); exact HO_7.out) hb); have n1_ := Aside0.mk (blk_below (g := gb10001) (o := .cells #[.int .i64 a2_0, .int .i64 a2_1] 44 (0, 0)) (by (with_reducible repeat (first | refine blk_drewN ?_ _ | refine blk_drew ?_ | refine blk_alloc ?_ _)); exact BK10001.out) hb); have n2_ := Aside0.mk (below_step (by repeat (first | exact HB.out | apply below_alloc | apply pw_below_drewN | apply below_drew1 | refine below_set ?_ GE10001.out)) hb); clear HO_7; clear BK10001; clear HB; have HO_7 := n0_; have BK10001 := n1_; have HB := n2_; clear n0_ n1_ n2_; (try clear hb); (try clear hb2); (try clear hk); (try clear hi))); try go_wp2_with (first | (go_at_call 28; (with_reducible refine (span_Has.calls _ _ l1 a2_1 false _ ?side1 ?side2 A64.out).mono ?_); (case side1 => repeat (first | exact (Kd.C_below HR1.out HB.out) | (with_reducible refine Kd.C_alloc ?_ _) | (with_reducible refine Kd.C_drewN ?_ _) | (with_reducible refine Kd.C_drew ?_))); (case side2 => exact HC1.out); rintro e w70 ⟨rfl, hb⟩; have n0_ := Aside0.mk (Kd.R_below (by (with_reducible repeat (first | apply Kd.R_alloc | apply Kd.R_drewN | apply Kd.R_drew)); exact HO_7.out) hb); have n1_ := Aside0.mk (blk_below (g := gb10001) (o := .cells #[.int .i64 a2_0, .int .i64 a2_1] 44 (0, 0)) (by (with_reducible repeat (first | refine blk_drewN ?_ _ | refine blk_drew ?_ | refine blk_alloc ?_ _)); exact BK10001.out) hb); have n2_ := Aside0.mk (below_step (by repeat (first | exact HB.out | apply below_alloc | apply pw_below_drewN | apply below_drew1 | refine below_set ?_ GE10001.out)) hb); clear HO_7; clear BK10001; clear HB; have HO_7 := n0_; have BK10001 := n1_; have HB := n2_; clear n0_ n1_ n2_; (try clear hb); (try clear hb2); (try clear hk); (try clear hi); have hcz71_0 : w70.cell? ⟨gb10001, 0, none⟩ = some (.int .i64 a2_0) := (blk_cell BK10001.out 0).trans rfl; have hcz71_1 : w70.cell? ⟨gb10001, 1, none⟩ = some (.int .i64 a2_1) := (blk_cell BK10001.out 1).trans rfl; have hfz71_0 := blk_frozen BK10001.out 0; have hfz71_1 := blk_frozen BK10001.out 1) | (go_at_call 28; (with_reducible refine (span_Has.calls _ _ t10004 a2_1 t10024 _ ?side1 ?side2 A68.out).mono ?_); (case side1 => repeat (first | exact (Kd.R_reads' HO_7.out).2.2 | (with_reducible refine Kd.C_alloc ?_ _) | (with_reducible refine Kd.C_drewN ?_ _) | (with_reducible refine Kd.C_drew ?_))); (case side2 => exact (Kd.R_reads' HO_7.out).2.1); rintro e w72 ⟨rfl, hb⟩; have n0_ := Aside0.mk (Kd.R_below (by (with_reducible repeat (first | apply Kd.R_alloc | apply Kd.R_drewN | apply Kd.R_drew)); exact HO_7.out) hb); have n1_ := Aside0.mk (blk_below (g := gb10001) (o := .cells #[.int .i64 a2_0, .int .i64 a2_1] 44 (0, 0)) (by (with_reducible repeat (first | refine blk_drewN ?_ _ | refine blk_drew ?_ | refine blk_alloc ?_ _)); exact BK10001.out) hb); have n2_ := Aside0.mk (below_step (by repeat (first | exact HB.out | apply below_alloc | apply pw_below_drewN | apply below_drew1 | refine below_set ?_ GE10001.out)) hb); clear HO_7; clear BK10001; clear HB; have HO_7 := n0_; have BK10001 := n1_; have HB := n2_; clear n0_ n1_ n2_; (try clear hb); (try clear hb2); (try clear hk); (try clear hi))))
                go_meet
                case rel => exact ⟨_, (t10024), (by first | rfl | (simp; done) | (simp [*]; done)), H', ⟨by have := HJ10.out; have := HK2.out; have := HJ43.out; first | omega | exact Nat.le_refl _⟩, ⟨by (with_reducible repeat (first | refine blk_drewN ?_ _ | refine blk_drew ?_ | refine blk_alloc ?_ _)); exact BK10001.out⟩, ⟨by repeat (first | exact HB.out | apply below_alloc | apply pw_below_drewN | apply below_drew1 | refine below_set ?_ GE10001.out)⟩⟩
            case rest => as_aux_lemma =>
             clear HC59
             try clear c1
             try clear p1
             try clear q1
             try clear hx1
             try clear c2
             try clear p2
             try clear c3
             try clear c5
             try clear c6
             try clear p6
             try clear c9
             try clear c10
             try clear c10b0
             try clear c10b1
             try clear p10
             try clear q10
             try clear hx10
             try clear c15
             try clear c15b0
             try clear c15b1
             try clear c17
             try clear c17b0
             try clear c20
             try clear c21
             try clear c21b0
             try clear c22
             try clear c22b0
             try clear c23
             try clear c23b0
             try clear c25
             try clear c25b0
             try clear c27
             try clear c27b0
             try clear c30
             try clear c30b0
             try clear c32
             try clear c32b0
             try clear c33
             try clear c33b0
             try clear c34
             try clear c34b0
             try clear c50
             try clear c50b0
             try clear c50b1
             try clear c51
             try clear c51b0
             try clear c51b1
             try clear c51b2
             try clear c52
             try clear c52b0
             try clear c52b1
             try clear c53
             try clear c53b0
             try clear c53b1
             try clear c58
             try clear c60
             try clear c60b0
             try clear c62
             try clear c62b0
             try clear p64
             try clear c65
             try clear hcz13_0
             try clear hcz13_1
             try clear hcz29_0
             try clear hcz29_1
             try clear hcz36_0
             try clear hcz36_1
             try clear hcz38_0
             try clear hcz38_1
             try clear hcz40_0
             try clear hcz40_1
             try clear hcz48_0
             try clear hcz48_1
             try clear hcz61_0
             try clear hcz61_1
             try clear hcz63_0
             try clear hcz63_1
             try clear hcz66_0
             try clear hcz66_1
             try clear hcz69_0
             try clear hcz69_1
             try clear hcz71_0
             try clear hcz71_1
             try clear hfz13_0
             try clear hfz13_1
             try clear hfz29_0
             try clear hfz29_1
             try clear hfz36_0
             try clear hfz36_1
             try clear hfz38_0
             try clear hfz38_1
             try clear hfz40_0
             try clear hfz40_1
             try clear hfz48_0
             try clear hfz48_1
             try clear hfz61_0
             try clear hfz61_1
             try clear hfz63_0
             try clear hfz63_1
             try clear hfz66_0
             try clear hfz66_1
             try clear hfz69_0
             try clear hfz69_1
             try clear hfz71_0
             try clear hfz71_1
             try clear hx10009_0
             try clear hx10009_1
             try clear hx10010_0
             try clear hx10010_1
             try clear hx10011_0
             try clear hx10011_1
             try clear hx10012_0
             try clear hx10012_1
             try clear hx10013_0
             try clear hx10013_1
             try clear hx10014_0
             try clear hx10014_1
             try clear p1
             try clear p10
             try clear p10009
             try clear p10010
             try clear p10011
             try clear p10012
             try clear p10013
             try clear p10014
             try clear p2
             try clear p6
             try clear q1
             try clear q10
             try clear q10009
             try clear q10010
             try clear q10011
             try clear q10012
             try clear q10013
             try clear q10014
             obtain ⟨kq, x165_58, rfl, HA, HJ58, BK10001, HB⟩ := hcut
             cases kq with
             | zero => exact absurd HA.out (by simp [papermilllaw40_SpliceKeeps.j3])
             | succ kj58 =>
              have H := HA.out
              clear HA
              simp only [papermilllaw40_SpliceKeeps.j3] at H
              by_cases c73 : x165_58 = true
              ·subst c73
               have H1 : ((papermilllaw40_awake.f).bind fun t10025 => (some t10025)) = some r := by rw [if_pos rfl] at H; exact H
               clear H
               have H := H1
               clear H1
               replace H := Option.bind_eq_some_iff.mp H
               obtain ⟨t10025, A740, H⟩ := H
               replace H : (some t10025) = some r := H
               have A74 := Aside0.mk A740
               clear A740
               obtain rfl := Option.some.inj H
               go_wp2_with (first | (go_at_call 12; (with_reducible refine (papermilllaw40_awake.calls  t10025 _ A74.out).mono ?_); rintro e w75 ⟨rfl, hb⟩; have n0_ := Aside0.mk (blk_below (g := gb10001) (o := .cells #[.int .i64 a2_0, .int .i64 a2_1] 44 (0, 0)) (by (with_reducible repeat (first | refine blk_drewN ?_ _ | refine blk_drew ?_ | refine blk_alloc ?_ _)); exact BK10001.out) hb); have n1_ := Aside0.mk (below_step (by repeat (first | exact HB.out | apply below_alloc | apply pw_below_drewN | apply below_drew1 | refine below_set ?_ GE10001.out)) hb); clear BK10001; clear HB; have BK10001 := n0_; have HB := n1_; clear n0_ n1_; (try clear hb); (try clear hb2); (try clear hk); (try clear hi)))
               repeat (go_quiet (first | (go_at_call 12; (with_reducible refine (papermilllaw40_awake.calls  t10025 _ A74.out).mono ?_); rintro e w75 ⟨rfl, hb⟩; have n0_ := Aside0.mk (blk_below (g := gb10001) (o := .cells #[.int .i64 a2_0, .int .i64 a2_1] 44 (0, 0)) (by (with_reducible repeat (first | refine blk_drewN ?_ _ | refine blk_drew ?_ | refine blk_alloc ?_ _)); exact BK10001.out) hb); have n1_ := Aside0.mk (below_step (by repeat (first | exact HB.out | apply below_alloc | apply pw_below_drewN | apply below_drew1 | refine below_set ?_ GE10001.out)) hb); clear BK10001; clear HB; have BK10001 := n0_; have HB := n1_; clear n0_ n1_; (try clear hb); (try clear hb2); (try clear hk); (try clear hi))); try go_wp2_with (first | (go_at_call 12; (with_reducible refine (papermilllaw40_awake.calls  t10025 _ A74.out).mono ?_); rintro e w75 ⟨rfl, hb⟩; have n0_ := Aside0.mk (blk_below (g := gb10001) (o := .cells #[.int .i64 a2_0, .int .i64 a2_1] 44 (0, 0)) (by (with_reducible repeat (first | refine blk_drewN ?_ _ | refine blk_drew ?_ | refine blk_alloc ?_ _)); exact BK10001.out) hb); have n1_ := Aside0.mk (below_step (by repeat (first | exact HB.out | apply below_alloc | apply pw_below_drewN | apply below_drew1 | refine below_set ?_ GE10001.out)) hb); clear BK10001; clear HB; have BK10001 := n0_; have HB := n1_; clear n0_ n1_; (try clear hb); (try clear hb2); (try clear hk); (try clear hi))))
               go_ret
               exact ⟨by first | rfl | (simp [errW_none, errW_some] <;> rfl) | (simp [*, errW_none, errW_some] <;> rfl), by repeat (first | exact HB.out | apply below_alloc | apply pw_below_drewN | apply below_drew1 | refine below_set ?_ GE10001.out)⟩
              ·replace c73 := Bool.eq_false_iff.mpr c73
               subst c73
               have H1 : (papermilllaw40_SpliceKeeps.l1 kj58 l1 0 a0 0 a2_0 a2_1) = some r := by rw [if_neg (show ¬ (false = true) by decide)] at H; first | exact H | simpa using H
               clear H
               have H := H1
               clear H1
               have H' := Aside0.mk H
               clear H
               go_wp2
               repeat (go_quiet (fail); try go_wp2)
               go_loopg [16, 17, 18] kj58 (fun kq v16 v17 v18 w' => ∃ (x16_5 : Int) (x17_5 : Int) (x18_5 : Int), v16 = .int .i64 x16_5 ∧ v17 = .int .i64 x17_5 ∧ v18 = .int .i64 x18_5 ∧ Aside0 (papermilllaw40_SpliceKeeps.l1 kq l1 x16_5 x17_5 x18_5 a2_0 a2_1 = some r) ∧ Aside0 (kq ≤ kj58) ∧ Aside0 (w'.heap[gb10001]? = some (.cells #[.int .i64 a2_0, .int .i64 a2_1] 44 (0, 0))) ∧ Aside0 (Below w.heap.size w w'))
               case atStart => exact ⟨(0), (a0), (0), (by first | rfl | (simp; done) | (simp [*]; done)), (by first | rfl | (simp; done) | (simp [*]; done)), (by first | rfl | (simp; done) | (simp [*]; done)), H', ⟨Nat.le_refl _⟩, ⟨by (with_reducible repeat (first | refine blk_drewN ?_ _ | refine blk_drew ?_ | refine blk_alloc ?_ _)); exact BK10001.out⟩, ⟨by repeat (first | exact HB.out | apply below_alloc | apply pw_below_drewN | apply below_drew1 | refine below_set ?_ GE10001.out)⟩⟩
               case round => as_aux_lemma =>
                clear H'
                try clear c1
                try clear p1
                try clear q1
                try clear hx1
                try clear c2
                try clear p2
                try clear c3
                try clear c5
                try clear c6
                try clear p6
                try clear c7
                try clear c9
                try clear c10
                try clear c10b0
                try clear c10b1
                try clear p10
                try clear q10
                try clear hx10
                try clear c15
                try clear c15b0
                try clear c15b1
                try clear c17
                try clear c17b0
                try clear c20
                try clear c21
                try clear c21b0
                try clear c22
                try clear c22b0
                try clear c23
                try clear c23b0
                try clear c25
                try clear c25b0
                try clear c27
                try clear c27b0
                try clear c30
                try clear c30b0
                try clear c32
                try clear c32b0
                try clear c33
                try clear c33b0
                try clear c34
                try clear c34b0
                try clear c50
                try clear c50b0
                try clear c50b1
                try clear c51
                try clear c51b0
                try clear c51b1
                try clear c51b2
                try clear c52
                try clear c52b0
                try clear c52b1
                try clear c53
                try clear c53b0
                try clear c53b1
                try clear c58
                try clear c60
                try clear c60b0
                try clear c62
                try clear c62b0
                try clear p64
                try clear c65
                try clear c73
                try clear hcz13_0
                try clear hcz13_1
                try clear hcz29_0
                try clear hcz29_1
                try clear hcz36_0
                try clear hcz36_1
                try clear hcz38_0
                try clear hcz38_1
                try clear hcz40_0
                try clear hcz40_1
                try clear hcz48_0
                try clear hcz48_1
                try clear hcz61_0
                try clear hcz61_1
                try clear hcz63_0
                try clear hcz63_1
                try clear hcz66_0
                try clear hcz66_1
                try clear hcz69_0
                try clear hcz69_1
                try clear hcz71_0
                try clear hcz71_1
                try clear hfz13_0
                try clear hfz13_1
                try clear hfz29_0
                try clear hfz29_1
                try clear hfz36_0
                try clear hfz36_1
                try clear hfz38_0
                try clear hfz38_1
                try clear hfz40_0
                try clear hfz40_1
                try clear hfz48_0
                try clear hfz48_1
                try clear hfz61_0
                try clear hfz61_1
                try clear hfz63_0
                try clear hfz63_1
                try clear hfz66_0
                try clear hfz66_1
                try clear hfz69_0
                try clear hfz69_1
                try clear hfz71_0
                try clear hfz71_1
                try clear hx10009_0
                try clear hx10009_1
                try clear hx10010_0
                try clear hx10010_1
                try clear hx10011_0
                try clear hx10011_1
                try clear hx10012_0
                try clear hx10012_1
                try clear hx10013_0
                try clear hx10013_1
                try clear hx10014_0
                try clear hx10014_1
                try clear p1
                try clear p10
                try clear p10009
                try clear p10010
                try clear p10011
                try clear p10012
                try clear p10013
                try clear p10014
                try clear p2
                try clear p6
                try clear p64
                try clear q1
                try clear q10
                try clear q10009
                try clear q10010
                try clear q10011
                try clear q10012
                try clear q10013
                try clear q10014
                obtain ⟨x16_5, x17_5, x18_5, rfl, rfl, rfl, HA, HK5, BK10001, HB⟩ := hrel
                cases gk with
                | zero => exact absurd HA.out (by simp [papermilllaw40_SpliceKeeps.l1])
                | succ k5 =>
                 have H := HA.out
                 clear HA
                 simp only [papermilllaw40_SpliceKeeps.l1] at H
                 by_cases c76 : x18_5 < (l1.length : Int)
                 ·rw [if_pos c76] at H
                  have c76b0 : decide (x18_5 < (l1.length : Int)) = true := decide_eq_true c76
                  clear c76
                  have HC77 := Aside0.mk H
                  clear H
                  go_upto_region 24 with (fail)
                  repeat (go_quiet (fail); go_upto_region 24 with (fail))
                  go_cut [194] (fun v194 wc => ∃ (kq : Nat) (x194_76 : Bool), v194 = .bool x194_76 ∧ Aside0 (papermilllaw40_SpliceKeeps.j5 kq l1 x16_5 x17_5 x18_5 x194_76 a2_0 a2_1 = some r) ∧ Aside0 (kq ≤ k5) ∧ Aside0 (wc.heap[gb10001]? = some (.cells #[.int .i64 a2_0, .int .i64 a2_1] 44 (0, 0))) ∧ Aside0 (Below w.heap.size w wc))
                  case first => as_aux_lemma =>
                   have H := HC77.out
                   clear HC77
                   by_cases c78 : 0 ≤ x18_5
                   ·rw [if_pos c78] at H
                    have c78b0 : decide (0 ≤ x18_5) = true := decide_eq_true c78
                    clear c78
                    (first | rw [c78b0] | (simp only [i64_w, i32_w]; rw [c78b0]) | skip)
                    by_cases c79 : ((rd_T49 l1 x18_5).f0) < ((rd_T49 l1 x18_5).f1)
                    ·rw [if_pos c79] at H
                     have c79b0 : decide (((rd_T49 l1 x18_5).f0) < ((rd_T49 l1 x18_5).f1)) = true := decide_eq_true c79
                     clear c79
                     have H' := Aside0.mk H
                     clear H
                     have p10027 : 0 ≤ (x18_5 : Int) := of_decide_eq_true (by first | (with_reducible assumption) | assumption)
                     have q10027 : x18_5 < (l1.length : Int) := of_decide_eq_true (by first | (with_reducible assumption) | assumption)
                     obtain ⟨ad10027, e10027, hx10027_0, hx10027_1⟩ := at_T49 HR1.out x18_5 p10027 q10027
                     cases e10027
                     replace hx10027_0 := (HB.out.cell (World.block_lt_of_cell? w _ hx10027_0)).trans hx10027_0
                     replace hx10027_1 := (HB.out.cell (World.block_lt_of_cell? w _ hx10027_1)).trans hx10027_1
                     replace p10027 := eq_true p10027
                     replace q10027 := eq_true q10027
                     have p10028 : 0 ≤ (x18_5 : Int) := of_decide_eq_true (by first | (with_reducible assumption) | assumption)
                     have q10028 : x18_5 < (l1.length : Int) := of_decide_eq_true (by first | (with_reducible assumption) | assumption)
                     obtain ⟨ad10028, e10028, hx10028_0, hx10028_1⟩ := at_T49 HR1.out x18_5 p10028 q10028
                     obtain rfl : ad10027 = ad10028 := (by injection e10028)
                     replace hx10028_0 := (HB.out.cell (World.block_lt_of_cell? w _ hx10028_0)).trans hx10028_0
                     replace hx10028_1 := (HB.out.cell (World.block_lt_of_cell? w _ hx10028_1)).trans hx10028_1
                     replace p10028 := eq_true p10028
                     replace q10028 := eq_true q10028
                     have p10029 : 0 ≤ (x18_5 : Int) := of_decide_eq_true (by first | (with_reducible assumption) | assumption)
                     have q10029 : x18_5 < (l1.length : Int) := of_decide_eq_true (by first | (with_reducible assumption) | assumption)
                     obtain ⟨ad10029, e10029, hx10029_0, hx10029_1⟩ := at_T49 HR1.out x18_5 p10029 q10029
                     obtain rfl : ad10027 = ad10029 := (by injection e10029)
                     replace hx10029_0 := (HB.out.cell (World.block_lt_of_cell? w _ hx10029_0)).trans hx10029_0
                     replace hx10029_1 := (HB.out.cell (World.block_lt_of_cell? w _ hx10029_1)).trans hx10029_1
                     replace p10029 := eq_true p10029
                     replace q10029 := eq_true q10029
                     have hcz80_0 : wr.cell? ⟨gb10001, 0, none⟩ = some (.int .i64 a2_0) := (blk_cell BK10001.out 0).trans rfl
                     have hcz80_1 : wr.cell? ⟨gb10001, 1, none⟩ = some (.int .i64 a2_1) := (blk_cell BK10001.out 1).trans rfl
                     have hfz80_0 := blk_frozen BK10001.out 0
                     have hfz80_1 := blk_frozen BK10001.out 1
                     go_wp2
                     repeat (go_quiet (fail); try go_wp2)
                     go_meet
                     case rel => exact ⟨_, (decide (((rd_T49 l1 x18_5).f1) ≤ a2_1)), (by first | rfl | (simp; done) | (simp [*]; done)), H', ⟨by have := HJ10.out; have := HK2.out; have := HJ43.out; have := HJ58.out; have := HK5.out; first | omega | exact Nat.le_refl _⟩, ⟨by (with_reducible repeat (first | refine blk_drewN ?_ _ | refine blk_drew ?_ | refine blk_alloc ?_ _)); exact BK10001.out⟩, ⟨by repeat (first | exact HB.out | apply below_alloc | apply pw_below_drewN | apply below_drew1 | refine below_set ?_ GE10001.out)⟩⟩
                    ·rw [if_neg c79] at H
                     have c79b0 : decide (((rd_T49 l1 x18_5).f0) < ((rd_T49 l1 x18_5).f1)) = false := decide_eq_false c79
                     clear c79
                     have H' := Aside0.mk H
                     clear H
                     have p10027 : 0 ≤ (x18_5 : Int) := of_decide_eq_true (by first | (with_reducible assumption) | assumption)
                     have q10027 : x18_5 < (l1.length : Int) := of_decide_eq_true (by first | (with_reducible assumption) | assumption)
                     obtain ⟨ad10027, e10027, hx10027_0, hx10027_1⟩ := at_T49 HR1.out x18_5 p10027 q10027
                     cases e10027
                     replace hx10027_0 := (HB.out.cell (World.block_lt_of_cell? w _ hx10027_0)).trans hx10027_0
                     replace hx10027_1 := (HB.out.cell (World.block_lt_of_cell? w _ hx10027_1)).trans hx10027_1
                     replace p10027 := eq_true p10027
                     replace q10027 := eq_true q10027
                     have p10028 : 0 ≤ (x18_5 : Int) := of_decide_eq_true (by first | (with_reducible assumption) | assumption)
                     have q10028 : x18_5 < (l1.length : Int) := of_decide_eq_true (by first | (with_reducible assumption) | assumption)
                     obtain ⟨ad10028, e10028, hx10028_0, hx10028_1⟩ := at_T49 HR1.out x18_5 p10028 q10028
                     obtain rfl : ad10027 = ad10028 := (by injection e10028)
                     replace hx10028_0 := (HB.out.cell (World.block_lt_of_cell? w _ hx10028_0)).trans hx10028_0
                     replace hx10028_1 := (HB.out.cell (World.block_lt_of_cell? w _ hx10028_1)).trans hx10028_1
                     replace p10028 := eq_true p10028
                     replace q10028 := eq_true q10028
                     go_wp2
                     repeat (go_quiet (fail); try go_wp2)
                     go_meet
                     case rel => exact ⟨_, (false), (by first | rfl | (simp; done) | (simp [*]; done)), H', ⟨by have := HJ10.out; have := HK2.out; have := HJ43.out; have := HJ58.out; have := HK5.out; first | omega | exact Nat.le_refl _⟩, ⟨by (with_reducible repeat (first | refine blk_drewN ?_ _ | refine blk_drew ?_ | refine blk_alloc ?_ _)); exact BK10001.out⟩, ⟨by repeat (first | exact HB.out | apply below_alloc | apply pw_below_drewN | apply below_drew1 | refine below_set ?_ GE10001.out)⟩⟩
                   ·rw [if_neg c78] at H
                    exact absurd H (by simp)
                  case rest => as_aux_lemma =>
                   clear HC77
                   try clear c1
                   try clear p1
                   try clear q1
                   try clear hx1
                   try clear c2
                   try clear p2
                   try clear c3
                   try clear c5
                   try clear c6
                   try clear p6
                   try clear c7
                   try clear c9
                   try clear c10
                   try clear c10b0
                   try clear c10b1
                   try clear p10
                   try clear q10
                   try clear hx10
                   try clear c15
                   try clear c15b0
                   try clear c15b1
                   try clear c17
                   try clear c17b0
                   try clear c20
                   try clear c21
                   try clear c21b0
                   try clear c22
                   try clear c22b0
                   try clear c23
                   try clear c23b0
                   try clear c25
                   try clear c25b0
                   try clear c27
                   try clear c27b0
                   try clear c30
                   try clear c30b0
                   try clear c32
                   try clear c32b0
                   try clear c33
                   try clear c33b0
                   try clear c34
                   try clear c34b0
                   try clear c50
                   try clear c50b0
                   try clear c50b1
                   try clear c51
                   try clear c51b0
                   try clear c51b1
                   try clear c51b2
                   try clear c52
                   try clear c52b0
                   try clear c52b1
                   try clear c53
                   try clear c53b0
                   try clear c53b1
                   try clear c58
                   try clear c60
                   try clear c60b0
                   try clear c62
                   try clear c62b0
                   try clear p64
                   try clear c65
                   try clear c73
                   try clear c76
                   try clear c76b0
                   try clear c78
                   try clear c78b0
                   try clear c79
                   try clear c79b0
                   try clear hcz13_0
                   try clear hcz13_1
                   try clear hcz29_0
                   try clear hcz29_1
                   try clear hcz36_0
                   try clear hcz36_1
                   try clear hcz38_0
                   try clear hcz38_1
                   try clear hcz40_0
                   try clear hcz40_1
                   try clear hcz48_0
                   try clear hcz48_1
                   try clear hcz61_0
                   try clear hcz61_1
                   try clear hcz63_0
                   try clear hcz63_1
                   try clear hcz66_0
                   try clear hcz66_1
                   try clear hcz69_0
                   try clear hcz69_1
                   try clear hcz71_0
                   try clear hcz71_1
                   try clear hcz80_0
                   try clear hcz80_1
                   try clear hfz13_0
                   try clear hfz13_1
                   try clear hfz29_0
                   try clear hfz29_1
                   try clear hfz36_0
                   try clear hfz36_1
                   try clear hfz38_0
                   try clear hfz38_1
                   try clear hfz40_0
                   try clear hfz40_1
                   try clear hfz48_0
                   try clear hfz48_1
                   try clear hfz61_0
                   try clear hfz61_1
                   try clear hfz63_0
                   try clear hfz63_1
                   try clear hfz66_0
                   try clear hfz66_1
                   try clear hfz69_0
                   try clear hfz69_1
                   try clear hfz71_0
                   try clear hfz71_1
                   try clear hfz80_0
                   try clear hfz80_1
                   try clear hx10009_0
                   try clear hx10009_1
                   try clear hx10010_0
                   try clear hx10010_1
                   try clear hx10011_0
                   try clear hx10011_1
                   try clear hx10012_0
                   try clear hx10012_1
                   try clear hx10013_0
                   try clear hx10013_1
                   try clear hx10014_0
                   try clear hx10014_1
                   try clear hx10027_0
                   try clear hx10027_1
                   try clear hx10028_0
                   try clear hx10028_1
                   try clear hx10029_0
                   try clear hx10029_1
                   try clear p1
                   try clear p10
                   try clear p10009
                   try clear p10010
                   try clear p10011
                   try clear p10012
                   try clear p10013
                   try clear p10014
                   try clear p10027
                   try clear p10028
                   try clear p10029
                   try clear p2
                   try clear p6
                   try clear p64
                   try clear q1
                   try clear q10
                   try clear q10009
                   try clear q10010
                   try clear q10011
                   try clear q10012
                   try clear q10013
                   try clear q10014
                   try clear q10027
                   try clear q10028
                   try clear q10029
                   obtain ⟨kq, x194_76, rfl, HA, HJ76, BK10001, HB⟩ := hcut
                   cases kq with
                   | zero => exact absurd HA.out (by simp [papermilllaw40_SpliceKeeps.j5])
                   | succ kj76 =>
                    have H := HA.out
                    clear HA
                    simp only [papermilllaw40_SpliceKeeps.j5] at H
                    by_cases c81 : x194_76 = true
                    ·subst c81
                     have H1 : (if 0 ≤ x18_5 then (if x18_5 < (l1.length : Int) then (if ((rd_T49 l1 x18_5).f0) < ((rd_T49 l1 x18_5).f1) then (if ((rd_T49 l1 x18_5).f0) > a2_1 then (papermilllaw40_SpliceKeeps.l1 kj76 l1 (mx x16_5 ((rd_T49 l1 x18_5).f1)) (mn x17_5 ((rd_T49 l1 x18_5).f0)) (wrap64 (x18_5 + 1)) a2_0 a2_1) else (papermilllaw40_SpliceKeeps.l1 kj76 l1 (mx x16_5 ((rd_T49 l1 x18_5).f1)) x17_5 (wrap64 (x18_5 + 1)) a2_0 a2_1)) else (papermilllaw40_SpliceKeeps.l1 kj76 l1 (mx x16_5 ((rd_T49 l1 x18_5).f1)) x17_5 (wrap64 (x18_5 + 1)) a2_0 a2_1)) else (none)) else (none)) = some r := by rw [if_pos rfl] at H; exact H
                     clear H
                     have H := H1
                     clear H1
                     by_cases c82 : 0 ≤ x18_5
                     ·rw [if_pos c82] at H
                      have c82b0 : decide (0 ≤ x18_5) = true := decide_eq_true c82
                      clear c82
                      by_cases c83 : x18_5 < (l1.length : Int)
                      ·rw [if_pos c83] at H
                       have c83b0 : decide (x18_5 < (l1.length : Int)) = true := decide_eq_true c83
                       clear c83
                       obtain ⟨ji84, hji84⟩ : ∃ j_ : Int, (mx x16_5 ((rd_T49 l1 x18_5).f1)) = j_ := ⟨_, rfl⟩
                       replace H : (if ((rd_T49 l1 x18_5).f0) < ((rd_T49 l1 x18_5).f1) then (if ((rd_T49 l1 x18_5).f0) > a2_1 then (papermilllaw40_SpliceKeeps.l1 kj76 l1 ji84 (mn x17_5 ((rd_T49 l1 x18_5).f0)) (wrap64 (x18_5 + 1)) a2_0 a2_1) else (papermilllaw40_SpliceKeeps.l1 kj76 l1 ji84 x17_5 (wrap64 (x18_5 + 1)) a2_0 a2_1)) else (papermilllaw40_SpliceKeeps.l1 kj76 l1 ji84 x17_5 (wrap64 (x18_5 + 1)) a2_0 a2_1)) = some r := by first | (rw [hji84] at H; exact H) | (simp only [hji84] at H ⊢; exact H)
                       have hji84_ : (if x16_5 < ((rd_T49 l1 x18_5).f1) then ((rd_T49 l1 x18_5).f1) else x16_5) = ji84 := hji84
                       by_cases c85 : ((rd_T49 l1 x18_5).f0) < ((rd_T49 l1 x18_5).f1)
                       ·rw [if_pos c85] at H
                        have c85b0 : decide (((rd_T49 l1 x18_5).f0) < ((rd_T49 l1 x18_5).f1)) = true := decide_eq_true c85
                        clear c85
                        by_cases c86 : ((rd_T49 l1 x18_5).f0) > a2_1
                        ·rw [if_pos c86] at H
                         have c86b0 : decide (a2_1 < ((rd_T49 l1 x18_5).f0)) = true := decide_eq_true c86
                         clear c86
                         obtain ⟨ji87, hji87⟩ : ∃ j_ : Int, (mn x17_5 ((rd_T49 l1 x18_5).f0)) = j_ := ⟨_, rfl⟩
                         replace H : (papermilllaw40_SpliceKeeps.l1 kj76 l1 ji84 ji87 (wrap64 (x18_5 + 1)) a2_0 a2_1) = some r := by first | (rw [hji87] at H; exact H) | (simp only [hji87] at H ⊢; exact H)
                         have hji87_ : (if ((rd_T49 l1 x18_5).f0) < x17_5 then ((rd_T49 l1 x18_5).f0) else x17_5) = ji87 := hji87
                         have H' := Aside0.mk H
                         clear H
                         have p10030 : 0 ≤ (x18_5 : Int) := of_decide_eq_true (by first | (with_reducible assumption) | assumption)
                         have q10030 : x18_5 < (l1.length : Int) := of_decide_eq_true (by first | (with_reducible assumption) | assumption)
                         obtain ⟨ad10030, e10030, hx10030_0, hx10030_1⟩ := at_T49 HR1.out x18_5 p10030 q10030
                         cases e10030
                         replace hx10030_0 := (HB.out.cell (World.block_lt_of_cell? w _ hx10030_0)).trans hx10030_0
                         replace hx10030_1 := (HB.out.cell (World.block_lt_of_cell? w _ hx10030_1)).trans hx10030_1
                         replace p10030 := eq_true p10030
                         replace q10030 := eq_true q10030
                         have p10031 : 0 ≤ (x18_5 : Int) := of_decide_eq_true (by first | (with_reducible assumption) | assumption)
                         have q10031 : x18_5 < (l1.length : Int) := of_decide_eq_true (by first | (with_reducible assumption) | assumption)
                         obtain ⟨ad10031, e10031, hx10031_0, hx10031_1⟩ := at_T49 HR1.out x18_5 p10031 q10031
                         obtain rfl : ad10030 = ad10031 := (by injection e10031)
                         replace hx10031_0 := (HB.out.cell (World.block_lt_of_cell? w _ hx10031_0)).trans hx10031_0
                         replace hx10031_1 := (HB.out.cell (World.block_lt_of_cell? w _ hx10031_1)).trans hx10031_1
                         replace p10031 := eq_true p10031
                         replace q10031 := eq_true q10031
                         have p10032 : 0 ≤ (x18_5 : Int) := of_decide_eq_true (by first | (with_reducible assumption) | assumption)
                         have q10032 : x18_5 < (l1.length : Int) := of_decide_eq_true (by first | (with_reducible assumption) | assumption)
                         obtain ⟨ad10032, e10032, hx10032_0, hx10032_1⟩ := at_T49 HR1.out x18_5 p10032 q10032
                         obtain rfl : ad10030 = ad10032 := (by injection e10032)
                         replace hx10032_0 := (HB.out.cell (World.block_lt_of_cell? w _ hx10032_0)).trans hx10032_0
                         replace hx10032_1 := (HB.out.cell (World.block_lt_of_cell? w _ hx10032_1)).trans hx10032_1
                         replace p10032 := eq_true p10032
                         replace q10032 := eq_true q10032
                         have p10033 : 0 ≤ (x18_5 : Int) := of_decide_eq_true (by first | (with_reducible assumption) | assumption)
                         have q10033 : x18_5 < (l1.length : Int) := of_decide_eq_true (by first | (with_reducible assumption) | assumption)
                         obtain ⟨ad10033, e10033, hx10033_0, hx10033_1⟩ := at_T49 HR1.out x18_5 p10033 q10033
                         obtain rfl : ad10030 = ad10033 := (by injection e10033)
                         replace hx10033_0 := (HB.out.cell (World.block_lt_of_cell? w _ hx10033_0)).trans hx10033_0
                         replace hx10033_1 := (HB.out.cell (World.block_lt_of_cell? w _ hx10033_1)).trans hx10033_1
                         replace p10033 := eq_true p10033
                         replace q10033 := eq_true q10033
                         have hcz88_0 : wc.cell? ⟨gb10001, 0, none⟩ = some (.int .i64 a2_0) := (blk_cell BK10001.out 0).trans rfl
                         have hcz88_1 : wc.cell? ⟨gb10001, 1, none⟩ = some (.int .i64 a2_1) := (blk_cell BK10001.out 1).trans rfl
                         have hfz88_0 := blk_frozen BK10001.out 0
                         have hfz88_1 := blk_frozen BK10001.out 1
                         have p10034 : 0 ≤ (x18_5 : Int) := of_decide_eq_true (by first | (with_reducible assumption) | assumption)
                         have q10034 : x18_5 < (l1.length : Int) := of_decide_eq_true (by first | (with_reducible assumption) | assumption)
                         obtain ⟨ad10034, e10034, hx10034_0, hx10034_1⟩ := at_T49 HR1.out x18_5 p10034 q10034
                         obtain rfl : ad10030 = ad10034 := (by injection e10034)
                         replace hx10034_0 := (HB.out.cell (World.block_lt_of_cell? w _ hx10034_0)).trans hx10034_0
                         replace hx10034_1 := (HB.out.cell (World.block_lt_of_cell? w _ hx10034_1)).trans hx10034_1
                         replace p10034 := eq_true p10034
                         replace q10034 := eq_true q10034
                         go_wp2
                         repeat (go_quiet (fail); try go_wp2)
                         go_roundg kj76
                         case measure => have := HJ10.out; have := HK2.out; have := HJ43.out; have := HJ58.out; have := HK5.out; have := HJ76.out; omega
                         case rel => exact ⟨(ji84), (ji87), (wrap64 (x18_5 + 1)), (by first | rfl | (simp; done) | (simp only [← hji84] <;> (first | rfl | (simp; done))) | (simp [*]; done)), (by first | rfl | (simp; done) | (simp only [← hji87] <;> (first | rfl | (simp; done))) | (simp [*]; done)), (by first | rfl | (simp; done) | (simp [*]; done)), H', ⟨by have := HJ10.out; have := HK2.out; have := HJ43.out; have := HJ58.out; have := HK5.out; have := HJ76.out; omega⟩, ⟨by (with_reducible repeat (first | refine blk_drewN ?_ _ | refine blk_drew ?_ | refine blk_alloc ?_ _)); exact BK10001.out⟩, ⟨by repeat (first | exact HB.out | apply below_alloc | apply pw_below_drewN | apply below_drew1 | refine below_set ?_ GE10001.out)⟩⟩
                        ·rw [if_neg c86] at H
                         have c86b0 : decide (a2_1 < ((rd_T49 l1 x18_5).f0)) = false := decide_eq_false c86
                         clear c86
                         have H' := Aside0.mk H
                         clear H
                         have p10030 : 0 ≤ (x18_5 : Int) := of_decide_eq_true (by first | (with_reducible assumption) | assumption)
                         have q10030 : x18_5 < (l1.length : Int) := of_decide_eq_true (by first | (with_reducible assumption) | assumption)
                         obtain ⟨ad10030, e10030, hx10030_0, hx10030_1⟩ := at_T49 HR1.out x18_5 p10030 q10030
                         cases e10030
                         replace hx10030_0 := (HB.out.cell (World.block_lt_of_cell? w _ hx10030_0)).trans hx10030_0
                         replace hx10030_1 := (HB.out.cell (World.block_lt_of_cell? w _ hx10030_1)).trans hx10030_1
                         replace p10030 := eq_true p10030
                         replace q10030 := eq_true q10030
                         have p10031 : 0 ≤ (x18_5 : Int) := of_decide_eq_true (by first | (with_reducible assumption) | assumption)
                         have q10031 : x18_5 < (l1.length : Int) := of_decide_eq_true (by first | (with_reducible assumption) | assumption)
                         obtain ⟨ad10031, e10031, hx10031_0, hx10031_1⟩ := at_T49 HR1.out x18_5 p10031 q10031
                         obtain rfl : ad10030 = ad10031 := (by injection e10031)
                         replace hx10031_0 := (HB.out.cell (World.block_lt_of_cell? w _ hx10031_0)).trans hx10031_0
                         replace hx10031_1 := (HB.out.cell (World.block_lt_of_cell? w _ hx10031_1)).trans hx10031_1
                         replace p10031 := eq_true p10031
                         replace q10031 := eq_true q10031
                         have p10032 : 0 ≤ (x18_5 : Int) := of_decide_eq_true (by first | (with_reducible assumption) | assumption)
                         have q10032 : x18_5 < (l1.length : Int) := of_decide_eq_true (by first | (with_reducible assumption) | assumption)
                         obtain ⟨ad10032, e10032, hx10032_0, hx10032_1⟩ := at_T49 HR1.out x18_5 p10032 q10032
                         obtain rfl : ad10030 = ad10032 := (by injection e10032)
                         replace hx10032_0 := (HB.out.cell (World.block_lt_of_cell? w _ hx10032_0)).trans hx10032_0
                         replace hx10032_1 := (HB.out.cell (World.block_lt_of_cell? w _ hx10032_1)).trans hx10032_1
                         replace p10032 := eq_true p10032
                         replace q10032 := eq_true q10032
                         have p10033 : 0 ≤ (x18_5 : Int) := of_decide_eq_true (by first | (with_reducible assumption) | assumption)
                         have q10033 : x18_5 < (l1.length : Int) := of_decide_eq_true (by first | (with_reducible assumption) | assumption)
                         obtain ⟨ad10033, e10033, hx10033_0, hx10033_1⟩ := at_T49 HR1.out x18_5 p10033 q10033
                         obtain rfl : ad10030 = ad10033 := (by injection e10033)
                         replace hx10033_0 := (HB.out.cell (World.block_lt_of_cell? w _ hx10033_0)).trans hx10033_0
                         replace hx10033_1 := (HB.out.cell (World.block_lt_of_cell? w _ hx10033_1)).trans hx10033_1
                         replace p10033 := eq_true p10033
                         replace q10033 := eq_true q10033
                         have hcz89_0 : wc.cell? ⟨gb10001, 0, none⟩ = some (.int .i64 a2_0) := (blk_cell BK10001.out 0).trans rfl
                         have hcz89_1 : wc.cell? ⟨gb10001, 1, none⟩ = some (.int .i64 a2_1) := (blk_cell BK10001.out 1).trans rfl
                         have hfz89_0 := blk_frozen BK10001.out 0
                         have hfz89_1 := blk_frozen BK10001.out 1
                         go_wp2
                         repeat (go_quiet (fail); try go_wp2)
                         go_roundg kj76
                         case measure => have := HJ10.out; have := HK2.out; have := HJ43.out; have := HJ58.out; have := HK5.out; have := HJ76.out; omega
                         case rel => exact ⟨(ji84), (x17_5), (wrap64 (x18_5 + 1)), (by first | rfl | (simp; done) | (simp only [← hji84] <;> (first | rfl | (simp; done))) | (simp [*]; done)), (by first | rfl | (simp; done) | (simp [*]; done)), (by first | rfl | (simp; done) | (simp [*]; done)), H', ⟨by have := HJ10.out; have := HK2.out; have := HJ43.out; have := HJ58.out; have := HK5.out; have := HJ76.out; omega⟩, ⟨by (with_reducible repeat (first | refine blk_drewN ?_ _ | refine blk_drew ?_ | refine blk_alloc ?_ _)); exact BK10001.out⟩, ⟨by repeat (first | exact HB.out | apply below_alloc | apply pw_below_drewN | apply below_drew1 | refine below_set ?_ GE10001.out)⟩⟩
                       ·rw [if_neg c85] at H
                        have c85b0 : decide (((rd_T49 l1 x18_5).f0) < ((rd_T49 l1 x18_5).f1)) = false := decide_eq_false c85
                        clear c85
                        have H' := Aside0.mk H
                        clear H
                        have p10030 : 0 ≤ (x18_5 : Int) := of_decide_eq_true (by first | (with_reducible assumption) | assumption)
                        have q10030 : x18_5 < (l1.length : Int) := of_decide_eq_true (by first | (with_reducible assumption) | assumption)
                        obtain ⟨ad10030, e10030, hx10030_0, hx10030_1⟩ := at_T49 HR1.out x18_5 p10030 q10030
                        cases e10030
                        replace hx10030_0 := (HB.out.cell (World.block_lt_of_cell? w _ hx10030_0)).trans hx10030_0
                        replace hx10030_1 := (HB.out.cell (World.block_lt_of_cell? w _ hx10030_1)).trans hx10030_1
                        replace p10030 := eq_true p10030
                        replace q10030 := eq_true q10030
                        have p10031 : 0 ≤ (x18_5 : Int) := of_decide_eq_true (by first | (with_reducible assumption) | assumption)
                        have q10031 : x18_5 < (l1.length : Int) := of_decide_eq_true (by first | (with_reducible assumption) | assumption)
                        obtain ⟨ad10031, e10031, hx10031_0, hx10031_1⟩ := at_T49 HR1.out x18_5 p10031 q10031
                        obtain rfl : ad10030 = ad10031 := (by injection e10031)
                        replace hx10031_0 := (HB.out.cell (World.block_lt_of_cell? w _ hx10031_0)).trans hx10031_0
                        replace hx10031_1 := (HB.out.cell (World.block_lt_of_cell? w _ hx10031_1)).trans hx10031_1
                        replace p10031 := eq_true p10031
                        replace q10031 := eq_true q10031
                        have p10032 : 0 ≤ (x18_5 : Int) := of_decide_eq_true (by first | (with_reducible assumption) | assumption)
                        have q10032 : x18_5 < (l1.length : Int) := of_decide_eq_true (by first | (with_reducible assumption) | assumption)
                        obtain ⟨ad10032, e10032, hx10032_0, hx10032_1⟩ := at_T49 HR1.out x18_5 p10032 q10032
                        obtain rfl : ad10030 = ad10032 := (by injection e10032)
                        replace hx10032_0 := (HB.out.cell (World.block_lt_of_cell? w _ hx10032_0)).trans hx10032_0
                        replace hx10032_1 := (HB.out.cell (World.block_lt_of_cell? w _ hx10032_1)).trans hx10032_1
                        replace p10032 := eq_true p10032
                        replace q10032 := eq_true q10032
                        go_wp2
                        repeat (go_quiet (fail); try go_wp2)
                        go_roundg kj76
                        case measure => have := HJ10.out; have := HK2.out; have := HJ43.out; have := HJ58.out; have := HK5.out; have := HJ76.out; omega
                        case rel => exact ⟨(ji84), (x17_5), (wrap64 (x18_5 + 1)), (by first | rfl | (simp; done) | (simp only [← hji84] <;> (first | rfl | (simp; done))) | (simp [*]; done)), (by first | rfl | (simp; done) | (simp [*]; done)), (by first | rfl | (simp; done) | (simp [*]; done)), H', ⟨by have := HJ10.out; have := HK2.out; have := HJ43.out; have := HJ58.out; have := HK5.out; have := HJ76.out; omega⟩, ⟨by (with_reducible repeat (first | refine blk_drewN ?_ _ | refine blk_drew ?_ | refine blk_alloc ?_ _)); exact BK10001.out⟩, ⟨by repeat (first | exact HB.out | apply below_alloc | apply pw_below_drewN | apply below_drew1 | refine below_set ?_ GE10001.out)⟩⟩
                      ·rw [if_neg c83] at H
                       exact absurd H (by simp)
                     ·rw [if_neg c82] at H
                      exact absurd H (by simp)
                    ·replace c81 := Bool.eq_false_iff.mpr c81
                     subst c81
                     have H1 : (if 0 ≤ x18_5 then (if x18_5 < (l1.length : Int) then (if ((rd_T49 l1 x18_5).f0) < ((rd_T49 l1 x18_5).f1) then (if ((rd_T49 l1 x18_5).f0) > a2_1 then (papermilllaw40_SpliceKeeps.l1 kj76 l1 x16_5 (mn x17_5 ((rd_T49 l1 x18_5).f0)) (wrap64 (x18_5 + 1)) a2_0 a2_1) else (papermilllaw40_SpliceKeeps.l1 kj76 l1 x16_5 x17_5 (wrap64 (x18_5 + 1)) a2_0 a2_1)) else (papermilllaw40_SpliceKeeps.l1 kj76 l1 x16_5 x17_5 (wrap64 (x18_5 + 1)) a2_0 a2_1)) else (none)) else (none)) = some r := by rw [if_neg (show ¬ (false = true) by decide)] at H; first | exact H | simpa using H
                     clear H
                     have H := H1
                     clear H1
                     by_cases c90 : 0 ≤ x18_5
                     ·rw [if_pos c90] at H
                      have c90b0 : decide (0 ≤ x18_5) = true := decide_eq_true c90
                      clear c90
                      by_cases c91 : x18_5 < (l1.length : Int)
                      ·rw [if_pos c91] at H
                       have c91b0 : decide (x18_5 < (l1.length : Int)) = true := decide_eq_true c91
                       clear c91
                       by_cases c92 : ((rd_T49 l1 x18_5).f0) < ((rd_T49 l1 x18_5).f1)
                       ·rw [if_pos c92] at H
                        have c92b0 : decide (((rd_T49 l1 x18_5).f0) < ((rd_T49 l1 x18_5).f1)) = true := decide_eq_true c92
                        clear c92
                        by_cases c93 : ((rd_T49 l1 x18_5).f0) > a2_1
                        ·rw [if_pos c93] at H
                         have c93b0 : decide (a2_1 < ((rd_T49 l1 x18_5).f0)) = true := decide_eq_true c93
                         clear c93
                         obtain ⟨ji94, hji94⟩ : ∃ j_ : Int, (mn x17_5 ((rd_T49 l1 x18_5).f0)) = j_ := ⟨_, rfl⟩
                         replace H : (papermilllaw40_SpliceKeeps.l1 kj76 l1 x16_5 ji94 (wrap64 (x18_5 + 1)) a2_0 a2_1) = some r := by first | (rw [hji94] at H; exact H) | (simp only [hji94] at H ⊢; exact H)
                         have hji94_ : (if ((rd_T49 l1 x18_5).f0) < x17_5 then ((rd_T49 l1 x18_5).f0) else x17_5) = ji94 := hji94
                         have H' := Aside0.mk H
                         clear H
                         have p10035 : 0 ≤ (x18_5 : Int) := of_decide_eq_true (by first | (with_reducible assumption) | assumption)
                         have q10035 : x18_5 < (l1.length : Int) := of_decide_eq_true (by first | (with_reducible assumption) | assumption)
                         obtain ⟨ad10035, e10035, hx10035_0, hx10035_1⟩ := at_T49 HR1.out x18_5 p10035 q10035
                         cases e10035
                         replace hx10035_0 := (HB.out.cell (World.block_lt_of_cell? w _ hx10035_0)).trans hx10035_0
                         replace hx10035_1 := (HB.out.cell (World.block_lt_of_cell? w _ hx10035_1)).trans hx10035_1
                         replace p10035 := eq_true p10035
                         replace q10035 := eq_true q10035
                         have p10036 : 0 ≤ (x18_5 : Int) := of_decide_eq_true (by first | (with_reducible assumption) | assumption)
                         have q10036 : x18_5 < (l1.length : Int) := of_decide_eq_true (by first | (with_reducible assumption) | assumption)
                         obtain ⟨ad10036, e10036, hx10036_0, hx10036_1⟩ := at_T49 HR1.out x18_5 p10036 q10036
                         obtain rfl : ad10035 = ad10036 := (by injection e10036)
                         replace hx10036_0 := (HB.out.cell (World.block_lt_of_cell? w _ hx10036_0)).trans hx10036_0
                         replace hx10036_1 := (HB.out.cell (World.block_lt_of_cell? w _ hx10036_1)).trans hx10036_1
                         replace p10036 := eq_true p10036
                         replace q10036 := eq_true q10036
                         have p10037 : 0 ≤ (x18_5 : Int) := of_decide_eq_true (by first | (with_reducible assumption) | assumption)
                         have q10037 : x18_5 < (l1.length : Int) := of_decide_eq_true (by first | (with_reducible assumption) | assumption)
                         obtain ⟨ad10037, e10037, hx10037_0, hx10037_1⟩ := at_T49 HR1.out x18_5 p10037 q10037
                         obtain rfl : ad10035 = ad10037 := (by injection e10037)
                         replace hx10037_0 := (HB.out.cell (World.block_lt_of_cell? w _ hx10037_0)).trans hx10037_0
                         replace hx10037_1 := (HB.out.cell (World.block_lt_of_cell? w _ hx10037_1)).trans hx10037_1
                         replace p10037 := eq_true p10037
                         replace q10037 := eq_true q10037
                         have hcz95_0 : wc.cell? ⟨gb10001, 0, none⟩ = some (.int .i64 a2_0) := (blk_cell BK10001.out 0).trans rfl
                         have hcz95_1 : wc.cell? ⟨gb10001, 1, none⟩ = some (.int .i64 a2_1) := (blk_cell BK10001.out 1).trans rfl
                         have hfz95_0 := blk_frozen BK10001.out 0
                         have hfz95_1 := blk_frozen BK10001.out 1
                         have p10038 : 0 ≤ (x18_5 : Int) := of_decide_eq_true (by first | (with_reducible assumption) | assumption)
                         have q10038 : x18_5 < (l1.length : Int) := of_decide_eq_true (by first | (with_reducible assumption) | assumption)
                         obtain ⟨ad10038, e10038, hx10038_0, hx10038_1⟩ := at_T49 HR1.out x18_5 p10038 q10038
                         obtain rfl : ad10035 = ad10038 := (by injection e10038)
                         replace hx10038_0 := (HB.out.cell (World.block_lt_of_cell? w _ hx10038_0)).trans hx10038_0
                         replace hx10038_1 := (HB.out.cell (World.block_lt_of_cell? w _ hx10038_1)).trans hx10038_1
                         replace p10038 := eq_true p10038
                         replace q10038 := eq_true q10038
                         go_wp2
                         repeat (go_quiet (fail); try go_wp2)
                         go_roundg kj76
                         case measure => have := HJ10.out; have := HK2.out; have := HJ43.out; have := HJ58.out; have := HK5.out; have := HJ76.out; omega
                         case rel => exact ⟨(x16_5), (ji94), (wrap64 (x18_5 + 1)), (by first | rfl | (simp; done) | (simp [*]; done)), (by first | rfl | (simp; done) | (simp only [← hji94] <;> (first | rfl | (simp; done))) | (simp [*]; done)), (by first | rfl | (simp; done) | (simp [*]; done)), H', ⟨by have := HJ10.out; have := HK2.out; have := HJ43.out; have := HJ58.out; have := HK5.out; have := HJ76.out; omega⟩, ⟨by (with_reducible repeat (first | refine blk_drewN ?_ _ | refine blk_drew ?_ | refine blk_alloc ?_ _)); exact BK10001.out⟩, ⟨by repeat (first | exact HB.out | apply below_alloc | apply pw_below_drewN | apply below_drew1 | refine below_set ?_ GE10001.out)⟩⟩
                        ·rw [if_neg c93] at H
                         have c93b0 : decide (a2_1 < ((rd_T49 l1 x18_5).f0)) = false := decide_eq_false c93
                         clear c93
                         have H' := Aside0.mk H
                         clear H
                         have p10035 : 0 ≤ (x18_5 : Int) := of_decide_eq_true (by first | (with_reducible assumption) | assumption)
                         have q10035 : x18_5 < (l1.length : Int) := of_decide_eq_true (by first | (with_reducible assumption) | assumption)
                         obtain ⟨ad10035, e10035, hx10035_0, hx10035_1⟩ := at_T49 HR1.out x18_5 p10035 q10035
                         cases e10035
                         replace hx10035_0 := (HB.out.cell (World.block_lt_of_cell? w _ hx10035_0)).trans hx10035_0
                         replace hx10035_1 := (HB.out.cell (World.block_lt_of_cell? w _ hx10035_1)).trans hx10035_1
                         replace p10035 := eq_true p10035
                         replace q10035 := eq_true q10035
                         have p10036 : 0 ≤ (x18_5 : Int) := of_decide_eq_true (by first | (with_reducible assumption) | assumption)
                         have q10036 : x18_5 < (l1.length : Int) := of_decide_eq_true (by first | (with_reducible assumption) | assumption)
                         obtain ⟨ad10036, e10036, hx10036_0, hx10036_1⟩ := at_T49 HR1.out x18_5 p10036 q10036
                         obtain rfl : ad10035 = ad10036 := (by injection e10036)
                         replace hx10036_0 := (HB.out.cell (World.block_lt_of_cell? w _ hx10036_0)).trans hx10036_0
                         replace hx10036_1 := (HB.out.cell (World.block_lt_of_cell? w _ hx10036_1)).trans hx10036_1
                         replace p10036 := eq_true p10036
                         replace q10036 := eq_true q10036
                         have p10037 : 0 ≤ (x18_5 : Int) := of_decide_eq_true (by first | (with_reducible assumption) | assumption)
                         have q10037 : x18_5 < (l1.length : Int) := of_decide_eq_true (by first | (with_reducible assumption) | assumption)
                         obtain ⟨ad10037, e10037, hx10037_0, hx10037_1⟩ := at_T49 HR1.out x18_5 p10037 q10037
                         obtain rfl : ad10035 = ad10037 := (by injection e10037)
                         replace hx10037_0 := (HB.out.cell (World.block_lt_of_cell? w _ hx10037_0)).trans hx10037_0
                         replace hx10037_1 := (HB.out.cell (World.block_lt_of_cell? w _ hx10037_1)).trans hx10037_1
                         replace p10037 := eq_true p10037
                         replace q10037 := eq_true q10037
                         have hcz96_0 : wc.cell? ⟨gb10001, 0, none⟩ = some (.int .i64 a2_0) := (blk_cell BK10001.out 0).trans rfl
                         have hcz96_1 : wc.cell? ⟨gb10001, 1, none⟩ = some (.int .i64 a2_1) := (blk_cell BK10001.out 1).trans rfl
                         have hfz96_0 := blk_frozen BK10001.out 0
                         have hfz96_1 := blk_frozen BK10001.out 1
                         go_wp2
                         repeat (go_quiet (fail); try go_wp2)
                         go_roundg kj76
                         case measure => have := HJ10.out; have := HK2.out; have := HJ43.out; have := HJ58.out; have := HK5.out; have := HJ76.out; omega
                         case rel => exact ⟨(x16_5), (x17_5), (wrap64 (x18_5 + 1)), (by first | rfl | (simp; done) | (simp [*]; done)), (by first | rfl | (simp; done) | (simp [*]; done)), (by first | rfl | (simp; done) | (simp [*]; done)), H', ⟨by have := HJ10.out; have := HK2.out; have := HJ43.out; have := HJ58.out; have := HK5.out; have := HJ76.out; omega⟩, ⟨by (with_reducible repeat (first | refine blk_drewN ?_ _ | refine blk_drew ?_ | refine blk_alloc ?_ _)); exact BK10001.out⟩, ⟨by repeat (first | exact HB.out | apply below_alloc | apply pw_below_drewN | apply below_drew1 | refine below_set ?_ GE10001.out)⟩⟩
                       ·rw [if_neg c92] at H
                        have c92b0 : decide (((rd_T49 l1 x18_5).f0) < ((rd_T49 l1 x18_5).f1)) = false := decide_eq_false c92
                        clear c92
                        have H' := Aside0.mk H
                        clear H
                        have p10035 : 0 ≤ (x18_5 : Int) := of_decide_eq_true (by first | (with_reducible assumption) | assumption)
                        have q10035 : x18_5 < (l1.length : Int) := of_decide_eq_true (by first | (with_reducible assumption) | assumption)
                        obtain ⟨ad10035, e10035, hx10035_0, hx10035_1⟩ := at_T49 HR1.out x18_5 p10035 q10035
                        cases e10035
                        replace hx10035_0 := (HB.out.cell (World.block_lt_of_cell? w _ hx10035_0)).trans hx10035_0
                        replace hx10035_1 := (HB.out.cell (World.block_lt_of_cell? w _ hx10035_1)).trans hx10035_1
                        replace p10035 := eq_true p10035
                        replace q10035 := eq_true q10035
                        have p10036 : 0 ≤ (x18_5 : Int) := of_decide_eq_true (by first | (with_reducible assumption) | assumption)
                        have q10036 : x18_5 < (l1.length : Int) := of_decide_eq_true (by first | (with_reducible assumption) | assumption)
                        obtain ⟨ad10036, e10036, hx10036_0, hx10036_1⟩ := at_T49 HR1.out x18_5 p10036 q10036
                        obtain rfl : ad10035 = ad10036 := (by injection e10036)
                        replace hx10036_0 := (HB.out.cell (World.block_lt_of_cell? w _ hx10036_0)).trans hx10036_0
                        replace hx10036_1 := (HB.out.cell (World.block_lt_of_cell? w _ hx10036_1)).trans hx10036_1
                        replace p10036 := eq_true p10036
                        replace q10036 := eq_true q10036
                        go_wp2
                        repeat (go_quiet (fail); try go_wp2)
                        go_roundg kj76
                        case measure => have := HJ10.out; have := HK2.out; have := HJ43.out; have := HJ58.out; have := HK5.out; have := HJ76.out; omega
                        case rel => exact ⟨(x16_5), (x17_5), (wrap64 (x18_5 + 1)), (by first | rfl | (simp; done) | (simp [*]; done)), (by first | rfl | (simp; done) | (simp [*]; done)), (by first | rfl | (simp; done) | (simp [*]; done)), H', ⟨by have := HJ10.out; have := HK2.out; have := HJ43.out; have := HJ58.out; have := HK5.out; have := HJ76.out; omega⟩, ⟨by (with_reducible repeat (first | refine blk_drewN ?_ _ | refine blk_drew ?_ | refine blk_alloc ?_ _)); exact BK10001.out⟩, ⟨by repeat (first | exact HB.out | apply below_alloc | apply pw_below_drewN | apply below_drew1 | refine below_set ?_ GE10001.out)⟩⟩
                      ·rw [if_neg c91] at H
                       exact absurd H (by simp)
                     ·rw [if_neg c90] at H
                      exact absurd H (by simp)
                 ·rw [if_neg c76] at H
                  have c76b0 : decide (x18_5 < (l1.length : Int)) = false := decide_eq_false c76
                  clear c76
                  by_cases c97 : (wrap64 (x17_5 - x16_5)) < a2_0
                  ·rw [if_pos c97] at H
                   have c97b0 : decide ((wrap64 (x17_5 - x16_5)) < a2_0) = true := decide_eq_true c97
                   clear c97
                   replace H := Option.bind_eq_some_iff.mp H
                   obtain ⟨t10026, A980, H⟩ := H
                   replace H : (some t10026) = some r := H
                   have A98 := Aside0.mk A980
                   clear A980
                   obtain rfl := Option.some.inj H
                   have hcz99_0 : wr.cell? ⟨gb10001, 0, none⟩ = some (.int .i64 a2_0) := (blk_cell BK10001.out 0).trans rfl
                   have hcz99_1 : wr.cell? ⟨gb10001, 1, none⟩ = some (.int .i64 a2_1) := (blk_cell BK10001.out 1).trans rfl
                   have hfz99_0 := blk_frozen BK10001.out 0
                   have hfz99_1 := blk_frozen BK10001.out 1
                   go_wp2_with (first | (go_at_call 12; (with_reducible refine (papermilllaw40_awake.calls  t10026 _ A98.out).mono ?_); rintro e w100 ⟨rfl, hb⟩; have n0_ := Aside0.mk (blk_below (g := gb10001) (o := .cells #[.int .i64 a2_0, .int .i64 a2_1] 44 (0, 0)) (by (with_reducible repeat (first | refine blk_drewN ?_ _ | refine blk_drew ?_ | refine blk_alloc ?_ _)); exact BK10001.out) hb); have n1_ := Aside0.mk (below_step (by repeat (first | exact HB.out | apply below_alloc | apply pw_below_drewN | apply below_drew1 | refine below_set ?_ GE10001.out)) hb); clear BK10001; clear HB; have BK10001 := n0_; have HB := n1_; clear n0_ n1_; (try clear hb); (try clear hb2); (try clear hk); (try clear hi)))
                   repeat (go_quiet (first | (go_at_call 12; (with_reducible refine (papermilllaw40_awake.calls  t10026 _ A98.out).mono ?_); rintro e w100 ⟨rfl, hb⟩; have n0_ := Aside0.mk (blk_below (g := gb10001) (o := .cells #[.int .i64 a2_0, .int .i64 a2_1] 44 (0, 0)) (by (with_reducible repeat (first | refine blk_drewN ?_ _ | refine blk_drew ?_ | refine blk_alloc ?_ _)); exact BK10001.out) hb); have n1_ := Aside0.mk (below_step (by repeat (first | exact HB.out | apply below_alloc | apply pw_below_drewN | apply below_drew1 | refine below_set ?_ GE10001.out)) hb); clear BK10001; clear HB; have BK10001 := n0_; have HB := n1_; clear n0_ n1_; (try clear hb); (try clear hb2); (try clear hk); (try clear hi))); try go_wp2_with (first | (go_at_call 12; (with_reducible refine (papermilllaw40_awake.calls  t10026 _ A98.out).mono ?_); rintro e w100 ⟨rfl, hb⟩; have n0_ := Aside0.mk (blk_below (g := gb10001) (o := .cells #[.int .i64 a2_0, .int .i64 a2_1] 44 (0, 0)) (by (with_reducible repeat (first | refine blk_drewN ?_ _ | refine blk_drew ?_ | refine blk_alloc ?_ _)); exact BK10001.out) hb); have n1_ := Aside0.mk (below_step (by repeat (first | exact HB.out | apply below_alloc | apply pw_below_drewN | apply below_drew1 | refine below_set ?_ GE10001.out)) hb); clear BK10001; clear HB; have BK10001 := n0_; have HB := n1_; clear n0_ n1_; (try clear hb); (try clear hb2); (try clear hk); (try clear hi))))
                   go_ret
                   exact ⟨by first | rfl | (simp [errW_none, errW_some] <;> rfl) | (simp [*, errW_none, errW_some] <;> rfl), by repeat (first | exact HB.out | apply below_alloc | apply pw_below_drewN | apply below_drew1 | refine below_set ?_ GE10001.out)⟩
                  ·rw [if_neg c97] at H
                   have c97b0 : decide ((wrap64 (x17_5 - x16_5)) < a2_0) = false := decide_eq_false c97
                   clear c97
                   obtain rfl := Option.some.inj H
                   have hcz101_0 : wr.cell? ⟨gb10001, 0, none⟩ = some (.int .i64 a2_0) := (blk_cell BK10001.out 0).trans rfl
                   have hcz101_1 : wr.cell? ⟨gb10001, 1, none⟩ = some (.int .i64 a2_1) := (blk_cell BK10001.out 1).trans rfl
                   have hfz101_0 := blk_frozen BK10001.out 0
                   have hfz101_1 := blk_frozen BK10001.out 1
                   go_wp2
                   repeat (go_quiet (fail); try go_wp2)
                   go_ret
                   exact ⟨by first | rfl | (simp [errW_none, errW_some] <;> rfl) | (simp [*, errW_none, errW_some] <;> rfl), by repeat (first | exact HB.out | apply below_alloc | apply pw_below_drewN | apply below_drew1 | refine below_set ?_ GE10001.out)⟩
  ·rw [if_neg c10] at H
   have c10b0 : (t10005 == 0) = false := beq_eq_false_iff_ne.mpr c10
   have c10b1 : (t10005 != 0) = true := bne_iff_ne.mpr c10
   by_cases c102 : (t10004.length : Int) = 0
   ·rw [if_pos c102] at H
    have c102b0 : ((t10004.length : Int) == 0) = true := beq_iff_eq.mpr c102
    have c102b1 : ((t10004.length : Int) != 0) = false := bne_eq_false_iff_eq.mpr c102
    clear c102
    replace H := Option.bind_eq_some_iff.mp H
    obtain ⟨t10008, A1030, H⟩ := H
    replace H : (some t10008) = some r := H
    have A103 := Aside0.mk A1030
    clear A1030
    obtain rfl := Option.some.inj H
    go_enter Try.func9, Try.ntmps9
    go_wp2_with (first | ((with_reducible refine gate_dst (N := 5) rfl ?_); (try (refine gate_guard (by rfl) ?_; dsimp only)); refine box_event ?hg (N := 5) ?hd (cs := #[.int .i64 a2_0, .int .i64 a2_1]) (t := 44) ?hr ?_; (case hd => rfl); (case hg => rfl); (case hr => first | (go_simp; done) | (go_simp; rfl)); intro gb10001 hg w104 hbox hb; have n0_ := Aside0.mk (below_step (by repeat (first | exact HB.out | apply below_alloc | apply pw_below_drewN | apply below_drew1)) hb); have n1_ := Aside0.mk (hbox); have n2_ := Aside0.mk ((by rw [hg]; exact (below_size (by repeat (first | exact HB.out | apply below_alloc | apply pw_below_drewN | apply below_drew1))) : w.heap.size ≤ gb10001)); have n3_ := Aside0.mk ((by rw [hg]; exact (below_size (by repeat (first | exact HB.out | apply below_alloc | apply pw_below_drewN | apply below_drew1))) : w.heap.size ≤ gb10001)); clear HB; have HB := n0_; have BK10001 := n1_; have GW10001 := n2_; have GE10001 := n3_; clear n0_ n1_ n2_ n3_; clear hb hbox hg) | (go_at_call 11; (with_reducible refine (papermilllaw40_great.calls _ _ l1 false _ ?side1 ?side2 A4.out).mono ?_); (case side1 => repeat (first | exact (Kd.C_below HR1.out HB.out) | (with_reducible refine Kd.C_alloc ?_ _) | (with_reducible refine Kd.C_drewN ?_ _) | (with_reducible refine Kd.C_drew ?_))); (case side2 => exact HC1.out); rintro e w' ⟨rfl, ⟨nd, rfl⟩⟩; (try first | exact ⟨rfl, _, World.drewN_drewN _ _ _⟩ | exact ⟨rfl, _, Eq.trans (World.drewN_drewN _ _ _) (congrArg (World.drewN _) (Nat.add_assoc _ _ _))⟩); have hcz105_0 : w104.cell? ⟨gb10001, 0, none⟩ = some (.int .i64 a2_0) := (blk_cell BK10001.out 0).trans rfl; have hcz105_1 : w104.cell? ⟨gb10001, 1, none⟩ = some (.int .i64 a2_1) := (blk_cell BK10001.out 1).trans rfl; have hfz105_0 := blk_frozen BK10001.out 0; have hfz105_1 := blk_frozen BK10001.out 1) | (go_at_call 13; (with_reducible refine (splice_Keep.calls a0 _ _ l1 a2_0 t10004 t10005 _ ?side1 ?side2 A9.out).mono ?_); (case side1 => repeat (first | exact (Kd.C_below HR1.out (by repeat (first | exact HB.out | apply below_alloc | apply pw_below_drewN | apply below_drew1 | refine below_set ?_ GE10001.out))) | (with_reducible refine Kd.C_alloc ?_ _) | (with_reducible refine Kd.C_drewN ?_ _) | (with_reducible refine Kd.C_drew ?_))); (case side2 => exact HC1.out); rintro e w106 ⟨v10006, rfl, ho0, hb⟩; have n0_ := Aside0.mk (Kd.R_lower ho0 (below_size (by repeat (first | exact HB.out | apply below_alloc | apply pw_below_drewN | apply below_drew1 | refine below_set ?_ GE10001.out)))); have n1_ := Aside0.mk (blk_below (g := gb10001) (o := .cells #[.int .i64 a2_0, .int .i64 a2_1] 44 (0, 0)) (by (with_reducible repeat (first | refine blk_drewN ?_ _ | refine blk_drew ?_ | refine blk_alloc ?_ _)); exact BK10001.out) hb); have n2_ := Aside0.mk (below_step (by repeat (first | exact HB.out | apply below_alloc | apply pw_below_drewN | apply below_drew1 | refine below_set ?_ GE10001.out)) hb); clear BK10001; clear HB; have HO10007 := n0_; have BK10001 := n1_; have HB := n2_; clear n0_ n1_ n2_; (try clear hb); (try clear hb2); (try clear hk); (try clear hi); (try clear ho0); obtain ⟨Ao107, co107, eo107⟩ := Kd.R_slice HO10007.out; subst eo107) | (go_at_call 12; (with_reducible refine (papermilllaw40_awake.calls  t10008 _ A103.out).mono ?_); rintro e w108 ⟨rfl, hb⟩; have n0_ := Aside0.mk (Kd.R_below (by (with_reducible repeat (first | apply Kd.R_alloc | apply Kd.R_drewN | apply Kd.R_drew)); exact HO10007.out) hb); have n1_ := Aside0.mk (blk_below (g := gb10001) (o := .cells #[.int .i64 a2_0, .int .i64 a2_1] 44 (0, 0)) (by (with_reducible repeat (first | refine blk_drewN ?_ _ | refine blk_drew ?_ | refine blk_alloc ?_ _)); exact BK10001.out) hb); have n2_ := Aside0.mk (below_step (by repeat (first | exact HB.out | apply below_alloc | apply pw_below_drewN | apply below_drew1 | refine below_set ?_ GE10001.out)) hb); clear HO10007; clear BK10001; clear HB; have HO10007 := n0_; have BK10001 := n1_; have HB := n2_; clear n0_ n1_ n2_; (try clear hb); (try clear hb2); (try clear hk); (try clear hi)))
    repeat (go_quiet (first | ((with_reducible refine gate_dst (N := 5) rfl ?_); (try (refine gate_guard (by rfl) ?_; dsimp only)); refine box_event ?hg (N := 5) ?hd (cs := #[.int .i64 a2_0, .int .i64 a2_1]) (t := 44) ?hr ?_; (case hd => rfl); (case hg => rfl); (case hr => first | (go_simp; done) | (go_simp; rfl)); intro gb10001 hg w104 hbox hb; have n0_ := Aside0.mk (below_step (by repeat (first | exact HB.out | apply below_alloc | apply pw_below_drewN | apply below_drew1)) hb); have n1_ := Aside0.mk (hbox); have n2_ := Aside0.mk ((by rw [hg]; exact (below_size (by repeat (first | exact HB.out | apply below_alloc | apply pw_below_drewN | apply below_drew1))) : w.heap.size ≤ gb10001)); have n3_ := Aside0.mk ((by rw [hg]; exact (below_size (by repeat (first | exact HB.out | apply below_alloc | apply pw_below_drewN | apply below_drew1))) : w.heap.size ≤ gb10001)); clear HB; have HB := n0_; have BK10001 := n1_; have GW10001 := n2_; have GE10001 := n3_; clear n0_ n1_ n2_ n3_; clear hb hbox hg) | (go_at_call 11; (with_reducible refine (papermilllaw40_great.calls _ _ l1 false _ ?side1 ?side2 A4.out).mono ?_); (case side1 => repeat (first | exact (Kd.C_below HR1.out HB.out) | (with_reducible refine Kd.C_alloc ?_ _) | (with_reducible refine Kd.C_drewN ?_ _) | (with_reducible refine Kd.C_drew ?_))); (case side2 => exact HC1.out); rintro e w' ⟨rfl, ⟨nd, rfl⟩⟩; (try first | exact ⟨rfl, _, World.drewN_drewN _ _ _⟩ | exact ⟨rfl, _, Eq.trans (World.drewN_drewN _ _ _) (congrArg (World.drewN _) (Nat.add_assoc _ _ _))⟩); have hcz105_0 : w104.cell? ⟨gb10001, 0, none⟩ = some (.int .i64 a2_0) := (blk_cell BK10001.out 0).trans rfl; have hcz105_1 : w104.cell? ⟨gb10001, 1, none⟩ = some (.int .i64 a2_1) := (blk_cell BK10001.out 1).trans rfl; have hfz105_0 := blk_frozen BK10001.out 0; have hfz105_1 := blk_frozen BK10001.out 1) | (go_at_call 13; (with_reducible refine (splice_Keep.calls a0 _ _ l1 a2_0 t10004 t10005 _ ?side1 ?side2 A9.out).mono ?_); (case side1 => repeat (first | exact (Kd.C_below HR1.out (by repeat (first | exact HB.out | apply below_alloc | apply pw_below_drewN | apply below_drew1 | refine below_set ?_ GE10001.out))) | (with_reducible refine Kd.C_alloc ?_ _) | (with_reducible refine Kd.C_drewN ?_ _) | (with_reducible refine Kd.C_drew ?_))); (case side2 => exact HC1.out); rintro e w106 ⟨v10006, rfl, ho0, hb⟩; have n0_ := Aside0.mk (Kd.R_lower ho0 (below_size (by repeat (first | exact HB.out | apply below_alloc | apply pw_below_drewN | apply below_drew1 | refine below_set ?_ GE10001.out)))); have n1_ := Aside0.mk (blk_below (g := gb10001) (o := .cells #[.int .i64 a2_0, .int .i64 a2_1] 44 (0, 0)) (by (with_reducible repeat (first | refine blk_drewN ?_ _ | refine blk_drew ?_ | refine blk_alloc ?_ _)); exact BK10001.out) hb); have n2_ := Aside0.mk (below_step (by repeat (first | exact HB.out | apply below_alloc | apply pw_below_drewN | apply below_drew1 | refine below_set ?_ GE10001.out)) hb); clear BK10001; clear HB; have HO10007 := n0_; have BK10001 := n1_; have HB := n2_; clear n0_ n1_ n2_; (try clear hb); (try clear hb2); (try clear hk); (try clear hi); (try clear ho0); obtain ⟨Ao107, co107, eo107⟩ := Kd.R_slice HO10007.out; subst eo107) | (go_at_call 12; (with_reducible refine (papermilllaw40_awake.calls  t10008 _ A103.out).mono ?_); rintro e w108 ⟨rfl, hb⟩; have n0_ := Aside0.mk (Kd.R_below (by (with_reducible repeat (first | apply Kd.R_alloc | apply Kd.R_drewN | apply Kd.R_drew)); exact HO10007.out) hb); have n1_ := Aside0.mk (blk_below (g := gb10001) (o := .cells #[.int .i64 a2_0, .int .i64 a2_1] 44 (0, 0)) (by (with_reducible repeat (first | refine blk_drewN ?_ _ | refine blk_drew ?_ | refine blk_alloc ?_ _)); exact BK10001.out) hb); have n2_ := Aside0.mk (below_step (by repeat (first | exact HB.out | apply below_alloc | apply pw_below_drewN | apply below_drew1 | refine below_set ?_ GE10001.out)) hb); clear HO10007; clear BK10001; clear HB; have HO10007 := n0_; have BK10001 := n1_; have HB := n2_; clear n0_ n1_ n2_; (try clear hb); (try clear hb2); (try clear hk); (try clear hi))); try go_wp2_with (first | ((with_reducible refine gate_dst (N := 5) rfl ?_); (try (refine gate_guard (by rfl) ?_; dsimp only)); refine box_event ?hg (N := 5) ?hd (cs := #[.int .i64 a2_0, .int .i64 a2_1]) (t := 44) ?hr ?_; (case hd => rfl); (case hg => rfl); (case hr => first | (go_simp; done) | (go_simp; rfl)); intro gb10001 hg w104 hbox hb; have n0_ := Aside0.mk (below_step (by repeat (first | exact HB.out | apply below_alloc | apply pw_below_drewN | apply below_drew1)) hb); have n1_ := Aside0.mk (hbox); have n2_ := Aside0.mk ((by rw [hg]; exact (below_size (by repeat (first | exact HB.out | apply below_alloc | apply pw_below_drewN | apply below_drew1))) : w.heap.size ≤ gb10001)); have n3_ := Aside0.mk ((by rw [hg]; exact (below_size (by repeat (first | exact HB.out | apply below_alloc | apply pw_below_drewN | apply below_drew1))) : w.heap.size ≤ gb10001)); clear HB; have HB := n0_; have BK10001 := n1_; have GW10001 := n2_; have GE10001 := n3_; clear n0_ n1_ n2_ n3_; clear hb hbox hg) | (go_at_call 11; (with_reducible refine (papermilllaw40_great.calls _ _ l1 false _ ?side1 ?side2 A4.out).mono ?_); (case side1 => repeat (first | exact (Kd.C_below HR1.out HB.out) | (with_reducible refine Kd.C_alloc ?_ _) | (with_reducible refine Kd.C_drewN ?_ _) | (with_reducible refine Kd.C_drew ?_))); (case side2 => exact HC1.out); rintro e w' ⟨rfl, ⟨nd, rfl⟩⟩; (try first | exact ⟨rfl, _, World.drewN_drewN _ _ _⟩ | exact ⟨rfl, _, Eq.trans (World.drewN_drewN _ _ _) (congrArg (World.drewN _) (Nat.add_assoc _ _ _))⟩); have hcz105_0 : w104.cell? ⟨gb10001, 0, none⟩ = some (.int .i64 a2_0) := (blk_cell BK10001.out 0).trans rfl; have hcz105_1 : w104.cell? ⟨gb10001, 1, none⟩ = some (.int .i64 a2_1) := (blk_cell BK10001.out 1).trans rfl; have hfz105_0 := blk_frozen BK10001.out 0; have hfz105_1 := blk_frozen BK10001.out 1) | (go_at_call 13; (with_reducible refine (splice_Keep.calls a0 _ _ l1 a2_0 t10004 t10005 _ ?side1 ?side2 A9.out).mono ?_); (case side1 => repeat (first | exact (Kd.C_below HR1.out (by repeat (first | exact HB.out | apply below_alloc | apply pw_below_drewN | apply below_drew1 | refine below_set ?_ GE10001.out))) | (with_reducible refine Kd.C_alloc ?_ _) | (with_reducible refine Kd.C_drewN ?_ _) | (with_reducible refine Kd.C_drew ?_))); (case side2 => exact HC1.out); rintro e w106 ⟨v10006, rfl, ho0, hb⟩; have n0_ := Aside0.mk (Kd.R_lower ho0 (below_size (by repeat (first | exact HB.out | apply below_alloc | apply pw_below_drewN | apply below_drew1 | refine below_set ?_ GE10001.out)))); have n1_ := Aside0.mk (blk_below (g := gb10001) (o := .cells #[.int .i64 a2_0, .int .i64 a2_1] 44 (0, 0)) (by (with_reducible repeat (first | refine blk_drewN ?_ _ | refine blk_drew ?_ | refine blk_alloc ?_ _)); exact BK10001.out) hb); have n2_ := Aside0.mk (below_step (by repeat (first | exact HB.out | apply below_alloc | apply pw_below_drewN | apply below_drew1 | refine below_set ?_ GE10001.out)) hb); clear BK10001; clear HB; have HO10007 := n0_; have BK10001 := n1_; have HB := n2_; clear n0_ n1_ n2_; (try clear hb); (try clear hb2); (try clear hk); (try clear hi); (try clear ho0); obtain ⟨Ao107, co107, eo107⟩ := Kd.R_slice HO10007.out; subst eo107) | (go_at_call 12; (with_reducible refine (papermilllaw40_awake.calls  t10008 _ A103.out).mono ?_); rintro e w108 ⟨rfl, hb⟩; have n0_ := Aside0.mk (Kd.R_below (by (with_reducible repeat (first | apply Kd.R_alloc | apply Kd.R_drewN | apply Kd.R_drew)); exact HO10007.out) hb); have n1_ := Aside0.mk (blk_below (g := gb10001) (o := .cells #[.int .i64 a2_0, .int .i64 a2_1] 44 (0, 0)) (by (with_reducible repeat (first | refine blk_drewN ?_ _ | refine blk_drew ?_ | refine blk_alloc ?_ _)); exact BK10001.out) hb); have n2_ := Aside0.mk (below_step (by repeat (first | exact HB.out | apply below_alloc | apply pw_below_drewN | apply below_drew1 | refine below_set ?_ GE10001.out)) hb); clear HO10007; clear BK10001; clear HB; have HO10007 := n0_; have BK10001 := n1_; have HB := n2_; clear n0_ n1_ n2_; (try clear hb); (try clear hb2); (try clear hk); (try clear hi))))
    go_ret
    exact ⟨by first | rfl | (simp [errW_none, errW_some] <;> rfl) | (simp [*, errW_none, errW_some] <;> rfl), by repeat (first | exact HB.out | apply below_alloc | apply pw_below_drewN | apply below_drew1 | refine below_set ?_ GE10001.out)⟩
   ·rw [if_neg c102] at H
    have c102b0 : ((t10004.length : Int) == 0) = false := beq_eq_false_iff_ne.mpr c102
    have c102b1 : ((t10004.length : Int) != 0) = true := bne_iff_ne.mpr c102
    have c102b2 : ¬ (t10004 = []) := fun h_ => c102 (by rw [h_]; rfl)
    obtain rfl := Option.some.inj H
    go_enter Try.func9, Try.ntmps9
    go_wp2_with (first | ((with_reducible refine gate_dst (N := 5) rfl ?_); (try (refine gate_guard (by rfl) ?_; dsimp only)); refine box_event ?hg (N := 5) ?hd (cs := #[.int .i64 a2_0, .int .i64 a2_1]) (t := 44) ?hr ?_; (case hd => rfl); (case hg => rfl); (case hr => first | (go_simp; done) | (go_simp; rfl)); intro gb10001 hg w109 hbox hb; have n0_ := Aside0.mk (below_step (by repeat (first | exact HB.out | apply below_alloc | apply pw_below_drewN | apply below_drew1)) hb); have n1_ := Aside0.mk (hbox); have n2_ := Aside0.mk ((by rw [hg]; exact (below_size (by repeat (first | exact HB.out | apply below_alloc | apply pw_below_drewN | apply below_drew1))) : w.heap.size ≤ gb10001)); have n3_ := Aside0.mk ((by rw [hg]; exact (below_size (by repeat (first | exact HB.out | apply below_alloc | apply pw_below_drewN | apply below_drew1))) : w.heap.size ≤ gb10001)); clear HB; have HB := n0_; have BK10001 := n1_; have GW10001 := n2_; have GE10001 := n3_; clear n0_ n1_ n2_ n3_; clear hb hbox hg) | (go_at_call 11; (with_reducible refine (papermilllaw40_great.calls _ _ l1 false _ ?side1 ?side2 A4.out).mono ?_); (case side1 => repeat (first | exact (Kd.C_below HR1.out HB.out) | (with_reducible refine Kd.C_alloc ?_ _) | (with_reducible refine Kd.C_drewN ?_ _) | (with_reducible refine Kd.C_drew ?_))); (case side2 => exact HC1.out); rintro e w' ⟨rfl, ⟨nd, rfl⟩⟩; (try first | exact ⟨rfl, _, World.drewN_drewN _ _ _⟩ | exact ⟨rfl, _, Eq.trans (World.drewN_drewN _ _ _) (congrArg (World.drewN _) (Nat.add_assoc _ _ _))⟩); have hcz110_0 : w109.cell? ⟨gb10001, 0, none⟩ = some (.int .i64 a2_0) := (blk_cell BK10001.out 0).trans rfl; have hcz110_1 : w109.cell? ⟨gb10001, 1, none⟩ = some (.int .i64 a2_1) := (blk_cell BK10001.out 1).trans rfl; have hfz110_0 := blk_frozen BK10001.out 0; have hfz110_1 := blk_frozen BK10001.out 1) | (go_at_call 13; (with_reducible refine (splice_Keep.calls a0 _ _ l1 a2_0 t10004 t10005 _ ?side1 ?side2 A9.out).mono ?_); (case side1 => repeat (first | exact (Kd.C_below HR1.out (by repeat (first | exact HB.out | apply below_alloc | apply pw_below_drewN | apply below_drew1 | refine below_set ?_ GE10001.out))) | (with_reducible refine Kd.C_alloc ?_ _) | (with_reducible refine Kd.C_drewN ?_ _) | (with_reducible refine Kd.C_drew ?_))); (case side2 => exact HC1.out); rintro e w111 ⟨v10006, rfl, ho0, hb⟩; have n0_ := Aside0.mk (Kd.R_lower ho0 (below_size (by repeat (first | exact HB.out | apply below_alloc | apply pw_below_drewN | apply below_drew1 | refine below_set ?_ GE10001.out)))); have n1_ := Aside0.mk (blk_below (g := gb10001) (o := .cells #[.int .i64 a2_0, .int .i64 a2_1] 44 (0, 0)) (by (with_reducible repeat (first | refine blk_drewN ?_ _ | refine blk_drew ?_ | refine blk_alloc ?_ _)); exact BK10001.out) hb); have n2_ := Aside0.mk (below_step (by repeat (first | exact HB.out | apply below_alloc | apply pw_below_drewN | apply below_drew1 | refine below_set ?_ GE10001.out)) hb); clear BK10001; clear HB; have HO10007 := n0_; have BK10001 := n1_; have HB := n2_; clear n0_ n1_ n2_; (try clear hb); (try clear hb2); (try clear hk); (try clear hi); (try clear ho0); obtain ⟨Ao112, co112, eo112⟩ := Kd.R_slice HO10007.out; subst eo112))
    repeat (go_quiet (first | ((with_reducible refine gate_dst (N := 5) rfl ?_); (try (refine gate_guard (by rfl) ?_; dsimp only)); refine box_event ?hg (N := 5) ?hd (cs := #[.int .i64 a2_0, .int .i64 a2_1]) (t := 44) ?hr ?_; (case hd => rfl); (case hg => rfl); (case hr => first | (go_simp; done) | (go_simp; rfl)); intro gb10001 hg w109 hbox hb; have n0_ := Aside0.mk (below_step (by repeat (first | exact HB.out | apply below_alloc | apply pw_below_drewN | apply below_drew1)) hb); have n1_ := Aside0.mk (hbox); have n2_ := Aside0.mk ((by rw [hg]; exact (below_size (by repeat (first | exact HB.out | apply below_alloc | apply pw_below_drewN | apply below_drew1))) : w.heap.size ≤ gb10001)); have n3_ := Aside0.mk ((by rw [hg]; exact (below_size (by repeat (first | exact HB.out | apply below_alloc | apply pw_below_drewN | apply below_drew1))) : w.heap.size ≤ gb10001)); clear HB; have HB := n0_; have BK10001 := n1_; have GW10001 := n2_; have GE10001 := n3_; clear n0_ n1_ n2_ n3_; clear hb hbox hg) | (go_at_call 11; (with_reducible refine (papermilllaw40_great.calls _ _ l1 false _ ?side1 ?side2 A4.out).mono ?_); (case side1 => repeat (first | exact (Kd.C_below HR1.out HB.out) | (with_reducible refine Kd.C_alloc ?_ _) | (with_reducible refine Kd.C_drewN ?_ _) | (with_reducible refine Kd.C_drew ?_))); (case side2 => exact HC1.out); rintro e w' ⟨rfl, ⟨nd, rfl⟩⟩; (try first | exact ⟨rfl, _, World.drewN_drewN _ _ _⟩ | exact ⟨rfl, _, Eq.trans (World.drewN_drewN _ _ _) (congrArg (World.drewN _) (Nat.add_assoc _ _ _))⟩); have hcz110_0 : w109.cell? ⟨gb10001, 0, none⟩ = some (.int .i64 a2_0) := (blk_cell BK10001.out 0).trans rfl; have hcz110_1 : w109.cell? ⟨gb10001, 1, none⟩ = some (.int .i64 a2_1) := (blk_cell BK10001.out 1).trans rfl; have hfz110_0 := blk_frozen BK10001.out 0; have hfz110_1 := blk_frozen BK10001.out 1) | (go_at_call 13; (with_reducible refine (splice_Keep.calls a0 _ _ l1 a2_0 t10004 t10005 _ ?side1 ?side2 A9.out).mono ?_); (case side1 => repeat (first | exact (Kd.C_below HR1.out (by repeat (first | exact HB.out | apply below_alloc | apply pw_below_drewN | apply below_drew1 | refine below_set ?_ GE10001.out))) | (with_reducible refine Kd.C_alloc ?_ _) | (with_reducible refine Kd.C_drewN ?_ _) | (with_reducible refine Kd.C_drew ?_))); (case side2 => exact HC1.out); rintro e w111 ⟨v10006, rfl, ho0, hb⟩; have n0_ := Aside0.mk (Kd.R_lower ho0 (below_size (by repeat (first | exact HB.out | apply below_alloc | apply pw_below_drewN | apply below_drew1 | refine below_set ?_ GE10001.out)))); have n1_ := Aside0.mk (blk_below (g := gb10001) (o := .cells #[.int .i64 a2_0, .int .i64 a2_1] 44 (0, 0)) (by (with_reducible repeat (first | refine blk_drewN ?_ _ | refine blk_drew ?_ | refine blk_alloc ?_ _)); exact BK10001.out) hb); have n2_ := Aside0.mk (below_step (by repeat (first | exact HB.out | apply below_alloc | apply pw_below_drewN | apply below_drew1 | refine below_set ?_ GE10001.out)) hb); clear BK10001; clear HB; have HO10007 := n0_; have BK10001 := n1_; have HB := n2_; clear n0_ n1_ n2_; (try clear hb); (try clear hb2); (try clear hk); (try clear hi); (try clear ho0); obtain ⟨Ao112, co112, eo112⟩ := Kd.R_slice HO10007.out; subst eo112)); try go_wp2_with (first | ((with_reducible refine gate_dst (N := 5) rfl ?_); (try (refine gate_guard (by rfl) ?_; dsimp only)); refine box_event ?hg (N := 5) ?hd (cs := #[.int .i64 a2_0, .int .i64 a2_1]) (t := 44) ?hr ?_; (case hd => rfl); (case hg => rfl); (case hr => first | (go_simp; done) | (go_simp; rfl)); intro gb10001 hg w109 hbox hb; have n0_ := Aside0.mk (below_step (by repeat (first | exact HB.out | apply below_alloc | apply pw_below_drewN | apply below_drew1)) hb); have n1_ := Aside0.mk (hbox); have n2_ := Aside0.mk ((by rw [hg]; exact (below_size (by repeat (first | exact HB.out | apply below_alloc | apply pw_below_drewN | apply below_drew1))) : w.heap.size ≤ gb10001)); have n3_ := Aside0.mk ((by rw [hg]; exact (below_size (by repeat (first | exact HB.out | apply below_alloc | apply pw_below_drewN | apply below_drew1))) : w.heap.size ≤ gb10001)); clear HB; have HB := n0_; have BK10001 := n1_; have GW10001 := n2_; have GE10001 := n3_; clear n0_ n1_ n2_ n3_; clear hb hbox hg) | (go_at_call 11; (with_reducible refine (papermilllaw40_great.calls _ _ l1 false _ ?side1 ?side2 A4.out).mono ?_); (case side1 => repeat (first | exact (Kd.C_below HR1.out HB.out) | (with_reducible refine Kd.C_alloc ?_ _) | (with_reducible refine Kd.C_drewN ?_ _) | (with_reducible refine Kd.C_drew ?_))); (case side2 => exact HC1.out); rintro e w' ⟨rfl, ⟨nd, rfl⟩⟩; (try first | exact ⟨rfl, _, World.drewN_drewN _ _ _⟩ | exact ⟨rfl, _, Eq.trans (World.drewN_drewN _ _ _) (congrArg (World.drewN _) (Nat.add_assoc _ _ _))⟩); have hcz110_0 : w109.cell? ⟨gb10001, 0, none⟩ = some (.int .i64 a2_0) := (blk_cell BK10001.out 0).trans rfl; have hcz110_1 : w109.cell? ⟨gb10001, 1, none⟩ = some (.int .i64 a2_1) := (blk_cell BK10001.out 1).trans rfl; have hfz110_0 := blk_frozen BK10001.out 0; have hfz110_1 := blk_frozen BK10001.out 1) | (go_at_call 13; (with_reducible refine (splice_Keep.calls a0 _ _ l1 a2_0 t10004 t10005 _ ?side1 ?side2 A9.out).mono ?_); (case side1 => repeat (first | exact (Kd.C_below HR1.out (by repeat (first | exact HB.out | apply below_alloc | apply pw_below_drewN | apply below_drew1 | refine below_set ?_ GE10001.out))) | (with_reducible refine Kd.C_alloc ?_ _) | (with_reducible refine Kd.C_drewN ?_ _) | (with_reducible refine Kd.C_drew ?_))); (case side2 => exact HC1.out); rintro e w111 ⟨v10006, rfl, ho0, hb⟩; have n0_ := Aside0.mk (Kd.R_lower ho0 (below_size (by repeat (first | exact HB.out | apply below_alloc | apply pw_below_drewN | apply below_drew1 | refine below_set ?_ GE10001.out)))); have n1_ := Aside0.mk (blk_below (g := gb10001) (o := .cells #[.int .i64 a2_0, .int .i64 a2_1] 44 (0, 0)) (by (with_reducible repeat (first | refine blk_drewN ?_ _ | refine blk_drew ?_ | refine blk_alloc ?_ _)); exact BK10001.out) hb); have n2_ := Aside0.mk (below_step (by repeat (first | exact HB.out | apply below_alloc | apply pw_below_drewN | apply below_drew1 | refine below_set ?_ GE10001.out)) hb); clear BK10001; clear HB; have HO10007 := n0_; have BK10001 := n1_; have HB := n2_; clear n0_ n1_ n2_; (try clear hb); (try clear hb2); (try clear hk); (try clear hi); (try clear ho0); obtain ⟨Ao112, co112, eo112⟩ := Kd.R_slice HO10007.out; subst eo112)))
    go_ret
    exact ⟨by first | rfl | (simp [errW_none, errW_some] <;> rfl) | (simp [*, errW_none, errW_some] <;> rfl), by repeat (first | exact HB.out | apply below_alloc | apply pw_below_drewN | apply below_drew1 | refine below_set ?_ GE10001.out)⟩

end Go.Proofs.Ytjkakgkiikjdmaa.G
