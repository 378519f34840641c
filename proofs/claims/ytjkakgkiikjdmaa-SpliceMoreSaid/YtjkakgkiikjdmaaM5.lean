import Derived.Test.YtjkakgkiikjdmaaQ1
import Derived.WalkKit
import Derived.Shelf.Abstract
import Derived.RangeFuncRecord
import Derived.Deep.LoopGhost
import Derived.Test.YtjkakgkiikjdmaaQ4
namespace Go.Proofs.Ytjkakgkiikjdmaa.G
open Go.RowKit Go.Proofs.YtjkakgkiikjdmaaW.PrintWords Go.Proofs.YtjkakgkiikjdmaaW.PrintLast Go.Proofs.YtjkakgkiikjdmaaW.PrintMore
set_option linter.unusedVariables false
set_option linter.unusedSimpArgs false
def inS (s : S49) (x : Int) : Bool := decide (s.f0 ≤ x) && decide (x < s.f1)
theorem hasOf_inS (l : List S49) (x : Int) : hasOf l x = l.any fun s => inS s x := by
 unfold hasOf inS
 congr 1
 funext s
 rw [Bool.decide_and]
set_option maxRecDepth 100000 in
set_option maxHeartbeats 4000000 in
theorem has_closure (s : S49) (x : Int) (g : Nat) (w : World) (hx : w.cell? ⟨g, 0, none⟩ = some (.int .i64 x)) (hg : g < w.heap.size) :
  Calls Try.prog 47 #[.agg #[.int .i64 s.f0, .int .i64 s.f1], .pointer (some ⟨g, 0, none⟩)] w fun e w' => e = .returned (.bool (inS s x)) ∧ Below w.heap.size w w' := by
 have hq : ∀ o, (w.alloc o).cell? ⟨g, 0, none⟩ = some (.int .i64 x) := fun o => pw_cell_below ((Below.refl _ _).alloc (Nat.le_refl _) o) hx
 clear hx
 obtain ⟨a, b⟩ := s
 by_cases h1 : a ≤ x
 ·have h1b : decide (a ≤ x) = true := by simpa using h1
  have hv : inS ⟨a, b⟩ x = decide (x < b) := by unfold inS; simp [h1]
  rw [hv]
  clear hv
  go_enter Try.func47, Try.ntmps47
  go_wp2
  go_ret
  exact ⟨rfl, (Below.refl _ _).alloc (Nat.le_refl _) _⟩
 ·have h1b : decide (a ≤ x) = false := by simpa using h1
  have hv : inS ⟨a, b⟩ x = false := by unfold inS; simp [h1]
  rw [hv]
  clear hv
  go_enter Try.func47, Try.ntmps47
  go_wp2
  go_ret
  exact ⟨rfl, (Below.refl _ _).alloc (Nat.le_refl _) _⟩
set_option maxRecDepth 100000 in
set_option maxHeartbeats 8000000 in
theorem index_has (A0 : Option Addr) (c0 : Nat) (l : List S49) (x : Int) (g : Nat) (w : World) (hr : Kd.C k49 w A0 l.length l) (hc : l.length ≤ c0) (hl : l.length ≤ 1000000) (hx : w.cell? ⟨g, 0, none⟩ = some (.int .i64 x)) (hg : g < w.heap.size) :
  Calls Try.prog 64 #[.slice A0 l.length c0, .func (.func 47) #[] #[.pointer (some ⟨g, 0, none⟩)]] w fun e w' => ∃ i : Int, e = .returned (.int .i64 i) ∧ decide (0 ≤ i) = hasOf l x ∧ Below w.heap.size w w' := by
 have eg : ∀ args w, (callFunc 47 args).run Try.prog w = .ok (.enter 47 args) w := enters_of Try.func47 (by kernel_rfl) rfl
 have HR := Aside0.mk hr
 have HC := Aside0.mk hc
 have HX := Aside0.mk hx
 have HG := Aside0.mk hg
 clear hr hc hx hg
 go_enter Try.func64, Try.ntmps64
 go_wp2
 go_loopw [8] (fun i wr => ∃ kk : Nat, i = .int .i64 kk ∧ Aside0 (kk ≤ l.length) ∧ Aside0 (hasOf (l.take kk) x = false) ∧ Aside0 (Below w.heap.size w wr))
  (fun i _ => l.length - (intOf i).toNat)
 case atStart => exact ⟨0, rfl, ⟨Nat.zero_le _⟩, ⟨by simp [hasOf]⟩, ⟨Below.refl _ _⟩⟩
 case round =>
  obtain ⟨kk, rfl, HK, HN, HB⟩ := hrel
  by_cases hk : kk < l.length
  ·have hk1 : (kk : Int) < (l.length : Int) := by omega
   have hd0 : decide (kk < l.length) = true := by simpa using hk
   obtain ⟨ad, rfl, hz0, hz1⟩ := at_T49 (Kd.C_below HR.out HB.out) (kk : Int) (by omega) hk1
   simp only [Int.toNat_natCast] at hz0 hz1
   have hsn := Aside0.mk (show hasOf (l.take (kk + 1)) x = (hasOf (l.take kk) x || inS (rd_T49 l kk) x) by rw [List.take_succ_eq_append_getElem hk, hasOf_inS, hasOf_inS, List.any_append]; simp [rd_T49, List.getD_eq_getElem?_getD, List.getElem?_eq_getElem hk])
   have hmem := Aside0.mk (show inS (rd_T49 l kk) x = true → hasOf l x = true from fun h => by
    rw [hasOf_inS, List.any_eq_true]
    exact ⟨l[kk], List.getElem_mem hk, by rw [← h]; simp [rd_T49, List.getD_eq_getElem?_getD, List.getElem?_eq_getElem hk]⟩)
   have hxr := Aside0.mk (pw_cell_below HB.out HX.out)
   have hgr := Aside0.mk (Nat.lt_of_lt_of_le HG.out HB.out.size)
   generalize rd_T49 l kk = s at *
   cases hin : inS s x with
   | true =>
    go_wp2_with (go_at_call 47; (with_reducible refine (has_closure s x g _ hxr.out hgr.out).mono ?_); rintro e w1 ⟨rfl, hb⟩; have HB1 := Aside0.mk (below_then HB.out HB.out.size hb); clear hb)
    go_ret
    exact ⟨_, rfl, by rw [hmem.out hin]; simp, HB1.out⟩
   | false =>
    go_wp2_with (go_at_call 47; (with_reducible refine (has_closure s x g _ hxr.out hgr.out).mono ?_); rintro e w1 ⟨rfl, hb⟩; have HB1 := Aside0.mk (below_then HB.out HB.out.size hb); clear hb)
    go_roundw
    case rel => exact ⟨kk + 1, by go_num, ⟨by omega⟩, ⟨by rw [hsn.out, HN.out, hin]; rfl⟩, HB1⟩
    case measure => simp [intOf]; omega
  ·have hd0 : decide (kk < l.length) = false := by simpa using hk
   have hfin := Aside0.mk (show hasOf l x = false by have := HN.out; rwa [List.take_of_length_le (by omega)] at this)
   go_wp2
   go_ret
   exact ⟨_, rfl, by rw [hfin.out]; rfl, HB.out⟩
set_option maxRecDepth 100000 in
set_option maxHeartbeats 4000000 in
theorem has_main (A0 : Option Addr) (c0 : Nat) (l : List S49) (x : Int) (w : World) (hr : Kd.C k49 w A0 l.length l) (hc : l.length ≤ c0) (hl : l.length ≤ 1000000) :
  Calls Try.prog 28 #[.slice A0 l.length c0, .int .i64 x] w fun e w' => e = .returned (.bool (hasOf l x)) ∧ Below w.heap.size w w' := by
 have HR := Aside0.mk (Kd.C_alloc hr (.cells #[.int .i64 x] 3))
 have HC := Aside0.mk hc
 have HL := Aside0.mk hl
 have HX := Aside0.mk (blk_cell (World.alloc_heap_new w (.cells #[.int .i64 x] 3)) 0)
 have HZ := Aside0.mk (show w.heap.size < (w.alloc (.cells #[.int .i64 x] 3)).heap.size by simp)
 have HB0 := Aside0.mk ((Below.refl w.heap.size w).alloc (Nat.le_refl _) (.cells #[.int .i64 x] 3))
 clear hr hc hl
 have hcf : Calls Try.prog 46 #[.slice A0 l.length c0, .func (.func 47) #[] #[.pointer (some ⟨w.heap.size, 0, none⟩)]] (w.alloc (.cells #[.int .i64 x] 3)) fun e w' => e = .returned (.bool (hasOf l x)) ∧ Below w.heap.size w w' := by
  go_enter Try.func46, Try.ntmps46
  go_wp2_with (go_at_call 64; go_loud (refine (index_has A0 c0 l x w.heap.size _ HR.out HC.out HL.out HX.out HZ.out).mono ?_); rintro e w1 ⟨i, rfl, hi, hb⟩; have HB1 := Aside0.mk (HB0.out.trans (hb.mono (Nat.le_of_lt HZ.out))); have HI := Aside0.mk hi; clear hb hi)
  go_ret
  exact ⟨by rw [HI.out]; rfl, HB1.out⟩
 have HCF := Aside0.mk hcf
 clear hcf
 go_enter Try.func28, Try.ntmps28
 go_wp2_with (go_at_call 46; (with_reducible refine HCF.out.mono ?_); rintro e w1 ⟨rfl, hb⟩; have HB1 := Aside0.mk hb; clear hb)
 go_ret
 exact ⟨rfl, HB1.out⟩
def span_Has.f (l0 : List S49) (a1 : Int) : Option Bool := if l0.length ≤ 1000000 then some (hasOf l0 a1) else none
theorem span_Has.calls (A0 : Option Addr) (c0 : Nat) (l0 : List (S49)) (a1 : Int) (r : Bool) (w : World) (hr0 : Kd.C k49 w A0 l0.length l0) (hc0 : l0.length ≤ c0) (h : span_Has.f l0 a1 = some r) :
  Calls Try.prog 28 #[.slice A0 l0.length c0, .int .i64 a1] w fun e w' => e = .returned (.bool r) ∧ Below w.heap.size w w' := by
 unfold span_Has.f at h
 split at h
 case isFalse => cases h
 rename_i hl
 obtain rfl := Option.some.inj h
 exact has_main A0 c0 l0 a1 w hr0 hc0 hl
end Go.Proofs.Ytjkakgkiikjdmaa.G

namespace Go.Proofs.Ytjkakgkiikjdmaa.G
open Go.RowKit Go.Proofs.YtjkakgkiikjdmaaW.PrintWords Go.Proofs.YtjkakgkiikjdmaaW.PrintLast Go.Proofs.YtjkakgkiikjdmaaW.PrintMore
attribute [local go_sem] max2_int min2_int max_two min_two max_three min_three max_four min_four   -- for this text's walks alone
set_option linter.unusedVariables false
set_option linter.unusedSimpArgs false

mutual
def papermilllaw40_SpliceMore.j0 : Nat → List (S56) → Int → Bool → Int → Int → Option (Bool)
 | 0, _, _, _, _, _ => none
 | k + 1, x0, x1, x33, x8002000, x8002001 => if x33 = true then ((papermilllaw40_awake.f).bind fun t8002 => (some t8002)) else ((splice_Allowed.f k x0 x1 x8002000).bind fun bt8003 => ((splice_Allowed.f k x0 x1 (wrap64 (x8002000 + 1))).bind fun bt8007 => ((splice_Allowed.f k x0 (wrap64 (x1 - 1)) x8002000).bind fun bt8011 => (if bt8003.2 = 0 then (if bt8007.2 = 0 then (papermilllaw40_SpliceMore.j1 k bt8003.1 bt8003.2 bt8007.1 bt8007.2 bt8011.1 bt8011.2 (bt8011.2 != 0) x8002000 x8002001) else (papermilllaw40_SpliceMore.j1 k bt8003.1 bt8003.2 bt8007.1 bt8007.2 bt8011.1 bt8011.2 true x8002000 x8002001)) else (papermilllaw40_SpliceMore.j1 k bt8003.1 bt8003.2 bt8007.1 bt8007.2 bt8011.1 bt8011.2 true x8002000 x8002001)))))
def papermilllaw40_SpliceMore.j1 : Nat → List (S49) → Int → List (S49) → Int → List (S49) → Int → Bool → Int → Int → Option (Bool)
 | 0, _, _, _, _, _, _, _, _, _ => none
 | k + 1, x7, x8, x9, x10, x11, x12, x70, x8002000, x8002001 => if x70 = true then (if x8 = x10 then (if x10 = x12 then ((papermilllaw40_awake.f).bind fun t8015 => (some t8015)) else (some false)) else (some false)) else ((span_Has.f x7 x8002001).bind fun t8016 => (if t8016 = true then ((span_Has.f x9 x8002001).bind fun t8017 => (if t8017 = true then ((span_Has.f x11 x8002001).bind fun t8018 => (if t8018 = true then ((papermilllaw40_awake.f).bind fun t8019 => (some t8019)) else (some false))) else (some false))) else ((papermilllaw40_awake.f).bind fun t8020 => (some t8020))))
end
def papermilllaw40_SpliceMore.f (k : Nat) (l0 : List (S56)) (a1 : Int) (a2_0 : Int) (a2_1 : Int) : Option (Bool) := if (l0.length : Int) > 80 then (papermilllaw40_SpliceMore.j0 k l0 a1 true a2_0 a2_1) else (if a1 < 2 then (papermilllaw40_SpliceMore.j0 k l0 a1 true a2_0 a2_1) else (if a1 > 17179869184 then (papermilllaw40_SpliceMore.j0 k l0 a1 true a2_0 a2_1) else (if a2_0 < 0 then (papermilllaw40_SpliceMore.j0 k l0 a1 true a2_0 a2_1) else (papermilllaw40_SpliceMore.j0 k l0 a1 (decide (a2_0 ≥ 8)) a2_0 a2_1))))
set_option maxHeartbeats 8000000 in
set_option maxRecDepth 100000 in
theorem papermilllaw40_SpliceMore.calls (k : Nat) (A0 : Option Addr) (c0 : Nat) (l0 : List (S56)) (a1 : Int) (a2_0 : Int) (a2_1 : Int) (r : Bool) (w : World) (hr0 : Kd.C k56 w A0 l0.length l0) (hc0 : l0.length ≤ c0) (h : papermilllaw40_SpliceMore.f k l0 a1 a2_0 a2_1 = some r) :
  Calls Try.prog 7 #[.slice A0 l0.length c0, .int .i64 a1, .agg #[.int .i64 a2_0, .int .i64 a2_1]] w fun e w' => e = .returned (.bool r) ∧ Below w.heap.size w w' := by
 have hu44 := Try.underlying44
 have HR0 := Aside0.mk hr0
 have HC0 := Aside0.mk hc0
 clear hr0 hc0
 have HB := Aside0.mk (Below.refl w.heap.size w)
 have H : (if (l0.length : Int) > 80 then (papermilllaw40_SpliceMore.j0 k l0 a1 true a2_0 a2_1) else (if a1 < 2 then (papermilllaw40_SpliceMore.j0 k l0 a1 true a2_0 a2_1) else (if a1 > 17179869184 then (papermilllaw40_SpliceMore.j0 k l0 a1 true a2_0 a2_1) else (if a2_0 < 0 then (papermilllaw40_SpliceMore.j0 k l0 a1 true a2_0 a2_1) else (papermilllaw40_SpliceMore.j0 k l0 a1 (decide (a2_0 ≥ 8)) a2_0 a2_1))))) = some r := h
 clear h
 have HC4 := Aside0.mk H
 clear H
 go_enter Try.func7, Try.ntmps7
 go_upto_region 1 with (first | ((with_reducible refine gate_dst (N := 5) rfl ?_); refine box_event ?hg (N := 5) ?hd (cs := #[.int .i64 a2_0, .int .i64 a2_1]) (t := 44) ?hr ?_; (case hd => rfl); (case hg => rfl); (case hr => first | (go_simp; done) | (go_simp; rfl)); intro gb8001 hg w5 hbox hb; have n0_ := Aside0.mk (below_step (by repeat (first | exact HB.out | apply below_alloc | apply pw_below_drewN | apply below_drew1)) hb); have n1_ := Aside0.mk (hbox); have n2_ := Aside0.mk ((by rw [hg]; exact (below_size (by repeat (first | exact HB.out | apply below_alloc | apply pw_below_drewN | apply below_drew1))) : w.heap.size ≤ gb8001)); have n3_ := Aside0.mk ((by rw [hg]; exact (below_size (by repeat (first | exact HB.out | apply below_alloc | apply pw_below_drewN | apply below_drew1))) : w.heap.size ≤ gb8001)); clear HB; have HB := n0_; have BK8001 := n1_; have GW8001 := n2_; have GE8001 := n3_; clear n0_ n1_ n2_ n3_; clear hb hbox hg))
 (try simp only [Act.put, List.setIfInBounds_toArray, List.set_cons_zero, List.set_cons_succ])
 go_cut [33] (fun v33 wc => ∃ (kq : Nat) (x33_3 : Bool), v33 = .bool x33_3 ∧ Aside0 (papermilllaw40_SpliceMore.j0 kq l0 a1 x33_3 a2_0 a2_1 = some r) ∧ Aside0 (kq ≤ k) ∧ Aside0 (wc.heap[gb8001]? = some (.cells #[.int .i64 a2_0, .int .i64 a2_1] 44 (0, 0))) ∧ Aside0 (Below w.heap.size w wc))
 case first =>
  have H := HC4.out
  clear HC4
  by_cases c6 : (l0.length : Int) > 80
  ·rw [if_pos c6] at H
   have c6b0 : decide (80 < (l0.length : Int)) = true := decide_eq_true c6
   have c6b1 : decide (80 < l0.length) = true := decide_eq_true (by omega)
   clear c6
   (first | rw [c6b0] | (simp only [i64_w, i32_w]; rw [c6b0]) | skip)
   have H' := Aside0.mk H
   clear H
   go_wp2
   go_meet
   case rel => exact ⟨_, (true), (by first | rfl | (simp; done) | (simp [*]; done)), H', ⟨by first | omega | exact Nat.le_refl _⟩, ⟨by (with_reducible repeat (first | refine blk_drewN ?_ _ | refine blk_drew ?_ | refine blk_alloc ?_ _)); exact BK8001.out⟩, ⟨by repeat (first | exact HB.out | apply below_alloc | apply pw_below_drewN | apply below_drew1 | refine below_set ?_ GE8001.out)⟩⟩
  ·rw [if_neg c6] at H
   have c6b0 : decide (80 < (l0.length : Int)) = false := decide_eq_false c6
   have c6b1 : decide (80 < l0.length) = false := decide_eq_false (by omega)
   clear c6
   (first | rw [c6b0] | (simp only [i64_w, i32_w]; rw [c6b0]) | skip)
   by_cases c7 : a1 < 2
   ·rw [if_pos c7] at H
    have c7b0 : decide (a1 < 2) = true := decide_eq_true c7
    clear c7
    have H' := Aside0.mk H
    clear H
    go_wp2
    go_meet
    case rel => exact ⟨_, (true), (by first | rfl | (simp; done) | (simp [*]; done)), H', ⟨by first | omega | exact Nat.le_refl _⟩, ⟨by (with_reducible repeat (first | refine blk_drewN ?_ _ | refine blk_drew ?_ | refine blk_alloc ?_ _)); exact BK8001.out⟩, ⟨by repeat (first | exact HB.out | apply below_alloc | apply pw_below_drewN | apply below_drew1 | refine below_set ?_ GE8001.out)⟩⟩
   ·rw [if_neg c7] at H
    have c7b0 : decide (a1 < 2) = false := decide_eq_false c7
    clear c7
    by_cases c8 : a1 > 17179869184
    ·rw [if_pos c8] at H
     have c8b0 : decide (17179869184 < a1) = true := decide_eq_true c8
     clear c8
     have H' := Aside0.mk H
     clear H
     go_wp2
     go_meet
     case rel => exact ⟨_, (true), (by first | rfl | (simp; done) | (simp [*]; done)), H', ⟨by first | omega | exact Nat.le_refl _⟩, ⟨by (with_reducible repeat (first | refine blk_drewN ?_ _ | refine blk_drew ?_ | refine blk_alloc ?_ _)); exact BK8001.out⟩, ⟨by repeat (first | exact HB.out | apply below_alloc | apply pw_below_drewN | apply below_drew1 | refine below_set ?_ GE8001.out)⟩⟩
    ·rw [if_neg c8] at H
     have c8b0 : decide (17179869184 < a1) = false := decide_eq_false c8
     clear c8
     by_cases c9 : a2_0 < 0
     ·rw [if_pos c9] at H
      have c9b0 : decide (a2_0 < 0) = true := decide_eq_true c9
      clear c9
      have H' := Aside0.mk H
      clear H
      have hcz10_0 : w5.cell? ⟨gb8001, 0, none⟩ = some (.int .i64 a2_0) := (blk_cell BK8001.out 0).trans rfl
      have hcz10_1 : w5.cell? ⟨gb8001, 1, none⟩ = some (.int .i64 a2_1) := (blk_cell BK8001.out 1).trans rfl
      have hfz10_0 := blk_frozen BK8001.out 0
      have hfz10_1 := blk_frozen BK8001.out 1
      go_wp2
      go_meet
      case rel => exact ⟨_, (true), (by first | rfl | (simp; done) | (simp [*]; done)), H', ⟨by first | omega | exact Nat.le_refl _⟩, ⟨by (with_reducible repeat (first | refine blk_drewN ?_ _ | refine blk_drew ?_ | refine blk_alloc ?_ _)); exact BK8001.out⟩, ⟨by repeat (first | exact HB.out | apply below_alloc | apply pw_below_drewN | apply below_drew1 | refine below_set ?_ GE8001.out)⟩⟩
     ·rw [if_neg c9] at H
      have c9b0 : decide (a2_0 < 0) = false := decide_eq_false c9
      clear c9
      have H' := Aside0.mk H
      clear H
      have hcz11_0 : w5.cell? ⟨gb8001, 0, none⟩ = some (.int .i64 a2_0) := (blk_cell BK8001.out 0).trans rfl
      have hcz11_1 : w5.cell? ⟨gb8001, 1, none⟩ = some (.int .i64 a2_1) := (blk_cell BK8001.out 1).trans rfl
      have hfz11_0 := blk_frozen BK8001.out 0
      have hfz11_1 := blk_frozen BK8001.out 1
      go_wp2
      go_meet
      case rel => exact ⟨_, (decide (a2_0 ≥ 8)), (by first | rfl | (simp; done) | (simp [*]; done)), H', ⟨by first | omega | exact Nat.le_refl _⟩, ⟨by (with_reducible repeat (first | refine blk_drewN ?_ _ | refine blk_drew ?_ | refine blk_alloc ?_ _)); exact BK8001.out⟩, ⟨by repeat (first | exact HB.out | apply below_alloc | apply pw_below_drewN | apply below_drew1 | refine below_set ?_ GE8001.out)⟩⟩
 case rest =>
  clear HC4
  try clear p2
  try clear c6
  try clear c6b0
  try clear c6b1
  try clear c7
  try clear c7b0
  try clear c8
  try clear c8b0
  try clear c9
  try clear c9b0
  try clear hcz10_0
  try clear hcz10_1
  try clear hcz11_0
  try clear hcz11_1
  try clear hfz10_0
  try clear hfz10_1
  try clear hfz11_0
  try clear hfz11_1
  obtain ⟨kq, x33_3, rfl, HA, HJ3, BK8001, HB⟩ := hcut
  cases kq with
  | zero => exact absurd HA.out (by simp [papermilllaw40_SpliceMore.j0])
  | succ kj3 =>
   have H := HA.out
   clear HA
   simp only [papermilllaw40_SpliceMore.j0] at H
   by_cases c12 : x33_3 = true
   ·subst c12
    have H1 : ((papermilllaw40_awake.f).bind fun t8002 => (some t8002)) = some r := by rw [if_pos rfl] at H; exact H
    clear H
    have H := H1
    clear H1
    replace H := Option.bind_eq_some_iff.mp H
    obtain ⟨t8002, A130, H⟩ := H
    replace H : (some t8002) = some r := H
    have A13 := Aside0.mk A130
    clear A130
    obtain rfl := Option.some.inj H
    go_wp2_with (first | ((with_reducible refine gate_callee (f := 12) rfl ?_); refine goesL_ (some 34) rfl rfl Try.func12 (by kernel_rfl) rfl #[] rfl (by (try simp only [List.map_toArray, List.map_cons, List.map_nil]); first | done | rfl | (simp only [List.length_drop, List.length_take]; rfl)) ?_; (with_reducible refine (papermilllaw40_awake.calls  t8002 _ A13.out).mono ?_); rintro e w14 ⟨rfl, hb⟩; refine ⟨_, rfl, ?_⟩; have n0_ := Aside0.mk (blk_below (g := gb8001) (o := .cells #[.int .i64 a2_0, .int .i64 a2_1] 44 (0, 0)) (by (with_reducible repeat (first | refine blk_drewN ?_ _ | refine blk_drew ?_ | refine blk_alloc ?_ _)); exact BK8001.out) hb); have n1_ := Aside0.mk (below_step (by repeat (first | exact HB.out | apply below_alloc | apply pw_below_drewN | apply below_drew1 | refine below_set ?_ GE8001.out)) hb); clear BK8001; clear HB; have BK8001 := n0_; have HB := n1_; clear n0_ n1_; (try clear hb); (try clear hb2); (try clear hk); (try clear hi)))
    go_ret
    exact ⟨by first | rfl | (simp [errW_none, errW_some] <;> rfl) | (simp [*, errW_none, errW_some] <;> rfl), by repeat (first | exact HB.out | apply below_alloc | apply pw_below_drewN | apply below_drew1 | refine below_set ?_ GE8001.out)⟩
   ·replace c12 := Bool.eq_false_iff.mpr c12
    subst c12
    have H1 : ((splice_Allowed.f kj3 l0 a1 a2_0).bind fun bt8003 => ((splice_Allowed.f kj3 l0 a1 (wrap64 (a2_0 + 1))).bind fun bt8007 => ((splice_Allowed.f kj3 l0 (wrap64 (a1 - 1)) a2_0).bind fun bt8011 => (if bt8003.2 = 0 then (if bt8007.2 = 0 then (papermilllaw40_SpliceMore.j1 kj3 bt8003.1 bt8003.2 bt8007.1 bt8007.2 bt8011.1 bt8011.2 (bt8011.2 != 0) a2_0 a2_1) else (papermilllaw40_SpliceMore.j1 kj3 bt8003.1 bt8003.2 bt8007.1 bt8007.2 bt8011.1 bt8011.2 true a2_0 a2_1)) else (papermilllaw40_SpliceMore.j1 kj3 bt8003.1 bt8003.2 bt8007.1 bt8007.2 bt8011.1 bt8011.2 true a2_0 a2_1))))) = some r := by rw [if_neg (show ¬ (false = true) by decide)] at H; first | exact H | simpa using H
    clear H
    have H := H1
    clear H1
    replace H := Option.bind_eq_some_iff.mp H
    obtain ⟨⟨t8003, t8004⟩, A150, H⟩ := H
    replace H : ((splice_Allowed.f kj3 l0 a1 (wrap64 (a2_0 + 1))).bind fun bt8007 => ((splice_Allowed.f kj3 l0 (wrap64 (a1 - 1)) a2_0).bind fun bt8011 => (if t8004 = 0 then (if bt8007.2 = 0 then (papermilllaw40_SpliceMore.j1 kj3 t8003 t8004 bt8007.1 bt8007.2 bt8011.1 bt8011.2 (bt8011.2 != 0) a2_0 a2_1) else (papermilllaw40_SpliceMore.j1 kj3 t8003 t8004 bt8007.1 bt8007.2 bt8011.1 bt8011.2 true a2_0 a2_1)) else (papermilllaw40_SpliceMore.j1 kj3 t8003 t8004 bt8007.1 bt8007.2 bt8011.1 bt8011.2 true a2_0 a2_1)))) = some r := H
    have A15 := Aside0.mk A150
    clear A150
    replace H := Option.bind_eq_some_iff.mp H
    obtain ⟨⟨t8007, t8008⟩, A160, H⟩ := H
    replace H : ((splice_Allowed.f kj3 l0 (wrap64 (a1 - 1)) a2_0).bind fun bt8011 => (if t8004 = 0 then (if t8008 = 0 then (papermilllaw40_SpliceMore.j1 kj3 t8003 t8004 t8007 t8008 bt8011.1 bt8011.2 (bt8011.2 != 0) a2_0 a2_1) else (papermilllaw40_SpliceMore.j1 kj3 t8003 t8004 t8007 t8008 bt8011.1 bt8011.2 true a2_0 a2_1)) else (papermilllaw40_SpliceMore.j1 kj3 t8003 t8004 t8007 t8008 bt8011.1 bt8011.2 true a2_0 a2_1))) = some r := H
    have A16 := Aside0.mk A160
    clear A160
    replace H := Option.bind_eq_some_iff.mp H
    obtain ⟨⟨t8011, t8012⟩, A170, H⟩ := H
    replace H : (if t8004 = 0 then (if t8008 = 0 then (papermilllaw40_SpliceMore.j1 kj3 t8003 t8004 t8007 t8008 t8011 t8012 (t8012 != 0) a2_0 a2_1) else (papermilllaw40_SpliceMore.j1 kj3 t8003 t8004 t8007 t8008 t8011 t8012 true a2_0 a2_1)) else (papermilllaw40_SpliceMore.j1 kj3 t8003 t8004 t8007 t8008 t8011 t8012 true a2_0 a2_1)) = some r := H
    have A17 := Aside0.mk A170
    clear A170
    have HC18 := Aside0.mk H
    clear H
    have hcz19_0 : wc.cell? ⟨gb8001, 0, none⟩ = some (.int .i64 a2_0) := (blk_cell BK8001.out 0).trans rfl
    have hcz19_1 : wc.cell? ⟨gb8001, 1, none⟩ = some (.int .i64 a2_1) := (blk_cell BK8001.out 1).trans rfl
    have hfz19_0 := blk_frozen BK8001.out 0
    have hfz19_1 := blk_frozen BK8001.out 1
    go_upto_region 6 with (first | ((with_reducible refine gate_callee (f := 26) rfl ?_); refine goesL_ (some 40) rfl rfl Try.func26 (by kernel_rfl) rfl #[.slice A0 l0.length c0, .int .i64 a1, .int .i64 a2_0] rfl (by (try simp only [List.map_toArray, List.map_cons, List.map_nil]); first | done | rfl | (simp only [List.length_drop, List.length_take]; rfl)) ?_; (with_reducible refine (splice_Allowed.calls kj3 _ _ l0 a1 a2_0 t8003 t8004 _ ?side1 ?side2 A15.out).mono ?_); (case side1 => repeat (first | exact (Kd.C_below HR0.out HB.out) | (with_reducible refine Kd.C_alloc ?_ _) | (with_reducible refine Kd.C_drewN ?_ _) | (with_reducible refine Kd.C_drew ?_))); (case side2 => exact HC0.out); rintro e w20 ⟨v8005, rfl, ho0, hb⟩; refine ⟨_, rfl, ?_⟩; have n0_ := Aside0.mk (Kd.R_lower ho0 (below_size (by repeat (first | exact HB.out | apply below_alloc | apply pw_below_drewN | apply below_drew1 | refine below_set ?_ GE8001.out)))); have n1_ := Aside0.mk (blk_below (g := gb8001) (o := .cells #[.int .i64 a2_0, .int .i64 a2_1] 44 (0, 0)) (by (with_reducible repeat (first | refine blk_drewN ?_ _ | refine blk_drew ?_ | refine blk_alloc ?_ _)); exact BK8001.out) hb); have n2_ := Aside0.mk (below_step (by repeat (first | exact HB.out | apply below_alloc | apply pw_below_drewN | apply below_drew1 | refine below_set ?_ GE8001.out)) hb); clear BK8001; clear HB; have HO8006 := n0_; have BK8001 := n1_; have HB := n2_; clear n0_ n1_ n2_; (try clear hb); (try clear hb2); (try clear hk); (try clear hi); (try clear ho0); have hcz21_0 : w20.cell? ⟨gb8001, 0, none⟩ = some (.int .i64 a2_0) := (blk_cell BK8001.out 0).trans rfl; have hcz21_1 : w20.cell? ⟨gb8001, 1, none⟩ = some (.int .i64 a2_1) := (blk_cell BK8001.out 1).trans rfl; have hfz21_0 := blk_frozen BK8001.out 0; have hfz21_1 := blk_frozen BK8001.out 1) | ((with_reducible refine gate_callee (f := 26) rfl ?_); refine goesL_ (some 49) rfl rfl Try.func26 (by kernel_rfl) rfl #[.slice A0 l0.length c0, .int .i64 a1, .int .i64 (wrap64 (a2_0 + 1))] rfl (by (try simp only [List.map_toArray, List.map_cons, List.map_nil]); first | done | rfl | (simp only [List.length_drop, List.length_take]; rfl)) ?_; (with_reducible refine (splice_Allowed.calls kj3 _ _ l0 a1 (wrap64 (a2_0 + 1)) t8007 t8008 _ ?side1 ?side2 A16.out).mono ?_); (case side1 => repeat (first | exact (Kd.C_below HR0.out HB.out) | (with_reducible refine Kd.C_alloc ?_ _) | (with_reducible refine Kd.C_drewN ?_ _) | (with_reducible refine Kd.C_drew ?_))); (case side2 => exact HC0.out); rintro e w22 ⟨v8009, rfl, ho0, hb⟩; refine ⟨_, rfl, ?_⟩; have n0_ := Aside0.mk (Kd.R_elder' (by (with_reducible repeat (first | apply Kd.R_alloc | apply Kd.R_drewN | apply Kd.R_drew)); exact HO8006.out) (Kd.R_base ho0) hb); have n1_ := Aside0.mk (Kd.R_lower (Kd.R_new' ho0 (Kd.R_lt (by (with_reducible repeat (first | apply Kd.R_alloc | apply Kd.R_drewN | apply Kd.R_drew)); exact HO8006.out))) (below_size (by repeat (first | exact HB.out | apply below_alloc | apply pw_below_drewN | apply below_drew1 | refine below_set ?_ GE8001.out)))); have n2_ := Aside0.mk (blk_below (g := gb8001) (o := .cells #[.int .i64 a2_0, .int .i64 a2_1] 44 (0, 0)) (by (with_reducible repeat (first | refine blk_drewN ?_ _ | refine blk_drew ?_ | refine blk_alloc ?_ _)); exact BK8001.out) hb); have n3_ := Aside0.mk (below_step (by repeat (first | exact HB.out | apply below_alloc | apply pw_below_drewN | apply below_drew1 | refine below_set ?_ GE8001.out)) hb); clear HO8006; clear BK8001; clear HB; have HO8006 := n0_; have HO8010 := n1_; have BK8001 := n2_; have HB := n3_; clear n0_ n1_ n2_ n3_; (try clear hb); (try clear hb2); (try clear hk); (try clear hi); (try clear ho0); have hcz23_0 : w22.cell? ⟨gb8001, 0, none⟩ = some (.int .i64 a2_0) := (blk_cell BK8001.out 0).trans rfl; have hcz23_1 : w22.cell? ⟨gb8001, 1, none⟩ = some (.int .i64 a2_1) := (blk_cell BK8001.out 1).trans rfl; have hfz23_0 := blk_frozen BK8001.out 0; have hfz23_1 := blk_frozen BK8001.out 1) | ((with_reducible refine gate_callee (f := 26) rfl ?_); refine goesL_ (some 58) rfl rfl Try.func26 (by kernel_rfl) rfl #[.slice A0 l0.length c0, .int .i64 (wrap64 (a1 - 1)), .int .i64 a2_0] rfl (by (try simp only [List.map_toArray, List.map_cons, List.map_nil]); first | done | rfl | (simp only [List.length_drop, List.length_take]; rfl)) ?_; (with_reducible refine (splice_Allowed.calls kj3 _ _ l0 (wrap64 (a1 - 1)) a2_0 t8011 t8012 _ ?side1 ?side2 A17.out).mono ?_); (case side1 => repeat (first | exact (Kd.C_below HR0.out HB.out) | (with_reducible refine Kd.C_alloc ?_ _) | (with_reducible refine Kd.C_drewN ?_ _) | (with_reducible refine Kd.C_drew ?_))); (case side2 => exact HC0.out); rintro e w24 ⟨v8013, rfl, ho0, hb⟩; refine ⟨_, rfl, ?_⟩; have n0_ := Aside0.mk (Kd.R_elder' (by (with_reducible repeat (first | apply Kd.R_alloc | apply Kd.R_drewN | apply Kd.R_drew)); exact HO8006.out) (Kd.R_base ho0) hb); have n1_ := Aside0.mk (Kd.R_elder' (by (with_reducible repeat (first | apply Kd.R_alloc | apply Kd.R_drewN | apply Kd.R_drew)); exact HO8010.out) (Kd.R_base ho0) hb); have n2_ := Aside0.mk (Kd.R_lower (Kd.R_new' (Kd.R_new' ho0 (Kd.R_lt (by (with_reducible repeat (first | apply Kd.R_alloc | apply Kd.R_drewN | apply Kd.R_drew)); exact HO8006.out))) (Kd.R_lt (by (with_reducible repeat (first | apply Kd.R_alloc | apply Kd.R_drewN | apply Kd.R_drew)); exact HO8010.out))) (below_size (by repeat (first | exact HB.out | apply below_alloc | apply pw_below_drewN | apply below_drew1 | refine below_set ?_ GE8001.out)))); have n3_ := Aside0.mk (blk_below (g := gb8001) (o := .cells #[.int .i64 a2_0, .int .i64 a2_1] 44 (0, 0)) (by (with_reducible repeat (first | refine blk_drewN ?_ _ | refine blk_drew ?_ | refine blk_alloc ?_ _)); exact BK8001.out) hb); have n4_ := Aside0.mk (below_step (by repeat (first | exact HB.out | apply below_alloc | apply pw_below_drewN | apply below_drew1 | refine below_set ?_ GE8001.out)) hb); clear HO8006; clear HO8010; clear BK8001; clear HB; have HO8006 := n0_; have HO8010 := n1_; have HO8014 := n2_; have BK8001 := n3_; have HB := n4_; clear n0_ n1_ n2_ n3_ n4_; (try clear hb); (try clear hb2); (try clear hk); (try clear hi); (try clear ho0)))
    (try simp only [Act.put, List.setIfInBounds_toArray, List.set_cons_zero, List.set_cons_succ])
    go_cut [70] (fun v70 wc => ∃ (kq : Nat) (x70_17 : Bool), v70 = .bool x70_17 ∧ Aside0 (papermilllaw40_SpliceMore.j1 kq t8003 t8004 t8007 t8008 t8011 t8012 x70_17 a2_0 a2_1 = some r) ∧ Aside0 (kq ≤ kj3) ∧ Aside0 (Kd.R k49 49 wc w.heap.size (fun k_ => some k_ ≠ (v8009 : Value).ownBlock ∧ some k_ ≠ (v8013 : Value).ownBlock) v8005 t8003) ∧ Aside0 (Kd.R k49 49 wc w.heap.size (fun k_ => some k_ ≠ (v8005 : Value).ownBlock ∧ some k_ ≠ (v8013 : Value).ownBlock) v8009 t8007) ∧ Aside0 (Kd.R k49 49 wc w.heap.size (fun k_ => some k_ ≠ (v8005 : Value).ownBlock ∧ some k_ ≠ (v8009 : Value).ownBlock) v8013 t8011) ∧ Aside0 (wc.heap[gb8001]? = some (.cells #[.int .i64 a2_0, .int .i64 a2_1] 44 (0, 0))) ∧ Aside0 (Below w.heap.size w wc))
    case first =>
     have H := HC18.out
     clear HC18
     by_cases c25 : t8004 = 0
     ·rw [if_pos c25] at H
      have c25b0 : (t8004 == 0) = true := beq_iff_eq.mpr c25
      have c25b1 : (t8004 != 0) = false := bne_eq_false_iff_eq.mpr c25
      clear c25
      (first | rw [c25b0] | (simp only [i64_w, i32_w]; rw [c25b0]) | skip)
      by_cases c26 : t8008 = 0
      ·rw [if_pos c26] at H
       have c26b0 : (t8008 == 0) = true := beq_iff_eq.mpr c26
       have c26b1 : (t8008 != 0) = false := bne_eq_false_iff_eq.mpr c26
       clear c26
       have H' := Aside0.mk H
       clear H
       go_wp2
       go_meet
       case rel => exact ⟨_, ((t8012 != 0)), (by first | rfl | (simp; done) | (simp [*]; done)), H', ⟨by have := HJ3.out; first | omega | exact Nat.le_refl _⟩, ⟨by (with_reducible repeat (first | apply Kd.R_alloc | apply Kd.R_drewN | apply Kd.R_drew)); exact Kd.R_mono HO8006.out (fun _ hk => ⟨hk.1.2, hk.2⟩)⟩, ⟨by (with_reducible repeat (first | apply Kd.R_alloc | apply Kd.R_drewN | apply Kd.R_drew)); exact Kd.R_mono HO8010.out (fun _ hk => ⟨hk.1.2, hk.2⟩)⟩, ⟨by (with_reducible repeat (first | apply Kd.R_alloc | apply Kd.R_drewN | apply Kd.R_drew)); exact Kd.R_mono HO8014.out (fun _ hk => ⟨hk.1.2, hk.2⟩)⟩, ⟨by (with_reducible repeat (first | refine blk_drewN ?_ _ | refine blk_drew ?_ | refine blk_alloc ?_ _)); exact BK8001.out⟩, ⟨by repeat (first | exact HB.out | apply below_alloc | apply pw_below_drewN | apply below_drew1 | refine below_set ?_ GE8001.out)⟩⟩
      ·rw [if_neg c26] at H
       have c26b0 : (t8008 == 0) = false := beq_eq_false_iff_ne.mpr c26
       have c26b1 : (t8008 != 0) = true := bne_iff_ne.mpr c26
       have H' := Aside0.mk H
       clear H
       go_wp2
       go_meet
       case rel => exact ⟨_, (true), (by first | rfl | (simp; done) | (simp [*]; done)), H', ⟨by have := HJ3.out; first | omega | exact Nat.le_refl _⟩, ⟨by (with_reducible repeat (first | apply Kd.R_alloc | apply Kd.R_drewN | apply Kd.R_drew)); exact Kd.R_mono HO8006.out (fun _ hk => ⟨hk.1.2, hk.2⟩)⟩, ⟨by (with_reducible repeat (first | apply Kd.R_alloc | apply Kd.R_drewN | apply Kd.R_drew)); exact Kd.R_mono HO8010.out (fun _ hk => ⟨hk.1.2, hk.2⟩)⟩, ⟨by (with_reducible repeat (first | apply Kd.R_alloc | apply Kd.R_drewN | apply Kd.R_drew)); exact Kd.R_mono HO8014.out (fun _ hk => ⟨hk.1.2, hk.2⟩)⟩, ⟨by (with_reducible repeat (first | refine blk_drewN ?_ _ | refine blk_drew ?_ | refine blk_alloc ?_ _)); exact BK8001.out⟩, ⟨by repeat (first | exact HB.out | apply below_alloc | apply pw_below_drewN | apply below_drew1 | refine below_set ?_ GE8001.out)⟩⟩
     ·rw [if_neg c25] at H
      have c25b0 : (t8004 == 0) = false := beq_eq_false_iff_ne.mpr c25
      have c25b1 : (t8004 != 0) = true := bne_iff_ne.mpr c25
      (first | rw [c25b0] | (simp only [i64_w, i32_w]; rw [c25b0]) | skip)
      have H' := Aside0.mk H
      clear H
      go_wp2
      go_meet
      case rel => exact ⟨_, (true), (by first | rfl | (simp; done) | (simp [*]; done)), H', ⟨by have := HJ3.out; first | omega | exact Nat.le_refl _⟩, ⟨by (with_reducible repeat (first | apply Kd.R_alloc | apply Kd.R_drewN | apply Kd.R_drew)); exact Kd.R_mono HO8006.out (fun _ hk => ⟨hk.1.2, hk.2⟩)⟩, ⟨by (with_reducible repeat (first | apply Kd.R_alloc | apply Kd.R_drewN | apply Kd.R_drew)); exact Kd.R_mono HO8010.out (fun _ hk => ⟨hk.1.2, hk.2⟩)⟩, ⟨by (with_reducible repeat (first | apply Kd.R_alloc | apply Kd.R_drewN | apply Kd.R_drew)); exact Kd.R_mono HO8014.out (fun _ hk => ⟨hk.1.2, hk.2⟩)⟩, ⟨by (with_reducible repeat (first | refine blk_drewN ?_ _ | refine blk_drew ?_ | refine blk_alloc ?_ _)); exact BK8001.out⟩, ⟨by repeat (first | exact HB.out | apply below_alloc | apply pw_below_drewN | apply below_drew1 | refine below_set ?_ GE8001.out)⟩⟩
    case rest =>
     clear HC18
     try clear c1
     try clear c2
     try clear p2
     try clear c6
     try clear c6b0
     try clear c6b1
     try clear p6
     try clear c7
     try clear c7b0
     try clear c8
     try clear c8b0
     try clear c9
     try clear c9b0
     try clear c12
     try clear c25
     try clear c25b0
     try clear c25b1
     try clear c26
     try clear c26b0
     try clear c26b1
     try clear hcz10_0
     try clear hcz10_1
     try clear hcz11_0
     try clear hcz11_1
     try clear hcz19_0
     try clear hcz19_1
     try clear hcz21_0
     try clear hcz21_1
     try clear hcz23_0
     try clear hcz23_1
     try clear hfz10_0
     try clear hfz10_1
     try clear hfz11_0
     try clear hfz11_1
     try clear hfz19_0
     try clear hfz19_1
     try clear hfz21_0
     try clear hfz21_1
     try clear hfz23_0
     try clear hfz23_1
     try clear p2
     obtain ⟨kq, x70_17, rfl, HA, HJ17, HO_7, HO_9, HO_11, BK8001, HB⟩ := hcut
     cases kq with
     | zero => exact absurd HA.out (by simp [papermilllaw40_SpliceMore.j1])
     | succ kj17 =>
      have H := HA.out
      clear HA
      simp only [papermilllaw40_SpliceMore.j1] at H
      by_cases c27 : x70_17 = true
      ·subst c27
       have H1 : (if t8004 = t8008 then (if t8008 = t8012 then ((papermilllaw40_awake.f).bind fun t8015 => (some t8015)) else (some false)) else (some false)) = some r := by rw [if_pos rfl] at H; exact H
       clear H
       have H := H1
       clear H1
       by_cases c28 : t8004 = t8008
       ·rw [if_pos c28] at H
        have c28b0 : (t8004 == t8008) = true := beq_iff_eq.mpr c28
        have c28b1 : (t8004 != t8008) = false := bne_eq_false_iff_eq.mpr c28
        clear c28
        by_cases c29 : t8008 = t8012
        ·rw [if_pos c29] at H
         have c29b0 : (t8008 == t8012) = true := beq_iff_eq.mpr c29
         have c29b1 : (t8008 != t8012) = false := bne_eq_false_iff_eq.mpr c29
         clear c29
         replace H := Option.bind_eq_some_iff.mp H
         obtain ⟨t8015, A300, H⟩ := H
         replace H : (some t8015) = some r := H
         have A30 := Aside0.mk A300
         clear A300
         obtain rfl := Option.some.inj H
         go_wp2_with (first | (go_at_call 12; (with_reducible refine (papermilllaw40_awake.calls  t8015 _ A30.out).mono ?_); rintro e w31 ⟨rfl, hb⟩; have n0_ := Aside0.mk (Kd.R_below (by (with_reducible repeat (first | apply Kd.R_alloc | apply Kd.R_drewN | apply Kd.R_drew)); exact HO_7.out) hb); have n1_ := Aside0.mk (Kd.R_below (by (with_reducible repeat (first | apply Kd.R_alloc | apply Kd.R_drewN | apply Kd.R_drew)); exact HO_9.out) hb); have n2_ := Aside0.mk (Kd.R_below (by (with_reducible repeat (first | apply Kd.R_alloc | apply Kd.R_drewN | apply Kd.R_drew)); exact HO_11.out) hb); have n3_ := Aside0.mk (blk_below (g := gb8001) (o := .cells #[.int .i64 a2_0, .int .i64 a2_1] 44 (0, 0)) (by (with_reducible repeat (first | refine blk_drewN ?_ _ | refine blk_drew ?_ | refine blk_alloc ?_ _)); exact BK8001.out) hb); have n4_ := Aside0.mk (below_step (by repeat (first | exact HB.out | apply below_alloc | apply pw_below_drewN | apply below_drew1 | refine below_set ?_ GE8001.out)) hb); clear HO_7; clear HO_9; clear HO_11; clear BK8001; clear HB; have HO_7 := n0_; have HO_9 := n1_; have HO_11 := n2_; have BK8001 := n3_; have HB := n4_; clear n0_ n1_ n2_ n3_ n4_; (try clear hb); (try clear hb2); (try clear hk); (try clear hi)))
         go_ret
         exact ⟨by first | rfl | (simp [errW_none, errW_some] <;> rfl) | (simp [*, errW_none, errW_some] <;> rfl), by repeat (first | exact HB.out | apply below_alloc | apply pw_below_drewN | apply below_drew1 | refine below_set ?_ GE8001.out)⟩
        ·rw [if_neg c29] at H
         have c29b0 : (t8008 == t8012) = false := beq_eq_false_iff_ne.mpr c29
         have c29b1 : (t8008 != t8012) = true := bne_iff_ne.mpr c29
         obtain rfl := Option.some.inj H
         go_wp2
         go_ret
         exact ⟨by first | rfl | (simp [errW_none, errW_some] <;> rfl) | (simp [*, errW_none, errW_some] <;> rfl), by repeat (first | exact HB.out | apply below_alloc | apply pw_below_drewN | apply below_drew1 | refine below_set ?_ GE8001.out)⟩
       ·rw [if_neg c28] at H
        have c28b0 : (t8004 == t8008) = false := beq_eq_false_iff_ne.mpr c28
        have c28b1 : (t8004 != t8008) = true := bne_iff_ne.mpr c28
        obtain rfl := Option.some.inj H
        go_wp2
        go_ret
        exact ⟨by first | rfl | (simp [errW_none, errW_some] <;> rfl) | (simp [*, errW_none, errW_some] <;> rfl), by repeat (first | exact HB.out | apply below_alloc | apply pw_below_drewN | apply below_drew1 | refine below_set ?_ GE8001.out)⟩
      ·replace c27 := Bool.eq_false_iff.mpr c27
       subst c27
       have H1 : ((span_Has.f t8003 a2_1).bind fun t8016 => (if t8016 = true then ((span_Has.f t8007 a2_1).bind fun t8017 => (if t8017 = true then ((span_Has.f t8011 a2_1).bind fun t8018 => (if t8018 = true then ((papermilllaw40_awake.f).bind fun t8019 => (some t8019)) else (some false))) else (some false))) else ((papermilllaw40_awake.f).bind fun t8020 => (some t8020)))) = some r := by rw [if_neg (show ¬ (false = true) by decide)] at H; first | exact H | simpa using H
       clear H
       have H := H1
       clear H1
       replace H := Option.bind_eq_some_iff.mp H
       obtain ⟨t8016, A320, H⟩ := H
       replace H : (if t8016 = true then ((span_Has.f t8007 a2_1).bind fun t8017 => (if t8017 = true then ((span_Has.f t8011 a2_1).bind fun t8018 => (if t8018 = true then ((papermilllaw40_awake.f).bind fun t8019 => (some t8019)) else (some false))) else (some false))) else ((papermilllaw40_awake.f).bind fun t8020 => (some t8020))) = some r := H
       have A32 := Aside0.mk A320
       clear A320
       by_cases c33 : t8016 = true
       ·subst c33
        have H1 : ((span_Has.f t8007 a2_1).bind fun t8017 => (if t8017 = true then ((span_Has.f t8011 a2_1).bind fun t8018 => (if t8018 = true then ((papermilllaw40_awake.f).bind fun t8019 => (some t8019)) else (some false))) else (some false))) = some r := by rw [if_pos rfl] at H; exact H
        clear H
        have H := H1
        clear H1
        replace H := Option.bind_eq_some_iff.mp H
        obtain ⟨t8017, A340, H⟩ := H
        replace H : (if t8017 = true then ((span_Has.f t8011 a2_1).bind fun t8018 => (if t8018 = true then ((papermilllaw40_awake.f).bind fun t8019 => (some t8019)) else (some false))) else (some false)) = some r := H
        have A34 := Aside0.mk A340
        clear A340
        by_cases c35 : t8017 = true
        ·subst c35
         have H1 : ((span_Has.f t8011 a2_1).bind fun t8018 => (if t8018 = true then ((papermilllaw40_awake.f).bind fun t8019 => (some t8019)) else (some false))) = some r := by rw [if_pos rfl] at H; exact H
         clear H
         have H := H1
         clear H1
         replace H := Option.bind_eq_some_iff.mp H
         obtain ⟨t8018, A360, H⟩ := H
         replace H : (if t8018 = true then ((papermilllaw40_awake.f).bind fun t8019 => (some t8019)) else (some false)) = some r := H
         have A36 := Aside0.mk A360
         clear A360
         by_cases c37 : t8018 = true
         ·subst c37
          have H1 : ((papermilllaw40_awake.f).bind fun t8019 => (some t8019)) = some r := by rw [if_pos rfl] at H; exact H
          clear H
          have H := H1
          clear H1
          replace H := Option.bind_eq_some_iff.mp H
          obtain ⟨t8019, A380, H⟩ := H
          replace H : (some t8019) = some r := H
          have A38 := Aside0.mk A380
          clear A380
          obtain rfl := Option.some.inj H
          have hcz39_0 : wc.cell? ⟨gb8001, 0, none⟩ = some (.int .i64 a2_0) := (blk_cell BK8001.out 0).trans rfl
          have hcz39_1 : wc.cell? ⟨gb8001, 1, none⟩ = some (.int .i64 a2_1) := (blk_cell BK8001.out 1).trans rfl
          have hfz39_0 := blk_frozen BK8001.out 0
          have hfz39_1 := blk_frozen BK8001.out 1
          obtain ⟨Ao40, co40, eo40⟩ := Kd.R_slice HO_7.out
          subst eo40
          go_wp2_with (first | ((with_reducible refine gate_callee (f := 28) rfl ?_); refine goesL_ (some 85) rfl rfl Try.func28 (by kernel_rfl) rfl #[.slice Ao40 t8003.length co40, .int .i64 a2_1] rfl (by (try simp only [List.map_toArray, List.map_cons, List.map_nil]); first | done | rfl | (simp only [List.length_drop, List.length_take]; rfl)) ?_; (with_reducible refine (span_Has.calls _ _ t8003 a2_1 true _ ?side1 ?side2 A32.out).mono ?_); (case side1 => repeat (first | exact (Kd.R_reads' HO_7.out).2.2 | (with_reducible refine Kd.C_alloc ?_ _) | (with_reducible refine Kd.C_drewN ?_ _) | (with_reducible refine Kd.C_drew ?_))); (case side2 => exact (Kd.R_reads' HO_7.out).2.1); rintro e w41 ⟨rfl, hb⟩; refine ⟨_, rfl, ?_⟩; have n0_ := Aside0.mk (Kd.R_below (by (with_reducible repeat (first | apply Kd.R_alloc | apply Kd.R_drewN | apply Kd.R_drew)); exact HO_7.out) hb); have n1_ := Aside0.mk (Kd.R_below (by (with_reducible repeat (first | apply Kd.R_alloc | apply Kd.R_drewN | apply Kd.R_drew)); exact HO_9.out) hb); have n2_ := Aside0.mk (Kd.R_below (by (with_reducible repeat (first | apply Kd.R_alloc | apply Kd.R_drewN | apply Kd.R_drew)); exact HO_11.out) hb); have n3_ := Aside0.mk (blk_below (g := gb8001) (o := .cells #[.int .i64 a2_0, .int .i64 a2_1] 44 (0, 0)) (by (with_reducible repeat (first | refine blk_drewN ?_ _ | refine blk_drew ?_ | refine blk_alloc ?_ _)); exact BK8001.out) hb); have n4_ := Aside0.mk (below_step (by repeat (first | exact HB.out | apply below_alloc | apply pw_below_drewN | apply below_drew1 | refine below_set ?_ GE8001.out)) hb); clear HO_7; clear HO_9; clear HO_11; clear BK8001; clear HB; have HO_7 := n0_; have HO_9 := n1_; have HO_11 := n2_; have BK8001 := n3_; have HB := n4_; clear n0_ n1_ n2_ n3_ n4_; (try clear hb); (try clear hb2); (try clear hk); (try clear hi); have hcz42_0 : w41.cell? ⟨gb8001, 0, none⟩ = some (.int .i64 a2_0) := (blk_cell BK8001.out 0).trans rfl; have hcz42_1 : w41.cell? ⟨gb8001, 1, none⟩ = some (.int .i64 a2_1) := (blk_cell BK8001.out 1).trans rfl; have hfz42_0 := blk_frozen BK8001.out 0; have hfz42_1 := blk_frozen BK8001.out 1; obtain ⟨Ao43, co43, eo43⟩ := Kd.R_slice HO_9.out; subst eo43) | (go_at_call 28; (with_reducible refine (span_Has.calls _ _ t8007 a2_1 true _ ?side1 ?side2 A34.out).mono ?_); (case side1 => repeat (first | exact (Kd.R_reads' HO_9.out).2.2 | (with_reducible refine Kd.C_alloc ?_ _) | (with_reducible refine Kd.C_drewN ?_ _) | (with_reducible refine Kd.C_drew ?_))); (case side2 => exact (Kd.R_reads' HO_9.out).2.1); rintro e w44 ⟨rfl, hb⟩; have n0_ := Aside0.mk (Kd.R_below (by (with_reducible repeat (first | apply Kd.R_alloc | apply Kd.R_drewN | apply Kd.R_drew)); exact HO_7.out) hb); have n1_ := Aside0.mk (Kd.R_below (by (with_reducible repeat (first | apply Kd.R_alloc | apply Kd.R_drewN | apply Kd.R_drew)); exact HO_9.out) hb); have n2_ := Aside0.mk (Kd.R_below (by (with_reducible repeat (first | apply Kd.R_alloc | apply Kd.R_drewN | apply Kd.R_drew)); exact HO_11.out) hb); have n3_ := Aside0.mk (blk_below (g := gb8001) (o := .cells #[.int .i64 a2_0, .int .i64 a2_1] 44 (0, 0)) (by (with_reducible repeat (first | refine blk_drewN ?_ _ | refine blk_drew ?_ | refine blk_alloc ?_ _)); exact BK8001.out) hb); have n4_ := Aside0.mk (below_step (by repeat (first | exact HB.out | apply below_alloc | apply pw_below_drewN | apply below_drew1 | refine below_set ?_ GE8001.out)) hb); clear HO_7; clear HO_9; clear HO_11; clear BK8001; clear HB; have HO_7 := n0_; have HO_9 := n1_; have HO_11 := n2_; have BK8001 := n3_; have HB := n4_; clear n0_ n1_ n2_ n3_ n4_; (try clear hb); (try clear hb2); (try clear hk); (try clear hi); have hcz45_0 : w44.cell? ⟨gb8001, 0, none⟩ = some (.int .i64 a2_0) := (blk_cell BK8001.out 0).trans rfl; have hcz45_1 : w44.cell? ⟨gb8001, 1, none⟩ = some (.int .i64 a2_1) := (blk_cell BK8001.out 1).trans rfl; have hfz45_0 := blk_frozen BK8001.out 0; have hfz45_1 := blk_frozen BK8001.out 1; obtain ⟨Ao46, co46, eo46⟩ := Kd.R_slice HO_11.out; subst eo46) | (go_at_call 28; (with_reducible refine (span_Has.calls _ _ t8011 a2_1 true _ ?side1 ?side2 A36.out).mono ?_); (case side1 => repeat (first | exact (Kd.R_reads' HO_11.out).2.2 | (with_reducible refine Kd.C_alloc ?_ _) | (with_reducible refine Kd.C_drewN ?_ _) | (with_reducible refine Kd.C_drew ?_))); (case side2 => exact (Kd.R_reads' HO_11.out).2.1); rintro e w47 ⟨rfl, hb⟩; have n0_ := Aside0.mk (Kd.R_below (by (with_reducible repeat (first | apply Kd.R_alloc | apply Kd.R_drewN | apply Kd.R_drew)); exact HO_7.out) hb); have n1_ := Aside0.mk (Kd.R_below (by (with_reducible repeat (first | apply Kd.R_alloc | apply Kd.R_drewN | apply Kd.R_drew)); exact HO_9.out) hb); have n2_ := Aside0.mk (Kd.R_below (by (with_reducible repeat (first | apply Kd.R_alloc | apply Kd.R_drewN | apply Kd.R_drew)); exact HO_11.out) hb); have n3_ := Aside0.mk (blk_below (g := gb8001) (o := .cells #[.int .i64 a2_0, .int .i64 a2_1] 44 (0, 0)) (by (with_reducible repeat (first | refine blk_drewN ?_ _ | refine blk_drew ?_ | refine blk_alloc ?_ _)); exact BK8001.out) hb); have n4_ := Aside0.mk (below_step (by repeat (first | exact HB.out | apply below_alloc | apply pw_below_drewN | apply below_drew1 | refine below_set ?_ GE8001.out)) hb); clear HO_7; clear HO_9; clear HO_11; clear BK8001; clear HB; have HO_7 := n0_; have HO_9 := n1_; have HO_11 := n2_; have BK8001 := n3_; have HB := n4_; clear n0_ n1_ n2_ n3_ n4_; (try clear hb); (try clear hb2); (try clear hk); (try clear hi)) | (go_at_call 12; (with_reducible refine (papermilllaw40_awake.calls  t8019 _ A38.out).mono ?_); rintro e w48 ⟨rfl, hb⟩; have n0_ := Aside0.mk (Kd.R_below (by (with_reducible repeat (first | apply Kd.R_alloc | apply Kd.R_drewN | apply Kd.R_drew)); exact HO_7.out) hb); have n1_ := Aside0.mk (Kd.R_below (by (with_reducible repeat (first | apply Kd.R_alloc | apply Kd.R_drewN | apply Kd.R_drew)); exact HO_9.out) hb); have n2_ := Aside0.mk (Kd.R_below (by (with_reducible repeat (first | apply Kd.R_alloc | apply Kd.R_drewN | apply Kd.R_drew)); exact HO_11.out) hb); have n3_ := Aside0.mk (blk_below (g := gb8001) (o := .cells #[.int .i64 a2_0, .int .i64 a2_1] 44 (0, 0)) (by (with_reducible repeat (first | refine blk_drewN ?_ _ | refine blk_drew ?_ | refine blk_alloc ?_ _)); exact BK8001.out) hb); have n4_ := Aside0.mk (below_step (by repeat (first | exact HB.out | apply below_alloc | apply pw_below_drewN | apply below_drew1 | refine below_set ?_ GE8001.out)) hb); clear HO_7; clear HO_9; clear HO_11; clear BK8001; clear HB; have HO_7 := n0_; have HO_9 := n1_; have HO_11 := n2_; have BK8001 := n3_; have HB := n4_; clear n0_ n1_ n2_ n3_ n4_; (try clear hb); (try clear hb2); (try clear hk); (try clear hi)))
          go_ret
          exact ⟨by first | rfl | (simp [errW_none, errW_some] <;> rfl) | (simp [*, errW_none, errW_some] <;> rfl), by repeat (first | exact HB.out | apply below_alloc | apply pw_below_drewN | apply below_drew1 | refine below_set ?_ GE8001.out)⟩
         ·replace c37 := Bool.eq_false_iff.mpr c37
          subst c37
          have H1 : (some false) = some r := by rw [if_neg (show ¬ (false = true) by decide)] at H; first | exact H | simpa using H
          clear H
          have H := H1
          clear H1
          obtain rfl := Option.some.inj H
          have hcz49_0 : wc.cell? ⟨gb8001, 0, none⟩ = some (.int .i64 a2_0) := (blk_cell BK8001.out 0).trans rfl
          have hcz49_1 : wc.cell? ⟨gb8001, 1, none⟩ = some (.int .i64 a2_1) := (blk_cell BK8001.out 1).trans rfl
          have hfz49_0 := blk_frozen BK8001.out 0
          have hfz49_1 := blk_frozen BK8001.out 1
          obtain ⟨Ao50, co50, eo50⟩ := Kd.R_slice HO_7.out
          subst eo50
          go_wp2_with (first | ((with_reducible refine gate_callee (f := 28) rfl ?_); refine goesL_ (some 85) rfl rfl Try.func28 (by kernel_rfl) rfl #[.slice Ao50 t8003.length co50, .int .i64 a2_1] rfl (by (try simp only [List.map_toArray, List.map_cons, List.map_nil]); first | done | rfl | (simp only [List.length_drop, List.length_take]; rfl)) ?_; (with_reducible refine (span_Has.calls _ _ t8003 a2_1 true _ ?side1 ?side2 A32.out).mono ?_); (case side1 => repeat (first | exact (Kd.R_reads' HO_7.out).2.2 | (with_reducible refine Kd.C_alloc ?_ _) | (with_reducible refine Kd.C_drewN ?_ _) | (with_reducible refine Kd.C_drew ?_))); (case side2 => exact (Kd.R_reads' HO_7.out).2.1); rintro e w51 ⟨rfl, hb⟩; refine ⟨_, rfl, ?_⟩; have n0_ := Aside0.mk (Kd.R_below (by (with_reducible repeat (first | apply Kd.R_alloc | apply Kd.R_drewN | apply Kd.R_drew)); exact HO_7.out) hb); have n1_ := Aside0.mk (Kd.R_below (by (with_reducible repeat (first | apply Kd.R_alloc | apply Kd.R_drewN | apply Kd.R_drew)); exact HO_9.out) hb); have n2_ := Aside0.mk (Kd.R_below (by (with_reducible repeat (first | apply Kd.R_alloc | apply Kd.R_drewN | apply Kd.R_drew)); exact HO_11.out) hb); have n3_ := Aside0.mk (blk_below (g := gb8001) (o := .cells #[.int .i64 a2_0, .int .i64 a2_1] 44 (0, 0)) (by (with_reducible repeat (first | refine blk_drewN ?_ _ | refine blk_drew ?_ | refine blk_alloc ?_ _)); exact BK8001.out) hb); have n4_ := Aside0.mk (below_step (by repeat (first | exact HB.out | apply below_alloc | apply pw_below_drewN | apply below_drew1 | refine below_set ?_ GE8001.out)) hb); clear HO_7; clear HO_9; clear HO_11; clear BK8001; clear HB; have HO_7 := n0_; have HO_9 := n1_; have HO_11 := n2_; have BK8001 := n3_; have HB := n4_; clear n0_ n1_ n2_ n3_ n4_; (try clear hb); (try clear hb2); (try clear hk); (try clear hi); have hcz52_0 : w51.cell? ⟨gb8001, 0, none⟩ = some (.int .i64 a2_0) := (blk_cell BK8001.out 0).trans rfl; have hcz52_1 : w51.cell? ⟨gb8001, 1, none⟩ = some (.int .i64 a2_1) := (blk_cell BK8001.out 1).trans rfl; have hfz52_0 := blk_frozen BK8001.out 0; have hfz52_1 := blk_frozen BK8001.out 1; obtain ⟨Ao53, co53, eo53⟩ := Kd.R_slice HO_9.out; subst eo53) | (go_at_call 28; (with_reducible refine (span_Has.calls _ _ t8007 a2_1 true _ ?side1 ?side2 A34.out).mono ?_); (case side1 => repeat (first | exact (Kd.R_reads' HO_9.out).2.2 | (with_reducible refine Kd.C_alloc ?_ _) | (with_reducible refine Kd.C_drewN ?_ _) | (with_reducible refine Kd.C_drew ?_))); (case side2 => exact (Kd.R_reads' HO_9.out).2.1); rintro e w54 ⟨rfl, hb⟩; have n0_ := Aside0.mk (Kd.R_below (by (with_reducible repeat (first | apply Kd.R_alloc | apply Kd.R_drewN | apply Kd.R_drew)); exact HO_7.out) hb); have n1_ := Aside0.mk (Kd.R_below (by (with_reducible repeat (first | apply Kd.R_alloc | apply Kd.R_drewN | apply Kd.R_drew)); exact HO_9.out) hb); have n2_ := Aside0.mk (Kd.R_below (by (with_reducible repeat (first | apply Kd.R_alloc | apply Kd.R_drewN | apply Kd.R_drew)); exact HO_11.out) hb); have n3_ := Aside0.mk (blk_below (g := gb8001) (o := .cells #[.int .i64 a2_0, .int .i64 a2_1] 44 (0, 0)) (by (with_reducible repeat (first | refine blk_drewN ?_ _ | refine blk_drew ?_ | refine blk_alloc ?_ _)); exact BK8001.out) hb); have n4_ := Aside0.mk (below_step (by repeat (first | exact HB.out | apply below_alloc | apply pw_below_drewN | apply below_drew1 | refine below_set ?_ GE8001.out)) hb); clear HO_7; clear HO_9; clear HO_11; clear BK8001; clear HB; have HO_7 := n0_; have HO_9 := n1_; have HO_11 := n2_; have BK8001 := n3_; have HB := n4_; clear n0_ n1_ n2_ n3_ n4_; (try clear hb); (try clear hb2); (try clear hk); (try clear hi); have hcz55_0 : w54.cell? ⟨gb8001, 0, none⟩ = some (.int .i64 a2_0) := (blk_cell BK8001.out 0).trans rfl; have hcz55_1 : w54.cell? ⟨gb8001, 1, none⟩ = some (.int .i64 a2_1) := (blk_cell BK8001.out 1).trans rfl; have hfz55_0 := blk_frozen BK8001.out 0; have hfz55_1 := blk_frozen BK8001.out 1; obtain ⟨Ao56, co56, eo56⟩ := Kd.R_slice HO_11.out; subst eo56) | (go_at_call 28; (with_reducible refine (span_Has.calls _ _ t8011 a2_1 false _ ?side1 ?side2 A36.out).mono ?_); (case side1 => repeat (first | exact (Kd.R_reads' HO_11.out).2.2 | (with_reducible refine Kd.C_alloc ?_ _) | (with_reducible refine Kd.C_drewN ?_ _) | (with_reducible refine Kd.C_drew ?_))); (case side2 => exact (Kd.R_reads' HO_11.out).2.1); rintro e w57 ⟨rfl, hb⟩; have n0_ := Aside0.mk (Kd.R_below (by (with_reducible repeat (first | apply Kd.R_alloc | apply Kd.R_drewN | apply Kd.R_drew)); exact HO_7.out) hb); have n1_ := Aside0.mk (Kd.R_below (by (with_reducible repeat (first | apply Kd.R_alloc | apply Kd.R_drewN | apply Kd.R_drew)); exact HO_9.out) hb); have n2_ := Aside0.mk (Kd.R_below (by (with_reducible repeat (first | apply Kd.R_alloc | apply Kd.R_drewN | apply Kd.R_drew)); exact HO_11.out) hb); have n3_ := Aside0.mk (blk_below (g := gb8001) (o := .cells #[.int .i64 a2_0, .int .i64 a2_1] 44 (0, 0)) (by (with_reducible repeat (first | refine blk_drewN ?_ _ | refine blk_drew ?_ | refine blk_alloc ?_ _)); exact BK8001.out) hb); have n4_ := Aside0.mk (below_step (by repeat (first | exact HB.out | apply below_alloc | apply pw_below_drewN | apply below_drew1 | refine below_set ?_ GE8001.out)) hb); clear HO_7; clear HO_9; clear HO_11; clear BK8001; clear HB; have HO_7 := n0_; have HO_9 := n1_; have HO_11 := n2_; have BK8001 := n3_; have HB := n4_; clear n0_ n1_ n2_ n3_ n4_; (try clear hb); (try clear hb2); (try clear hk); (try clear hi)))
          go_ret
          exact ⟨by first | rfl | (simp [errW_none, errW_some] <;> rfl) | (simp [*, errW_none, errW_some] <;> rfl), by repeat (first | exact HB.out | apply below_alloc | apply pw_below_drewN | apply below_drew1 | refine below_set ?_ GE8001.out)⟩
        ·replace c35 := Bool.eq_false_iff.mpr c35
         subst c35
         have H1 : (some false) = some r := by rw [if_neg (show ¬ (false = true) by decide)] at H; first | exact H | simpa using H
         clear H
         have H := H1
         clear H1
         obtain rfl := Option.some.inj H
         have hcz58_0 : wc.cell? ⟨gb8001, 0, none⟩ = some (.int .i64 a2_0) := (blk_cell BK8001.out 0).trans rfl
         have hcz58_1 : wc.cell? ⟨gb8001, 1, none⟩ = some (.int .i64 a2_1) := (blk_cell BK8001.out 1).trans rfl
         have hfz58_0 := blk_frozen BK8001.out 0
         have hfz58_1 := blk_frozen BK8001.out 1
         obtain ⟨Ao59, co59, eo59⟩ := Kd.R_slice HO_7.out
         subst eo59
         go_wp2_with (first | ((with_reducible refine gate_callee (f := 28) rfl ?_); refine goesL_ (some 85) rfl rfl Try.func28 (by kernel_rfl) rfl #[.slice Ao59 t8003.length co59, .int .i64 a2_1] rfl (by (try simp only [List.map_toArray, List.map_cons, List.map_nil]); first | done | rfl | (simp only [List.length_drop, List.length_take]; rfl)) ?_; (with_reducible refine (span_Has.calls _ _ t8003 a2_1 true _ ?side1 ?side2 A32.out).mono ?_); (case side1 => repeat (first | exact (Kd.R_reads' HO_7.out).2.2 | (with_reducible refine Kd.C_alloc ?_ _) | (with_reducible refine Kd.C_drewN ?_ _) | (with_reducible refine Kd.C_drew ?_))); (case side2 => exact (Kd.R_reads' HO_7.out).2.1); rintro e w60 ⟨rfl, hb⟩; refine ⟨_, rfl, ?_⟩; have n0_ := Aside0.mk (Kd.R_below (by (with_reducible repeat (first | apply Kd.R_alloc | apply Kd.R_drewN | apply Kd.R_drew)); exact HO_7.out) hb); have n1_ := Aside0.mk (Kd.R_below (by (with_reducible repeat (first | apply Kd.R_alloc | apply Kd.R_drewN | apply Kd.R_drew)); exact HO_9.out) hb); have n2_ := Aside0.mk (Kd.R_below (by (with_reducible repeat (first | apply Kd.R_alloc | apply Kd.R_drewN | apply Kd.R_drew)); exact HO_11.out) hb); have n3_ := Aside0.mk (blk_below (g := gb8001) (o := .cells #[.int .i64 a2_0, .int .i64 a2_1] 44 (0, 0)) (by (with_reducible repeat (first | refine blk_drewN ?_ _ | refine blk_drew ?_ | refine blk_alloc ?_ _)); exact BK8001.out) hb); have n4_ := Aside0.mk (below_step (by repeat (first | exact HB.out | apply below_alloc | apply pw_below_drewN | apply below_drew1 | refine below_set ?_ GE8001.out)) hb); clear HO_7; clear HO_9; clear HO_11; clear BK8001; clear HB; have HO_7 := n0_; have HO_9 := n1_; have HO_11 := n2_; have BK8001 := n3_; have HB := n4_; clear n0_ n1_ n2_ n3_ n4_; (try clear hb); (try clear hb2); (try clear hk); (try clear hi); have hcz61_0 : w60.cell? ⟨gb8001, 0, none⟩ = some (.int .i64 a2_0) := (blk_cell BK8001.out 0).trans rfl; have hcz61_1 : w60.cell? ⟨gb8001, 1, none⟩ = some (.int .i64 a2_1) := (blk_cell BK8001.out 1).trans rfl; have hfz61_0 := blk_frozen BK8001.out 0; have hfz61_1 := blk_frozen BK8001.out 1; obtain ⟨Ao62, co62, eo62⟩ := Kd.R_slice HO_9.out; subst eo62) | (go_at_call 28; (with_reducible refine (span_Has.calls _ _ t8007 a2_1 false _ ?side1 ?side2 A34.out).mono ?_); (case side1 => repeat (first | exact (Kd.R_reads' HO_9.out).2.2 | (with_reducible refine Kd.C_alloc ?_ _) | (with_reducible refine Kd.C_drewN ?_ _) | (with_reducible refine Kd.C_drew ?_))); (case side2 => exact (Kd.R_reads' HO_9.out).2.1); rintro e w63 ⟨rfl, hb⟩; have n0_ := Aside0.mk (Kd.R_below (by (with_reducible repeat (first | apply Kd.R_alloc | apply Kd.R_drewN | apply Kd.R_drew)); exact HO_7.out) hb); have n1_ := Aside0.mk (Kd.R_below (by (with_reducible repeat (first | apply Kd.R_alloc | apply Kd.R_drewN | apply Kd.R_drew)); exact HO_9.out) hb); have n2_ := Aside0.mk (Kd.R_below (by (with_reducible repeat (first | apply Kd.R_alloc | apply Kd.R_drewN | apply Kd.R_drew)); exact HO_11.out) hb); have n3_ := Aside0.mk (blk_below (g := gb8001) (o := .cells #[.int .i64 a2_0, .int .i64 a2_1] 44 (0, 0)) (by (with_reducible repeat (first | refine blk_drewN ?_ _ | refine blk_drew ?_ | refine blk_alloc ?_ _)); exact BK8001.out) hb); have n4_ := Aside0.mk (below_step (by repeat (first | exact HB.out | apply below_alloc | apply pw_below_drewN | apply below_drew1 | refine below_set ?_ GE8001.out)) hb); clear HO_7; clear HO_9; clear HO_11; clear BK8001; clear HB; have HO_7 := n0_; have HO_9 := n1_; have HO_11 := n2_; have BK8001 := n3_; have HB := n4_; clear n0_ n1_ n2_ n3_ n4_; (try clear hb); (try clear hb2); (try clear hk); (try clear hi)))
         go_ret
         exact ⟨by first | rfl | (simp [errW_none, errW_some] <;> rfl) | (simp [*, errW_none, errW_some] <;> rfl), by repeat (first | exact HB.out | apply below_alloc | apply pw_below_drewN | apply below_drew1 | refine below_set ?_ GE8001.out)⟩
       ·replace c33 := Bool.eq_false_iff.mpr c33
        subst c33
        have H1 : ((papermilllaw40_awake.f).bind fun t8020 => (some t8020)) = some r := by rw [if_neg (show ¬ (false = true) by decide)] at H; first | exact H | simpa using H
        clear H
        have H := H1
        clear H1
        replace H := Option.bind_eq_some_iff.mp H
        obtain ⟨t8020, A640, H⟩ := H
        replace H : (some t8020) = some r := H
        have A64 := Aside0.mk A640
        clear A640
        obtain rfl := Option.some.inj H
        have hcz65_0 : wc.cell? ⟨gb8001, 0, none⟩ = some (.int .i64 a2_0) := (blk_cell BK8001.out 0).trans rfl
        have hcz65_1 : wc.cell? ⟨gb8001, 1, none⟩ = some (.int .i64 a2_1) := (blk_cell BK8001.out 1).trans rfl
        have hfz65_0 := blk_frozen BK8001.out 0
        have hfz65_1 := blk_frozen BK8001.out 1
        obtain ⟨Ao66, co66, eo66⟩ := Kd.R_slice HO_7.out
        subst eo66
        go_wp2_with (first | ((with_reducible refine gate_callee (f := 28) rfl ?_); refine goesL_ (some 85) rfl rfl Try.func28 (by kernel_rfl) rfl #[.slice Ao66 t8003.length co66, .int .i64 a2_1] rfl (by (try simp only [List.map_toArray, List.map_cons, List.map_nil]); first | done | rfl | (simp only [List.length_drop, List.length_take]; rfl)) ?_; (with_reducible refine (span_Has.calls _ _ t8003 a2_1 false _ ?side1 ?side2 A32.out).mono ?_); (case side1 => repeat (first | exact (Kd.R_reads' HO_7.out).2.2 | (with_reducible refine Kd.C_alloc ?_ _) | (with_reducible refine Kd.C_drewN ?_ _) | (with_reducible refine Kd.C_drew ?_))); (case side2 => exact (Kd.R_reads' HO_7.out).2.1); rintro e w67 ⟨rfl, hb⟩; refine ⟨_, rfl, ?_⟩; have n0_ := Aside0.mk (Kd.R_below (by (with_reducible repeat (first | apply Kd.R_alloc | apply Kd.R_drewN | apply Kd.R_drew)); exact HO_7.out) hb); have n1_ := Aside0.mk (Kd.R_below (by (with_reducible repeat (first | apply Kd.R_alloc | apply Kd.R_drewN | apply Kd.R_drew)); exact HO_9.out) hb); have n2_ := Aside0.mk (Kd.R_below (by (with_reducible repeat (first | apply Kd.R_alloc | apply Kd.R_drewN | apply Kd.R_drew)); exact HO_11.out) hb); have n3_ := Aside0.mk (blk_below (g := gb8001) (o := .cells #[.int .i64 a2_0, .int .i64 a2_1] 44 (0, 0)) (by (with_reducible repeat (first | refine blk_drewN ?_ _ | refine blk_drew ?_ | refine blk_alloc ?_ _)); exact BK8001.out) hb); have n4_ := Aside0.mk (below_step (by repeat (first | exact HB.out | apply below_alloc | apply pw_below_drewN | apply below_drew1 | refine below_set ?_ GE8001.out)) hb); clear HO_7; clear HO_9; clear HO_11; clear BK8001; clear HB; have HO_7 := n0_; have HO_9 := n1_; have HO_11 := n2_; have BK8001 := n3_; have HB := n4_; clear n0_ n1_ n2_ n3_ n4_; (try clear hb); (try clear hb2); (try clear hk); (try clear hi)) | (go_at_call 12; (with_reducible refine (papermilllaw40_awake.calls  t8020 _ A64.out).mono ?_); rintro e w68 ⟨rfl, hb⟩; have n0_ := Aside0.mk (Kd.R_below (by (with_reducible repeat (first | apply Kd.R_alloc | apply Kd.R_drewN | apply Kd.R_drew)); exact HO_7.out) hb); have n1_ := Aside0.mk (Kd.R_below (by (with_reducible repeat (first | apply Kd.R_alloc | apply Kd.R_drewN | apply Kd.R_drew)); exact HO_9.out) hb); have n2_ := Aside0.mk (Kd.R_below (by (with_reducible repeat (first | apply Kd.R_alloc | apply Kd.R_drewN | apply Kd.R_drew)); exact HO_11.out) hb); have n3_ := Aside0.mk (blk_below (g := gb8001) (o := .cells #[.int .i64 a2_0, .int .i64 a2_1] 44 (0, 0)) (by (with_reducible repeat (first | refine blk_drewN ?_ _ | refine blk_drew ?_ | refine blk_alloc ?_ _)); exact BK8001.out) hb); have n4_ := Aside0.mk (below_step (by repeat (first | exact HB.out | apply below_alloc | apply pw_below_drewN | apply below_drew1 | refine below_set ?_ GE8001.out)) hb); clear HO_7; clear HO_9; clear HO_11; clear BK8001; clear HB; have HO_7 := n0_; have HO_9 := n1_; have HO_11 := n2_; have BK8001 := n3_; have HB := n4_; clear n0_ n1_ n2_ n3_ n4_; (try clear hb); (try clear hb2); (try clear hk); (try clear hi)))
        go_ret
        exact ⟨by first | rfl | (simp [errW_none, errW_some] <;> rfl) | (simp [*, errW_none, errW_some] <;> rfl), by repeat (first | exact HB.out | apply below_alloc | apply pw_below_drewN | apply below_drew1 | refine below_set ?_ GE8001.out)⟩

end Go.Proofs.Ytjkakgkiikjdmaa.G
