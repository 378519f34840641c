import Derived.Test.YtcnkmdonbpgjiaaQ1
import Derived.Test.YtcnkmdonbpgjiaaQ4
import Derived.Test.YtcnkmdonbpgjiaaQ3
import Derived.WalkKit
import Derived.Shelf.Abstract
import Derived.RangeFuncRecord
import Derived.Deep.LoopGhost
import Derived.Test.YtcnkmdonbpgjiaaQ5
namespace Go.Proofs.Ytcnkmdonbpgjiaa.G
open Go.RowKit Go.Proofs.YtcnkmdonbpgjiaaW.PrintWords Go.Proofs.YtcnkmdonbpgjiaaW.PrintLast Go.Proofs.YtcnkmdonbpgjiaaW.PrintMore
attribute [local go_sem] max2_int min2_int max_two min_two max_three min_three max_four min_four   -- for this text's walks alone
set_option linter.unusedVariables false
set_option linter.unusedSimpArgs false

def papermilllaw13_at.f (l0 : List (S32)) (a1 : Int) : Option (Int) := (iso_At.f l0 a1).bind fun bt24001 => (if bt24001.2 = 0 then (some bt24001.1) else (some (-1)))
set_option maxHeartbeats 8000000 in
set_option maxRecDepth 100000 in
theorem papermilllaw13_at.calls (A0 : Option Addr) (c0 : Nat) (l0 : List (S32)) (a1 : Int) (r : Int) (w : World) (hr0 : Kd.C k32 w A0 l0.length l0) (hc0 : l0.length ≤ c0) (h : papermilllaw13_at.f l0 a1 = some r) :
    Calls Try.prog 23 #[.slice A0 l0.length c0, .int .i64 a1] w fun e w' => e = .returned (.int .i64 r) ∧ Below w.heap.size w w' := by
  have HR0 := Aside0.mk hr0
  have HC0 := Aside0.mk hc0
  clear hr0 hc0
  have HB := Aside0.mk (Below.refl w.heap.size w)
  have H : ((iso_At.f l0 a1).bind fun bt24001 => (if bt24001.2 = 0 then (some bt24001.1) else (some (-1)))) = some r := h
  clear h
  replace H := Option.bind_eq_some_iff.mp H
  obtain ⟨⟨t24001, t24002⟩, A30, H⟩ := H
  replace H : (if t24002 = 0 then (some t24001) else (some (-1))) = some r := H
  have A3 := Aside0.mk A30
  clear A30
  by_cases c4 : t24002 = 0
  · rw [if_pos c4] at H
    have c4b0 : (t24002 == 0) = true := beq_iff_eq.mpr c4
    have c4b1 : (t24002 != 0) = false := bne_eq_false_iff_eq.mpr c4
    clear c4
    obtain rfl := Option.some.inj H
    go_enter Try.func23, Try.ntmps23
    go_wp2_with (first | ((with_reducible refine gate_callee (f := 26) rfl ?_); refine goesL_ (some 10) rfl rfl Try.func26 (by kernel_rfl) rfl #[.slice A0 l0.length c0, .int .i64 a1] rfl (by (try simp only [List.map_toArray, List.map_cons, List.map_nil]); first | done | rfl | (simp only [List.length_drop, List.length_take]; rfl)) ?_; (with_reducible refine (iso_At.calls _ _ l0 a1 t24001 t24002 _ ?side1 ?side2 A3.out).mono ?_); (case side1 => exact HR0.out); (case side2 => exact HC0.out); rintro e w5 ⟨rfl, hb⟩; refine ⟨_, rfl, ?_⟩; have n0_ := Aside0.mk (below_step (by repeat (first | exact HB.out | apply below_alloc | apply pw_below_drewN | apply below_drew1)) hb); clear HB; have HB := n0_; clear n0_; (try clear hb); (try clear hb2); (try clear hk); (try clear hi)))
    go_ret
    exact ⟨by first | rfl | (simp [errW_none, errW_some] <;> rfl) | (simp [*, errW_none, errW_some] <;> rfl), by repeat (first | exact HB.out | apply below_alloc | apply pw_below_drewN | apply below_drew1)⟩
  · rw [if_neg c4] at H
    have c4b0 : (t24002 == 0) = false := beq_eq_false_iff_ne.mpr c4
    have c4b1 : (t24002 != 0) = true := bne_iff_ne.mpr c4
    obtain rfl := Option.some.inj H
    go_enter Try.func23, Try.ntmps23
    go_wp2_with (first | ((with_reducible refine gate_callee (f := 26) rfl ?_); refine goesL_ (some 10) rfl rfl Try.func26 (by kernel_rfl) rfl #[.slice A0 l0.length c0, .int .i64 a1] rfl (by (try simp only [List.map_toArray, List.map_cons, List.map_nil]); first | done | rfl | (simp only [List.length_drop, List.length_take]; rfl)) ?_; (with_reducible refine (iso_At.calls _ _ l0 a1 t24001 t24002 _ ?side1 ?side2 A3.out).mono ?_); (case side1 => exact HR0.out); (case side2 => exact HC0.out); rintro e w6 ⟨rfl, hb⟩; refine ⟨_, rfl, ?_⟩; have n0_ := Aside0.mk (below_step (by repeat (first | exact HB.out | apply below_alloc | apply pw_below_drewN | apply below_drew1)) hb); clear HB; have HB := n0_; clear n0_; (try clear hb); (try clear hb2); (try clear hk); (try clear hi)))
    go_ret
    exact ⟨by first | rfl | (simp [errW_none, errW_some] <;> rfl) | (simp [*, errW_none, errW_some] <;> rfl), by repeat (first | exact HB.out | apply below_alloc | apply pw_below_drewN | apply below_drew1)⟩

end Go.Proofs.Ytcnkmdonbpgjiaa.G

namespace Go.Proofs.Ytcnkmdonbpgjiaa.G
open Go.RowKit Go.Proofs.YtcnkmdonbpgjiaaW.PrintWords Go.Proofs.YtcnkmdonbpgjiaaW.PrintLast Go.Proofs.YtcnkmdonbpgjiaaW.PrintMore
attribute [local go_sem] max2_int min2_int max_two min_two max_three min_three max_four min_four   -- for this text's walks alone
set_option linter.unusedVariables false
set_option linter.unusedSimpArgs false

def iso_Length.f (k : Nat) (l0 : List (S32)) : Option (Int × Int) := (iso_Check.f k l0).bind fun t25001 => (if t25001 = 0 then ((iso_length.f k l0).bind fun t25002 => (some (t25002, 0))) else (some (0, t25001)))
theorem iso_Length.mono : ∀ a0 k, LeO (iso_Length.f k a0) (iso_Length.f (k + 1) a0) := by
  intro a0 k
  unfold iso_Length.f
  repeat' first
      | (with_reducible exact iso_Check.mono _ _)
      | (with_reducible exact iso_length.mono _ _)
      | (with_reducible exact LeO.refl _)
      | (with_reducible exact LeO.none _)
      | (with_reducible refine LeO.ite ?_ ?_)
      | (with_reducible refine LeO.bind ?_ (fun _ => ?_))
      | exact iso_Check.mono _ _
      | exact iso_length.mono _ _
      | exact LeO.none _
      | refine LeO.ite ?_ ?_
      | refine LeO.bind ?_ (fun _ => ?_)
set_option maxHeartbeats 8000000 in
set_option maxRecDepth 100000 in
theorem iso_Length.calls (k : Nat) (A0 : Option Addr) (c0 : Nat) (l0 : List (S32)) (r1 : Int) (r2 : Int) (w : World) (hr0 : Kd.C k32 w A0 l0.length l0) (hc0 : l0.length ≤ c0) (h : iso_Length.f k l0 = some (r1, r2)) :
    Calls Try.prog 24 #[.slice A0 l0.length c0] w fun e w' => e = .returned (.tuple #[.int .i64 r1, .int .i64 r2]) ∧ Below w.heap.size w w' := by
  have HR0 := Aside0.mk hr0
  have HC0 := Aside0.mk hc0
  clear hr0 hc0
  have HB := Aside0.mk (Below.refl w.heap.size w)
  have H : ((iso_Check.f k l0).bind fun t25001 => (if t25001 = 0 then ((iso_length.f k l0).bind fun t25002 => (some (t25002, 0))) else (some (0, t25001)))) = some (r1, r2) := h
  clear h
  replace H := Option.bind_eq_some_iff.mp H
  obtain ⟨t25001, A20, H⟩ := H
  replace H : (if t25001 = 0 then ((iso_length.f k l0).bind fun t25002 => (some (t25002, 0))) else (some (0, t25001))) = some (r1, r2) := H
  have A2 := Aside0.mk A20
  clear A20
  by_cases c3 : t25001 = 0
  · rw [if_pos c3] at H
    have c3b0 : (t25001 == 0) = true := beq_iff_eq.mpr c3
    have c3b1 : (t25001 != 0) = false := bne_eq_false_iff_eq.mpr c3
    clear c3
    replace H := Option.bind_eq_some_iff.mp H
    obtain ⟨t25002, A40, H⟩ := H
    replace H : (some (t25002, 0)) = some (r1, r2) := H
    have A4 := Aside0.mk A40
    clear A40
    simp only [Option.some.injEq, Prod.mk.injEq] at H
    obtain ⟨rfl, rfl⟩ := H
    go_enter Try.func24, Try.ntmps24
    go_wp2_with (first | ((with_reducible refine gate_callee (f := 14) rfl ?_); refine goesL_ (some 6) rfl rfl Try.func14 (by kernel_rfl) rfl #[.slice A0 l0.length c0] rfl (by (try simp only [List.map_toArray, List.map_cons, List.map_nil]); first | done | rfl | (simp only [List.length_drop, List.length_take]; rfl)) ?_; (with_reducible refine (iso_Check.calls k _ _ l0 t25001 _ ?side1 ?side2 A2.out).mono ?_); (case side1 => exact HR0.out); (case side2 => exact HC0.out); rintro e w5 ⟨rfl, hb⟩; refine ⟨_, rfl, ?_⟩; have n0_ := Aside0.mk (below_step (by repeat (first | exact HB.out | apply below_alloc | apply pw_below_drewN | apply below_drew1)) hb); clear HB; have HB := n0_; clear n0_; (try clear hb); (try clear hb2); (try clear hk); (try clear hi)) | ((with_reducible refine gate_callee (f := 43) rfl ?_); refine goesL_ (some 11) rfl rfl Try.func43 (by kernel_rfl) rfl #[.slice A0 l0.length c0] rfl (by (try simp only [List.map_toArray, List.map_cons, List.map_nil]); first | done | rfl | (simp only [List.length_drop, List.length_take]; rfl)) ?_; (with_reducible refine (iso_length.calls k _ _ l0 t25002 _ ?side1 ?side2 A4.out).mono ?_); (case side1 => exact (Kd.C_below HR0.out HB.out)); (case side2 => exact HC0.out); rintro e w6 ⟨rfl, hb⟩; refine ⟨_, rfl, ?_⟩; have n0_ := Aside0.mk (below_step (by repeat (first | exact HB.out | apply below_alloc | apply pw_below_drewN | apply below_drew1)) hb); clear HB; have HB := n0_; clear n0_; (try clear hb); (try clear hb2); (try clear hk); (try clear hi)))
    go_ret2
    exact ⟨by first | rfl | (simp [errW_none, errW_some] <;> rfl) | (simp [*, errW_none, errW_some] <;> rfl), by repeat (first | exact HB.out | apply below_alloc | apply pw_below_drewN | apply below_drew1)⟩
  · rw [if_neg c3] at H
    have c3b0 : (t25001 == 0) = false := beq_eq_false_iff_ne.mpr c3
    have c3b1 : (t25001 != 0) = true := bne_iff_ne.mpr c3
    simp only [Option.some.injEq, Prod.mk.injEq] at H
    obtain ⟨rfl, rfl⟩ := H
    go_enter Try.func24, Try.ntmps24
    go_wp2_with (first | ((with_reducible refine gate_callee (f := 14) rfl ?_); refine goesL_ (some 6) rfl rfl Try.func14 (by kernel_rfl) rfl #[.slice A0 l0.length c0] rfl (by (try simp only [List.map_toArray, List.map_cons, List.map_nil]); first | done | rfl | (simp only [List.length_drop, List.length_take]; rfl)) ?_; (with_reducible refine (iso_Check.calls k _ _ l0 t25001 _ ?side1 ?side2 A2.out).mono ?_); (case side1 => exact HR0.out); (case side2 => exact HC0.out); rintro e w7 ⟨rfl, hb⟩; refine ⟨_, rfl, ?_⟩; have n0_ := Aside0.mk (below_step (by repeat (first | exact HB.out | apply below_alloc | apply pw_below_drewN | apply below_drew1)) hb); clear HB; have HB := n0_; clear n0_; (try clear hb); (try clear hb2); (try clear hk); (try clear hi)))
    go_ret2
    exact ⟨by first | rfl | (simp [errW_none, errW_some] <;> rfl) | (simp [*, errW_none, errW_some] <;> rfl), by repeat (first | exact HB.out | apply below_alloc | apply pw_below_drewN | apply below_drew1)⟩

end Go.Proofs.Ytcnkmdonbpgjiaa.G

namespace Go.Proofs.Ytcnkmdonbpgjiaa.G
open Go.RowKit Go.Proofs.YtcnkmdonbpgjiaaW.PrintWords Go.Proofs.YtcnkmdonbpgjiaaW.PrintLast Go.Proofs.YtcnkmdonbpgjiaaW.PrintMore
set_option linter.unusedVariables false
set_option linter.unusedSimpArgs false
def inS (s : S37) (x : Int) : Bool := decide (s.f0 ≤ x) && decide (x < s.f1)
theorem hasOf_inS (l : List S37) (x : Int) : hasOf l x = l.any fun s => inS s x := by
  unfold hasOf inS
  congr 1
  funext s
  rw [Bool.decide_and]
set_option maxRecDepth 100000 in
set_option maxHeartbeats 4000000 in
theorem has_closure (s : S37) (x : Int) (g : Nat) (w : World) (hx : w.cell? ⟨g, 0, none⟩ = some (.int .i64 x)) (hg : g < w.heap.size) :
    Calls Try.prog 63 #[.agg #[.int .i64 s.f0, .int .i64 s.f1], .pointer (some ⟨g, 0, none⟩)] w fun e w' => e = .returned (.bool (inS s x)) ∧ Below w.heap.size w w' := by
  have hq : ∀ o, (w.alloc o).cell? ⟨g, 0, none⟩ = some (.int .i64 x) := fun o => pw_cell_below ((Below.refl _ _).alloc (Nat.le_refl _) o) hx
  clear hx
  obtain ⟨a, b⟩ := s
  by_cases h1 : a ≤ x
  · have h1b : decide (a ≤ x) = true := by simpa using h1
    have hv : inS ⟨a, b⟩ x = decide (x < b) := by unfold inS; simp [h1]
    rw [hv]
    clear hv
    go_enter Try.func63, Try.ntmps63
    go_wp2
    go_ret
    exact ⟨rfl, (Below.refl _ _).alloc (Nat.le_refl _) _⟩
  · have h1b : decide (a ≤ x) = false := by simpa using h1
    have hv : inS ⟨a, b⟩ x = false := by unfold inS; simp [h1]
    rw [hv]
    clear hv
    go_enter Try.func63, Try.ntmps63
    go_wp2
    go_ret
    exact ⟨rfl, (Below.refl _ _).alloc (Nat.le_refl _) _⟩
set_option maxRecDepth 100000 in
set_option maxHeartbeats 8000000 in
theorem index_has (A0 : Option Addr) (c0 : Nat) (l : List S37) (x : Int) (g : Nat) (w : World) (hr : Kd.C k37 w A0 l.length l) (hc : l.length ≤ c0) (hl : l.length ≤ 1000000) (hx : w.cell? ⟨g, 0, none⟩ = some (.int .i64 x)) (hg : g < w.heap.size) :
    Calls Try.prog 72 #[.slice A0 l.length c0, .func (.func 63) #[] #[.pointer (some ⟨g, 0, none⟩)]] w fun e w' => ∃ i : Int, e = .returned (.int .i64 i) ∧ decide (0 ≤ i) = hasOf l x ∧ Below w.heap.size w w' := by
  have eg : ∀ args w, (callFunc 63 args).run Try.prog w = .ok (.enter 63 args) w := enters_of Try.func63 (by kernel_rfl) rfl
  have HR := Aside0.mk hr
  have HC := Aside0.mk hc
  have HX := Aside0.mk hx
  have HG := Aside0.mk hg
  clear hr hc hx hg
  go_enter Try.func72, Try.ntmps72
  go_wp2
  go_loopw [8] (fun i wr => ∃ kk : Nat, i = .int .i64 kk ∧ Aside0 (kk ≤ l.length) ∧ Aside0 (hasOf (l.take kk) x = false) ∧ Aside0 (Below w.heap.size w wr))
    (fun i _ => l.length - (intOf i).toNat)
  case atStart => exact ⟨0, rfl, ⟨Nat.zero_le _⟩, ⟨by simp [hasOf]⟩, ⟨Below.refl _ _⟩⟩
  case round =>
    obtain ⟨kk, rfl, HK, HN, HB⟩ := hrel
    by_cases hk : kk < l.length
    · have hk1 : (kk : Int) < (l.length : Int) := by omega
      have hd0 : decide (kk < l.length) = true := by simpa using hk
      obtain ⟨ad, rfl, hz0, hz1⟩ := at_T37 (Kd.C_below HR.out HB.out) (kk : Int) (by omega) hk1
      simp only [Int.toNat_natCast] at hz0 hz1
      have hsn := Aside0.mk (show hasOf (l.take (kk + 1)) x = (hasOf (l.take kk) x || inS (rd_T37 l kk) x) by rw [List.take_succ_eq_append_getElem hk, hasOf_inS, hasOf_inS, List.any_append]; simp [rd_T37, List.getD_eq_getElem?_getD, List.getElem?_eq_getElem hk])
      have hmem := Aside0.mk (show inS (rd_T37 l kk) x = true → hasOf l x = true from fun h => by
        rw [hasOf_inS, List.any_eq_true]
        exact ⟨l[kk], List.getElem_mem hk, by rw [← h]; simp [rd_T37, List.getD_eq_getElem?_getD, List.getElem?_eq_getElem hk]⟩)
      have hxr := Aside0.mk (pw_cell_below HB.out HX.out)
      have hgr := Aside0.mk (Nat.lt_of_lt_of_le HG.out HB.out.size)
      generalize rd_T37 l kk = s at *
      cases hin : inS s x with
      | true =>
        go_wp2_with (go_at_call 63; (with_reducible refine (has_closure s x g _ hxr.out hgr.out).mono ?_); rintro e w1 ⟨rfl, hb⟩; have HB1 := Aside0.mk (below_then HB.out HB.out.size hb); clear hb)
        go_ret
        exact ⟨_, rfl, by rw [hmem.out hin]; simp, HB1.out⟩
      | false =>
        go_wp2_with (go_at_call 63; (with_reducible refine (has_closure s x g _ hxr.out hgr.out).mono ?_); rintro e w1 ⟨rfl, hb⟩; have HB1 := Aside0.mk (below_then HB.out HB.out.size hb); clear hb)
        go_roundw
        case rel => exact ⟨kk + 1, by go_num, ⟨by omega⟩, ⟨by rw [hsn.out, HN.out, hin]; rfl⟩, HB1⟩
        case measure => simp [intOf]; omega
    · have hd0 : decide (kk < l.length) = false := by simpa using hk
      have hfin := Aside0.mk (show hasOf l x = false by have := HN.out; rwa [List.take_of_length_le (by omega)] at this)
      go_wp2
      go_ret
      exact ⟨_, rfl, by rw [hfin.out]; rfl, HB.out⟩
set_option maxRecDepth 100000 in
set_option maxHeartbeats 4000000 in
theorem has_main (A0 : Option Addr) (c0 : Nat) (l : List S37) (x : Int) (w : World) (hr : Kd.C k37 w A0 l.length l) (hc : l.length ≤ c0) (hl : l.length ≤ 1000000) :
    Calls Try.prog 35 #[.slice A0 l.length c0, .int .i64 x] w fun e w' => e = .returned (.bool (hasOf l x)) ∧ Below w.heap.size w w' := by
  have HR := Aside0.mk (Kd.C_alloc hr (.cells #[.int .i64 x] 3))
  have HC := Aside0.mk hc
  have HL := Aside0.mk hl
  have HX := Aside0.mk (blk_cell (World.alloc_heap_new w (.cells #[.int .i64 x] 3)) 0)
  have HZ := Aside0.mk (show w.heap.size < (w.alloc (.cells #[.int .i64 x] 3)).heap.size by simp)
  have HB0 := Aside0.mk ((Below.refl w.heap.size w).alloc (Nat.le_refl _) (.cells #[.int .i64 x] 3))
  clear hr hc hl
  have hcf : Calls Try.prog 62 #[.slice A0 l.length c0, .func (.func 63) #[] #[.pointer (some ⟨w.heap.size, 0, none⟩)]] (w.alloc (.cells #[.int .i64 x] 3)) fun e w' => e = .returned (.bool (hasOf l x)) ∧ Below w.heap.size w w' := by
    go_enter Try.func62, Try.ntmps62
    go_wp2_with (go_at_call 72; go_loud (refine (index_has A0 c0 l x w.heap.size _ HR.out HC.out HL.out HX.out HZ.out).mono ?_); rintro e w1 ⟨i, rfl, hi, hb⟩; have HB1 := Aside0.mk (HB0.out.trans (hb.mono (Nat.le_of_lt HZ.out))); have HI := Aside0.mk hi; clear hb hi)
    go_ret
    exact ⟨by rw [HI.out]; rfl, HB1.out⟩
  have HCF := Aside0.mk hcf
  clear hcf
  go_enter Try.func35, Try.ntmps35
  go_wp2_with (go_at_call 62; (with_reducible refine HCF.out.mono ?_); rintro e w1 ⟨rfl, hb⟩; have HB1 := Aside0.mk hb; clear hb)
  go_ret
  exact ⟨rfl, HB1.out⟩
def span_Has.f (l0 : List S37) (a1 : Int) : Option Bool := if l0.length ≤ 1000000 then some (hasOf l0 a1) else none
theorem span_Has.calls (A0 : Option Addr) (c0 : Nat) (l0 : List (S37)) (a1 : Int) (r : Bool) (w : World) (hr0 : Kd.C k37 w A0 l0.length l0) (hc0 : l0.length ≤ c0) (h : span_Has.f l0 a1 = some r) :
    Calls Try.prog 35 #[.slice A0 l0.length c0, .int .i64 a1] w fun e w' => e = .returned (.bool r) ∧ Below w.heap.size w w' := by
  unfold span_Has.f at h
  split at h
  case isFalse => cases h
  rename_i hl
  obtain rfl := Option.some.inj h
  exact has_main A0 c0 l0 a1 w hr0 hc0 hl
end Go.Proofs.Ytcnkmdonbpgjiaa.G

namespace Go.Proofs.Ytcnkmdonbpgjiaa.G
open Go.RowKit Go.Proofs.YtcnkmdonbpgjiaaW.PrintWords Go.Proofs.YtcnkmdonbpgjiaaW.PrintLast Go.Proofs.YtcnkmdonbpgjiaaW.PrintMore
attribute [local go_sem] max2_int min2_int max_two min_two max_three min_three max_four min_four   -- for this text's walks alone
set_option linter.unusedVariables false
set_option linter.unusedSimpArgs false

mutual
def papermilllaw13_IsoSingles.j0 : Nat → List (S32) → Int → Bool → Option (Bool)
 | 0, _, _, _ => none
 | k + 1, x0, x1, x20 => if x20 = true then ((papermilllaw13_great.f x0).bind fun t9003 => (if t9003 = true then ((papermilllaw13_awake.f).bind fun t9004 => (some t9004)) else ((iso_Single.f k x0).bind fun t9005 => (if t9005 = true then (some false) else ((papermilllaw13_awake.f).bind fun t9006 => (some t9006)))))) else ((iso_Length.f k x0).bind fun bt9007 => ((iso_Image.f k x0).bind fun bt9009 => ((span_Total.f k bt9009.1).bind fun bt9013 => (if bt9007.2 = 0 then (if bt9009.2 = 0 then (if bt9013.2 = 0 then ((iso_Single.f k x0).bind fun t9015 => (if (t9015 != (bt9013.1 == bt9007.1)) = true then (papermilllaw13_IsoSingles.j1 k x0 x1 bt9007.1 bt9009.1 bt9013.1 true) else (papermilllaw13_IsoSingles.j1 k x0 x1 bt9007.1 bt9009.1 bt9013.1 (decide (bt9013.1 > bt9007.1))))) else (papermilllaw13_IsoSingles.j1 k x0 x1 bt9007.1 bt9009.1 bt9013.1 true)) else (papermilllaw13_IsoSingles.j1 k x0 x1 bt9007.1 bt9009.1 bt9013.1 true)) else (papermilllaw13_IsoSingles.j1 k x0 x1 bt9007.1 bt9009.1 bt9013.1 true)))))
def papermilllaw13_IsoSingles.j1 : Nat → List (S32) → Int → Int → List (S37) → Int → Bool → Option (Bool)
 | 0, _, _, _, _, _, _ => none
 | k + 1, x0, x1, x5, x7, x9, x69 => if x69 = true then (some false) else ((papermilllaw13_at.f x0 x1).bind fun t9016 => (if t9016 < 0 then (papermilllaw13_IsoSingles.j2 k x0 x1 x5 x7 x9 t9016 true) else (papermilllaw13_IsoSingles.j2 k x0 x1 x5 x7 x9 t9016 (decide (t9016 ≥ 17179869184)))))
def papermilllaw13_IsoSingles.j2 : Nat → List (S32) → Int → Int → List (S37) → Int → Int → Bool → Option (Bool)
 | 0, _, _, _, _, _, _, _ => none
 | k + 1, x0, x1, x5, x7, x9, x11, x78 => if x78 = true then (if x1 < 0 then ((papermilllaw13_awake.f).bind fun t9017 => (some t9017)) else (if x1 ≥ x5 then ((papermilllaw13_awake.f).bind fun t9018 => (some t9018)) else (some false))) else ((iso_Find.f k x0 x11 (wrap64 (x11 + 1))).bind fun bt9019 => (if bt9019.2 = 0 then ((span_Has.f bt9019.1 x1).bind fun t9023 => (if t9023 = true then ((span_Has.f x7 x11).bind fun t9024 => (papermilllaw13_IsoSingles.j3 k x1 x5 x9 bt9019.1 (!t9024))) else (papermilllaw13_IsoSingles.j3 k x1 x5 x9 bt9019.1 true))) else (papermilllaw13_IsoSingles.j3 k x1 x5 x9 bt9019.1 true)))
def papermilllaw13_IsoSingles.j3 : Nat → Int → Int → Int → List (S37) → Bool → Option (Bool)
 | 0, _, _, _, _, _ => none
 | k + 1, x1, x5, x9, x12, x111 => if x111 = true then (some false) else (if x9 = x5 then ((papermillref04_Same.f k x12 (([(⟨x1, wrap64 (x1 + 1)⟩ : S37)] : List (S37)))).bind fun t9028 => (if t9028 = true then ((papermilllaw13_awake.f).bind fun t9029 => (some t9029)) else (some false))) else ((papermilllaw13_awake.f).bind fun t9030 => (some t9030)))
end
def papermilllaw13_IsoSingles.f (k : Nat) (l0 : List (S32)) (a1 : Int) : Option (Bool) := (papermilllaw13_great.f l0).bind fun t9001 => (if t9001 = true then (papermilllaw13_IsoSingles.j0 k l0 a1 true) else ((iso_Check.f k l0).bind fun t9002 => (papermilllaw13_IsoSingles.j0 k l0 a1 (t9002 != 0))))
theorem papermilllaw13_IsoSingles.mono_l : ∀ k, (∀ y0 y1 y2, LeO (papermilllaw13_IsoSingles.j0 k y0 y1 y2) (papermilllaw13_IsoSingles.j0 (k + 1) y0 y1 y2)) ∧ (∀ y0 y1 y2 y3 y4 y5, LeO (papermilllaw13_IsoSingles.j1 k y0 y1 y2 y3 y4 y5) (papermilllaw13_IsoSingles.j1 (k + 1) y0 y1 y2 y3 y4 y5)) ∧ (∀ y0 y1 y2 y3 y4 y5 y6, LeO (papermilllaw13_IsoSingles.j2 k y0 y1 y2 y3 y4 y5 y6) (papermilllaw13_IsoSingles.j2 (k + 1) y0 y1 y2 y3 y4 y5 y6)) ∧ (∀ y0 y1 y2 y3 y4, LeO (papermilllaw13_IsoSingles.j3 k y0 y1 y2 y3 y4) (papermilllaw13_IsoSingles.j3 (k + 1) y0 y1 y2 y3 y4))
 | 0 => ⟨fun _ _ _ r h => by simp [papermilllaw13_IsoSingles.j0] at h, fun _ _ _ _ _ _ r h => by simp [papermilllaw13_IsoSingles.j1] at h, fun _ _ _ _ _ _ _ r h => by simp [papermilllaw13_IsoSingles.j2] at h, fun _ _ _ _ _ r h => by simp [papermilllaw13_IsoSingles.j3] at h⟩
 | k + 1 => by
  obtain ⟨ih0, ih1, ih2, ih3⟩ := papermilllaw13_IsoSingles.mono_l k
  refine ⟨?_, ?_, ?_, ?_⟩
  ·intro y0 y1 y2
   unfold papermilllaw13_IsoSingles.j0
   repeat' first
   | (with_reducible exact ih0 _ _ _)
   | (with_reducible exact ih1 _ _ _ _ _ _)
   | (with_reducible exact ih2 _ _ _ _ _ _ _)
   | (with_reducible exact ih3 _ _ _ _ _)
   | (with_reducible exact iso_Check.mono _ _)
   | (with_reducible exact iso_Find.mono _ _ _ _)
   | (with_reducible exact iso_Image.mono _ _)
   | (with_reducible exact iso_Length.mono _ _)
   | (with_reducible exact iso_Single.mono _ _)
   | (with_reducible exact papermillref04_Same.mono _ _ _)
   | (with_reducible exact span_Total.mono _ _)
   | (with_reducible exact LeO.refl _)
   | (with_reducible exact LeO.none _)
   | (with_reducible refine LeO.ite ?_ ?_)
   | (with_reducible refine LeO.bind ?_ (fun _ => ?_))
   | exact ih0 _ _ _
   | exact ih1 _ _ _ _ _ _
   | exact ih2 _ _ _ _ _ _ _
   | exact ih3 _ _ _ _ _
   | exact iso_Check.mono _ _
   | exact iso_Find.mono _ _ _ _
   | exact iso_Image.mono _ _
   | exact iso_Length.mono _ _
   | exact iso_Single.mono _ _
   | exact papermillref04_Same.mono _ _ _
   | exact span_Total.mono _ _
   | exact LeO.none _
   | refine LeO.ite ?_ ?_
   | refine LeO.bind ?_ (fun _ => ?_)
  ·intro y0 y1 y2 y3 y4 y5
   unfold papermilllaw13_IsoSingles.j1
   repeat' first
   | (with_reducible exact ih0 _ _ _)
   | (with_reducible exact ih1 _ _ _ _ _ _)
   | (with_reducible exact ih2 _ _ _ _ _ _ _)
   | (with_reducible exact ih3 _ _ _ _ _)
   | (with_reducible exact iso_Check.mono _ _)
   | (with_reducible exact iso_Find.mono _ _ _ _)
   | (with_reducible exact iso_Image.mono _ _)
   | (with_reducible exact iso_Length.mono _ _)
   | (with_reducible exact iso_Single.mono _ _)
   | (with_reducible exact papermillref04_Same.mono _ _ _)
   | (with_reducible exact span_Total.mono _ _)
   | (with_reducible exact LeO.refl _)
   | (with_reducible exact LeO.none _)
   | (with_reducible refine LeO.ite ?_ ?_)
   | (with_reducible refine LeO.bind ?_ (fun _ => ?_))
   | exact ih0 _ _ _
   | exact ih1 _ _ _ _ _ _
   | exact ih2 _ _ _ _ _ _ _
   | exact ih3 _ _ _ _ _
   | exact iso_Check.mono _ _
   | exact iso_Find.mono _ _ _ _
   | exact iso_Image.mono _ _
   | exact iso_Length.mono _ _
   | exact iso_Single.mono _ _
   | exact papermillref04_Same.mono _ _ _
   | exact span_Total.mono _ _
   | exact LeO.none _
   | refine LeO.ite ?_ ?_
   | refine LeO.bind ?_ (fun _ => ?_)
  ·intro y0 y1 y2 y3 y4 y5 y6
   unfold papermilllaw13_IsoSingles.j2
   repeat' first
   | (with_reducible exact ih0 _ _ _)
   | (with_reducible exact ih1 _ _ _ _ _ _)
   | (with_reducible exact ih2 _ _ _ _ _ _ _)
   | (with_reducible exact ih3 _ _ _ _ _)
   | (with_reducible exact iso_Check.mono _ _)
   | (with_reducible exact iso_Find.mono _ _ _ _)
   | (with_reducible exact iso_Image.mono _ _)
   | (with_reducible exact iso_Length.mono _ _)
   | (with_reducible exact iso_Single.mono _ _)
   | (with_reducible exact papermillref04_Same.mono _ _ _)
   | (with_reducible exact span_Total.mono _ _)
   | (with_reducible exact LeO.refl _)
   | (with_reducible exact LeO.none _)
   | (with_reducible refine LeO.ite ?_ ?_)
   | (with_reducible refine LeO.bind ?_ (fun _ => ?_))
   | exact ih0 _ _ _
   | exact ih1 _ _ _ _ _ _
   | exact ih2 _ _ _ _ _ _ _
   | exact ih3 _ _ _ _ _
   | exact iso_Check.mono _ _
   | exact iso_Find.mono _ _ _ _
   | exact iso_Image.mono _ _
   | exact iso_Length.mono _ _
   | exact iso_Single.mono _ _
   | exact papermillref04_Same.mono _ _ _
   | exact span_Total.mono _ _
   | exact LeO.none _
   | refine LeO.ite ?_ ?_
   | refine LeO.bind ?_ (fun _ => ?_)
  ·intro y0 y1 y2 y3 y4
   unfold papermilllaw13_IsoSingles.j3
   repeat' first
   | (with_reducible exact ih0 _ _ _)
   | (with_reducible exact ih1 _ _ _ _ _ _)
   | (with_reducible exact ih2 _ _ _ _ _ _ _)
   | (with_reducible exact ih3 _ _ _ _ _)
   | (with_reducible exact iso_Check.mono _ _)
   | (with_reducible exact iso_Find.mono _ _ _ _)
   | (with_reducible exact iso_Image.mono _ _)
   | (with_reducible exact iso_Length.mono _ _)
   | (with_reducible exact iso_Single.mono _ _)
   | (with_reducible exact papermillref04_Same.mono _ _ _)
   | (with_reducible exact span_Total.mono _ _)
   | (with_reducible exact LeO.refl _)
   | (with_reducible exact LeO.none _)
   | (with_reducible refine LeO.ite ?_ ?_)
   | (with_reducible refine LeO.bind ?_ (fun _ => ?_))
   | exact ih0 _ _ _
   | exact ih1 _ _ _ _ _ _
   | exact ih2 _ _ _ _ _ _ _
   | exact ih3 _ _ _ _ _
   | exact iso_Check.mono _ _
   | exact iso_Find.mono _ _ _ _
   | exact iso_Image.mono _ _
   | exact iso_Length.mono _ _
   | exact iso_Single.mono _ _
   | exact papermillref04_Same.mono _ _ _
   | exact span_Total.mono _ _
   | exact LeO.none _
   | refine LeO.ite ?_ ?_
   | refine LeO.bind ?_ (fun _ => ?_)
theorem papermilllaw13_IsoSingles.mono : ∀ a0 a1 k, LeO (papermilllaw13_IsoSingles.f k a0 a1) (papermilllaw13_IsoSingles.f (k + 1) a0 a1) := by
 intro a0 a1 k
 obtain ⟨ih0, ih1, ih2, ih3⟩ := papermilllaw13_IsoSingles.mono_l k
 unfold papermilllaw13_IsoSingles.f
 repeat' first
   | (with_reducible exact ih0 _ _ _)
   | (with_reducible exact ih1 _ _ _ _ _ _)
   | (with_reducible exact ih2 _ _ _ _ _ _ _)
   | (with_reducible exact ih3 _ _ _ _ _)
   | (with_reducible exact iso_Check.mono _ _)
   | (with_reducible exact iso_Find.mono _ _ _ _)
   | (with_reducible exact iso_Image.mono _ _)
   | (with_reducible exact iso_Length.mono _ _)
   | (with_reducible exact iso_Single.mono _ _)
   | (with_reducible exact papermillref04_Same.mono _ _ _)
   | (with_reducible exact span_Total.mono _ _)
   | (with_reducible exact LeO.refl _)
   | (with_reducible exact LeO.none _)
   | (with_reducible refine LeO.ite ?_ ?_)
   | (with_reducible refine LeO.bind ?_ (fun _ => ?_))
   | exact ih0 _ _ _
   | exact ih1 _ _ _ _ _ _
   | exact ih2 _ _ _ _ _ _ _
   | exact ih3 _ _ _ _ _
   | exact iso_Check.mono _ _
   | exact iso_Find.mono _ _ _ _
   | exact iso_Image.mono _ _
   | exact iso_Length.mono _ _
   | exact iso_Single.mono _ _
   | exact papermillref04_Same.mono _ _ _
   | exact span_Total.mono _ _
   | exact LeO.none _
   | refine LeO.ite ?_ ?_
   | refine LeO.bind ?_ (fun _ => ?_)
set_option maxHeartbeats 8000000 in
set_option maxRecDepth 100000 in
theorem papermilllaw13_IsoSingles.calls (k : Nat) (A0 : Option Addr) (c0 : Nat) (l0 : List (S32)) (a1 : Int) (r : Bool) (w : World) (hr0 : Kd.C k32 w A0 l0.length l0) (hc0 : l0.length ≤ c0) (h : papermilllaw13_IsoSingles.f k l0 a1 = some r) :
  Calls Try.prog 8 #[.slice A0 l0.length c0, .int .i64 a1] w fun e w' => e = .returned (.bool r) ∧ Below w.heap.size w w' := by
 have hu37 := Try.underlying37
 have HR0 := Aside0.mk hr0
 have HC0 := Aside0.mk hc0
 clear hr0 hc0
 have HB := Aside0.mk (Below.refl w.heap.size w)
 have H : ((papermilllaw13_great.f l0).bind fun t9001 => (if t9001 = true then (papermilllaw13_IsoSingles.j0 k l0 a1 true) else ((iso_Check.f k l0).bind fun t9002 => (papermilllaw13_IsoSingles.j0 k l0 a1 (t9002 != 0))))) = some r := h
 clear h
 have HC3 := Aside0.mk H
 clear H
 go_enter Try.func8, Try.ntmps8
 go_upto_region 1 with (fail)
 go_cut [20] (fun v20 wc => ∃ (kq : Nat) (x20_2 : Bool), v20 = .bool x20_2 ∧ Aside0 (papermilllaw13_IsoSingles.j0 kq l0 a1 x20_2 = some r) ∧ Aside0 (kq ≤ k) ∧ Aside0 (Below w.heap.size w wc))
 case first =>
  have H := HC3.out
  clear HC3
  replace H := Option.bind_eq_some_iff.mp H
  obtain ⟨t9001, A40, H⟩ := H
  replace H : (if t9001 = true then (papermilllaw13_IsoSingles.j0 k l0 a1 true) else ((iso_Check.f k l0).bind fun t9002 => (papermilllaw13_IsoSingles.j0 k l0 a1 (t9002 != 0)))) = some r := H
  have A4 := Aside0.mk A40
  clear A40
  by_cases c5 : t9001 = true
  ·subst c5
   have H1 : (papermilllaw13_IsoSingles.j0 k l0 a1 true) = some r := by rw [if_pos rfl] at H; exact H
   clear H
   have H := H1
   clear H1
   have H' := Aside0.mk H
   clear H
   go_wp2_with (first | ((with_reducible refine gate_callee (f := 12) rfl ?_); refine goesL_ (some 15) rfl rfl Try.func12 (by kernel_rfl) rfl #[.slice A0 l0.length c0] rfl (by (try simp only [List.map_toArray, List.map_cons, List.map_nil]); first | done | rfl | (simp only [List.length_drop, List.length_take]; rfl)) ?_; (with_reducible refine (papermilllaw13_great.calls _ _ l0 true _ ?side1 ?side2 A4.out).mono ?_); (case side1 => repeat (first | exact (Kd.C_below HR0.out HB.out) | (with_reducible refine Kd.C_alloc ?_ _) | (with_reducible refine Kd.C_drewN ?_ _) | (with_reducible refine Kd.C_drew ?_))); (case side2 => exact HC0.out); rintro e w' ⟨rfl, ⟨nd, rfl⟩⟩; refine ⟨_, rfl, ?_⟩))
   go_meet
   case rel => exact ⟨_, (true), (by first | rfl | (simp; done) | (simp [*]; done)), H', ⟨by first | omega | exact Nat.le_refl _⟩, ⟨by repeat (first | (with_reducible first | exact HB.out | apply below_alloc | apply pw_below_drewN | apply below_drew1) | exact HB.out)⟩⟩
  ·replace c5 := Bool.eq_false_iff.mpr c5
   subst c5
   have H1 : ((iso_Check.f k l0).bind fun t9002 => (papermilllaw13_IsoSingles.j0 k l0 a1 (t9002 != 0))) = some r := by rw [if_neg (show ¬ (false = true) by decide)] at H; first | exact H | simpa using H
   clear H
   have H := H1
   clear H1
   replace H := Option.bind_eq_some_iff.mp H
   obtain ⟨t9002, A60, H⟩ := H
   replace H : (papermilllaw13_IsoSingles.j0 k l0 a1 (t9002 != 0)) = some r := H
   have A6 := Aside0.mk A60
   clear A60
   have H' := Aside0.mk H
   clear H
   go_wp2_with (first | ((with_reducible refine gate_callee (f := 12) rfl ?_); refine goesL_ (some 15) rfl rfl Try.func12 (by kernel_rfl) rfl #[.slice A0 l0.length c0] rfl (by (try simp only [List.map_toArray, List.map_cons, List.map_nil]); first | done | rfl | (simp only [List.length_drop, List.length_take]; rfl)) ?_; (with_reducible refine (papermilllaw13_great.calls _ _ l0 false _ ?side1 ?side2 A4.out).mono ?_); (case side1 => repeat (first | exact (Kd.C_below HR0.out HB.out) | (with_reducible refine Kd.C_alloc ?_ _) | (with_reducible refine Kd.C_drewN ?_ _) | (with_reducible refine Kd.C_drew ?_))); (case side2 => exact HC0.out); rintro e w' ⟨rfl, ⟨nd, rfl⟩⟩; refine ⟨_, rfl, ?_⟩) | (go_at_call 14; (with_reducible refine (iso_Check.calls k _ _ l0 t9002 _ ?side1 ?side2 A6.out).mono ?_); (case side1 => repeat (first | exact (Kd.C_below HR0.out (by repeat (first | (with_reducible first | exact HB.out | apply below_alloc | apply pw_below_drewN | apply below_drew1) | exact HB.out))) | (with_reducible refine Kd.C_alloc ?_ _) | (with_reducible refine Kd.C_drewN ?_ _) | (with_reducible refine Kd.C_drew ?_))); (case side2 => exact HC0.out); rintro e w7 ⟨rfl, hb⟩; have n0_ := Aside0.mk (below_step (by repeat (first | (with_reducible first | exact HB.out | apply below_alloc | apply pw_below_drewN | apply below_drew1) | exact HB.out)) hb); clear HB; have HB := n0_; clear n0_; (try clear hb); (try clear hb2); (try clear hk); (try clear hi)))
   go_meet
   case rel => exact ⟨_, ((t9002 != 0)), (by first | rfl | (simp; done) | (simp [*]; done)), H', ⟨by first | omega | exact Nat.le_refl _⟩, ⟨by repeat (first | (with_reducible first | exact HB.out | apply below_alloc | apply pw_below_drewN | apply below_drew1) | exact HB.out)⟩⟩
 case rest =>
  clear HC3
  try clear c1
  try clear p2
  try clear c5
  obtain ⟨kq, x20_2, rfl, HA, HJ2, HB⟩ := hcut
  cases kq with
  | zero => exact absurd HA.out (by simp [papermilllaw13_IsoSingles.j0])
  | succ kj2 =>
   have H := HA.out
   clear HA
   simp only [papermilllaw13_IsoSingles.j0] at H
   by_cases c8 : x20_2 = true
   ·subst c8
    have H1 : ((papermilllaw13_great.f l0).bind fun t9003 => (if t9003 = true then ((papermilllaw13_awake.f).bind fun t9004 => (some t9004)) else ((iso_Single.f kj2 l0).bind fun t9005 => (if t9005 = true then (some false) else ((papermilllaw13_awake.f).bind fun t9006 => (some t9006)))))) = some r := by rw [if_pos rfl] at H; exact H
    clear H
    have H := H1
    clear H1
    replace H := Option.bind_eq_some_iff.mp H
    obtain ⟨t9003, A90, H⟩ := H
    replace H : (if t9003 = true then ((papermilllaw13_awake.f).bind fun t9004 => (some t9004)) else ((iso_Single.f kj2 l0).bind fun t9005 => (if t9005 = true then (some false) else ((papermilllaw13_awake.f).bind fun t9006 => (some t9006))))) = some r := H
    have A9 := Aside0.mk A90
    clear A90
    by_cases c10 : t9003 = true
    ·subst c10
     have H1 : ((papermilllaw13_awake.f).bind fun t9004 => (some t9004)) = some r := by rw [if_pos rfl] at H; exact H
     clear H
     have H := H1
     clear H1
     replace H := Option.bind_eq_some_iff.mp H
     obtain ⟨t9004, A110, H⟩ := H
     replace H : (some t9004) = some r := H
     have A11 := Aside0.mk A110
     clear A110
     obtain rfl := Option.some.inj H
     go_wp2_with (first | ((with_reducible refine gate_callee (f := 12) rfl ?_); refine goesL_ (some 22) rfl rfl Try.func12 (by kernel_rfl) rfl #[.slice A0 l0.length c0] rfl (by (try simp only [List.map_toArray, List.map_cons, List.map_nil]); first | done | rfl | (simp only [List.length_drop, List.length_take]; rfl)) ?_; (with_reducible refine (papermilllaw13_great.calls _ _ l0 true _ ?side1 ?side2 A9.out).mono ?_); (case side1 => repeat (first | exact (Kd.C_below HR0.out HB.out) | (with_reducible refine Kd.C_alloc ?_ _) | (with_reducible refine Kd.C_drewN ?_ _) | (with_reducible refine Kd.C_drew ?_))); (case side2 => exact HC0.out); rintro e w' ⟨rfl, ⟨nd, rfl⟩⟩; refine ⟨_, rfl, ?_⟩) | (go_at_call 13; (with_reducible refine (papermilllaw13_awake.calls  t9004 _ A11.out).mono ?_); rintro e w12 ⟨rfl, hb⟩; have n0_ := Aside0.mk (below_step (by repeat (first | (with_reducible first | exact HB.out | apply below_alloc | apply pw_below_drewN | apply below_drew1) | exact HB.out)) hb); clear HB; have HB := n0_; clear n0_; (try clear hb); (try clear hb2); (try clear hk); (try clear hi)))
     go_ret
     exact ⟨by first | rfl | (simp [errW_none, errW_some] <;> rfl) | (simp [*, errW_none, errW_some] <;> rfl), by repeat (first | (with_reducible first | exact HB.out | apply below_alloc | apply pw_below_drewN | apply below_drew1) | exact HB.out)⟩
    ·replace c10 := Bool.eq_false_iff.mpr c10
     subst c10
     have H1 : ((iso_Single.f kj2 l0).bind fun t9005 => (if t9005 = true then (some false) else ((papermilllaw13_awake.f).bind fun t9006 => (some t9006)))) = some r := by rw [if_neg (show ¬ (false = true) by decide)] at H; first | exact H | simpa using H
     clear H
     have H := H1
     clear H1
     replace H := Option.bind_eq_some_iff.mp H
     obtain ⟨t9005, A130, H⟩ := H
     replace H : (if t9005 = true then (some false) else ((papermilllaw13_awake.f).bind fun t9006 => (some t9006))) = some r := H
     have A13 := Aside0.mk A130
     clear A130
     by_cases c14 : t9005 = true
     ·subst c14
      have H1 : (some false) = some r := by rw [if_pos rfl] at H; exact H
      clear H
      have H := H1
      clear H1
      obtain rfl := Option.some.inj H
      go_wp2_with (first | ((with_reducible refine gate_callee (f := 12) rfl ?_); refine goesL_ (some 22) rfl rfl Try.func12 (by kernel_rfl) rfl #[.slice A0 l0.length c0] rfl (by (try simp only [List.map_toArray, List.map_cons, List.map_nil]); first | done | rfl | (simp only [List.length_drop, List.length_take]; rfl)) ?_; (with_reducible refine (papermilllaw13_great.calls _ _ l0 false _ ?side1 ?side2 A9.out).mono ?_); (case side1 => repeat (first | exact (Kd.C_below HR0.out HB.out) | (with_reducible refine Kd.C_alloc ?_ _) | (with_reducible refine Kd.C_drewN ?_ _) | (with_reducible refine Kd.C_drew ?_))); (case side2 => exact HC0.out); rintro e w' ⟨rfl, ⟨nd, rfl⟩⟩; refine ⟨_, rfl, ?_⟩) | (go_at_call 16; (with_reducible refine (iso_Single.calls kj2 _ _ l0 true _ ?side1 ?side2 A13.out).mono ?_); (case side1 => repeat (first | exact (Kd.C_below HR0.out (by repeat (first | (with_reducible first | exact HB.out | apply below_alloc | apply pw_below_drewN | apply below_drew1) | exact HB.out))) | (with_reducible refine Kd.C_alloc ?_ _) | (with_reducible refine Kd.C_drewN ?_ _) | (with_reducible refine Kd.C_drew ?_))); (case side2 => exact HC0.out); rintro e w15 ⟨rfl, hb⟩; have n0_ := Aside0.mk (below_step (by repeat (first | (with_reducible first | exact HB.out | apply below_alloc | apply pw_below_drewN | apply below_drew1) | exact HB.out)) hb); clear HB; have HB := n0_; clear n0_; (try clear hb); (try clear hb2); (try clear hk); (try clear hi)))
      go_ret
      exact ⟨by first | rfl | (simp [errW_none, errW_some] <;> rfl) | (simp [*, errW_none, errW_some] <;> rfl), by repeat (first | (with_reducible first | exact HB.out | apply below_alloc | apply pw_below_drewN | apply below_drew1) | exact HB.out)⟩
     ·replace c14 := Bool.eq_false_iff.mpr c14
      subst c14
      have H1 : ((papermilllaw13_awake.f).bind fun t9006 => (some t9006)) = some r := by rw [if_neg (show ¬ (false = true) by decide)] at H; first | exact H | simpa using H
      clear H
      have H := H1
      clear H1
      replace H := Option.bind_eq_some_iff.mp H
      obtain ⟨t9006, A160, H⟩ := H
      replace H : (some t9006) = some r := H
      have A16 := Aside0.mk A160
      clear A160
      obtain rfl := Option.some.inj H
      go_wp2_with (first | ((with_reducible refine gate_callee (f := 12) rfl ?_); refine goesL_ (some 22) rfl rfl Try.func12 (by kernel_rfl) rfl #[.slice A0 l0.length c0] rfl (by (try simp only [List.map_toArray, List.map_cons, List.map_nil]); first | done | rfl | (simp only [List.length_drop, List.length_take]; rfl)) ?_; (with_reducible refine (papermilllaw13_great.calls _ _ l0 false _ ?side1 ?side2 A9.out).mono ?_); (case side1 => repeat (first | exact (Kd.C_below HR0.out HB.out) | (with_reducible refine Kd.C_alloc ?_ _) | (with_reducible refine Kd.C_drewN ?_ _) | (with_reducible refine Kd.C_drew ?_))); (case side2 => exact HC0.out); rintro e w' ⟨rfl, ⟨nd, rfl⟩⟩; refine ⟨_, rfl, ?_⟩) | (go_at_call 16; (with_reducible refine (iso_Single.calls kj2 _ _ l0 false _ ?side1 ?side2 A13.out).mono ?_); (case side1 => repeat (first | exact (Kd.C_below HR0.out (by repeat (first | (with_reducible first | exact HB.out | apply below_alloc | apply pw_below_drewN | apply below_drew1) | exact HB.out))) | (with_reducible refine Kd.C_alloc ?_ _) | (with_reducible refine Kd.C_drewN ?_ _) | (with_reducible refine Kd.C_drew ?_))); (case side2 => exact HC0.out); rintro e w17 ⟨rfl, hb⟩; have n0_ := Aside0.mk (below_step (by repeat (first | (with_reducible first | exact HB.out | apply below_alloc | apply pw_below_drewN | apply below_drew1) | exact HB.out)) hb); clear HB; have HB := n0_; clear n0_; (try clear hb); (try clear hb2); (try clear hk); (try clear hi)) | (go_at_call 13; (with_reducible refine (papermilllaw13_awake.calls  t9006 _ A16.out).mono ?_); rintro e w18 ⟨rfl, hb⟩; have n0_ := Aside0.mk (below_step (by repeat (first | (with_reducible first | exact HB.out | apply below_alloc | apply pw_below_drewN | apply below_drew1) | exact HB.out)) hb); clear HB; have HB := n0_; clear n0_; (try clear hb); (try clear hb2); (try clear hk); (try clear hi)))
      go_ret
      exact ⟨by first | rfl | (simp [errW_none, errW_some] <;> rfl) | (simp [*, errW_none, errW_some] <;> rfl), by repeat (first | (with_reducible first | exact HB.out | apply below_alloc | apply pw_below_drewN | apply below_drew1) | exact HB.out)⟩
   ·replace c8 := Bool.eq_false_iff.mpr c8
    subst c8
    have H1 : ((iso_Length.f kj2 l0).bind fun bt9007 => ((iso_Image.f kj2 l0).bind fun bt9009 => ((span_Total.f kj2 bt9009.1).bind fun bt9013 => (if bt9007.2 = 0 then (if bt9009.2 = 0 then (if bt9013.2 = 0 then ((iso_Single.f kj2 l0).bind fun t9015 => (if (t9015 != (bt9013.1 == bt9007.1)) = true then (papermilllaw13_IsoSingles.j1 kj2 l0 a1 bt9007.1 bt9009.1 bt9013.1 true) else (papermilllaw13_IsoSingles.j1 kj2 l0 a1 bt9007.1 bt9009.1 bt9013.1 (decide (bt9013.1 > bt9007.1))))) else (papermilllaw13_IsoSingles.j1 kj2 l0 a1 bt9007.1 bt9009.1 bt9013.1 true)) else (papermilllaw13_IsoSingles.j1 kj2 l0 a1 bt9007.1 bt9009.1 bt9013.1 true)) else (papermilllaw13_IsoSingles.j1 kj2 l0 a1 bt9007.1 bt9009.1 bt9013.1 true))))) = some r := by rw [if_neg (show ¬ (false = true) by decide)] at H; first | exact H | simpa using H
    clear H
    have H := H1
    clear H1
    replace H := Option.bind_eq_some_iff.mp H
    obtain ⟨⟨t9007, t9008⟩, A190, H⟩ := H
    replace H : ((iso_Image.f kj2 l0).bind fun bt9009 => ((span_Total.f kj2 bt9009.1).bind fun bt9013 => (if t9008 = 0 then (if bt9009.2 = 0 then (if bt9013.2 = 0 then ((iso_Single.f kj2 l0).bind fun t9015 => (if (t9015 != (bt9013.1 == t9007)) = true then (papermilllaw13_IsoSingles.j1 kj2 l0 a1 t9007 bt9009.1 bt9013.1 true) else (papermilllaw13_IsoSingles.j1 kj2 l0 a1 t9007 bt9009.1 bt9013.1 (decide (bt9013.1 > t9007))))) else (papermilllaw13_IsoSingles.j1 kj2 l0 a1 t9007 bt9009.1 bt9013.1 true)) else (papermilllaw13_IsoSingles.j1 kj2 l0 a1 t9007 bt9009.1 bt9013.1 true)) else (papermilllaw13_IsoSingles.j1 kj2 l0 a1 t9007 bt9009.1 bt9013.1 true)))) = some r := H
    have A19 := Aside0.mk A190
    clear A190
    replace H := Option.bind_eq_some_iff.mp H
    obtain ⟨⟨t9009, t9010⟩, A200, H⟩ := H
    replace H : ((span_Total.f kj2 t9009).bind fun bt9013 => (if t9008 = 0 then (if t9010 = 0 then (if bt9013.2 = 0 then ((iso_Single.f kj2 l0).bind fun t9015 => (if (t9015 != (bt9013.1 == t9007)) = true then (papermilllaw13_IsoSingles.j1 kj2 l0 a1 t9007 t9009 bt9013.1 true) else (papermilllaw13_IsoSingles.j1 kj2 l0 a1 t9007 t9009 bt9013.1 (decide (bt9013.1 > t9007))))) else (papermilllaw13_IsoSingles.j1 kj2 l0 a1 t9007 t9009 bt9013.1 true)) else (papermilllaw13_IsoSingles.j1 kj2 l0 a1 t9007 t9009 bt9013.1 true)) else (papermilllaw13_IsoSingles.j1 kj2 l0 a1 t9007 t9009 bt9013.1 true))) = some r := H
    have A20 := Aside0.mk A200
    clear A200
    replace H := Option.bind_eq_some_iff.mp H
    obtain ⟨⟨t9013, t9014⟩, A210, H⟩ := H
    replace H : (if t9008 = 0 then (if t9010 = 0 then (if t9014 = 0 then ((iso_Single.f kj2 l0).bind fun t9015 => (if (t9015 != (t9013 == t9007)) = true then (papermilllaw13_IsoSingles.j1 kj2 l0 a1 t9007 t9009 t9013 true) else (papermilllaw13_IsoSingles.j1 kj2 l0 a1 t9007 t9009 t9013 (decide (t9013 > t9007))))) else (papermilllaw13_IsoSingles.j1 kj2 l0 a1 t9007 t9009 t9013 true)) else (papermilllaw13_IsoSingles.j1 kj2 l0 a1 t9007 t9009 t9013 true)) else (papermilllaw13_IsoSingles.j1 kj2 l0 a1 t9007 t9009 t9013 true)) = some r := H
    have A21 := Aside0.mk A210
    clear A210
    have HC22 := Aside0.mk H
    clear H
    go_upto_region 6 with (first | ((with_reducible refine gate_callee (f := 24) rfl ?_); refine goesL_ (some 34) rfl rfl Try.func24 (by kernel_rfl) rfl #[.slice A0 l0.length c0] rfl (by (try simp only [List.map_toArray, List.map_cons, List.map_nil]); first | done | rfl | (simp only [List.length_drop, List.length_take]; rfl)) ?_; (with_reducible refine (iso_Length.calls kj2 _ _ l0 t9007 t9008 _ ?side1 ?side2 A19.out).mono ?_); (case side1 => repeat (first | exact (Kd.C_below HR0.out HB.out) | (with_reducible refine Kd.C_alloc ?_ _) | (with_reducible refine Kd.C_drewN ?_ _) | (with_reducible refine Kd.C_drew ?_))); (case side2 => exact HC0.out); rintro e w23 ⟨rfl, hb⟩; refine ⟨_, rfl, ?_⟩; have n0_ := Aside0.mk (below_step (by repeat (first | (with_reducible first | exact HB.out | apply below_alloc | apply pw_below_drewN | apply below_drew1) | exact HB.out)) hb); clear HB; have HB := n0_; clear n0_; (try clear hb); (try clear hb2); (try clear hk); (try clear hi)) | ((with_reducible refine gate_callee (f := 29) rfl ?_); refine goesL_ (some 39) rfl rfl Try.func29 (by kernel_rfl) rfl #[.slice A0 l0.length c0] rfl (by (try simp only [List.map_toArray, List.map_cons, List.map_nil]); first | done | rfl | (simp only [List.length_drop, List.length_take]; rfl)) ?_; (with_reducible refine (iso_Image.calls kj2 _ _ l0 t9009 t9010 _ ?side1 ?side2 A20.out).mono ?_); (case side1 => repeat (first | exact (Kd.C_below HR0.out HB.out) | (with_reducible refine Kd.C_alloc ?_ _) | (with_reducible refine Kd.C_drewN ?_ _) | (with_reducible refine Kd.C_drew ?_))); (case side2 => exact HC0.out); rintro e w24 ⟨v9011, rfl, ho0, hb⟩; refine ⟨_, rfl, ?_⟩; have n0_ := Aside0.mk (Kd.R_lower ho0 (below_size (by repeat (first | (with_reducible first | exact HB.out | apply below_alloc | apply pw_below_drewN | apply below_drew1) | exact HB.out)))); have n1_ := Aside0.mk (below_step (by repeat (first | (with_reducible first | exact HB.out | apply below_alloc | apply pw_below_drewN | apply below_drew1) | exact HB.out)) hb); clear HB; have HO9012 := n0_; have HB := n1_; clear n0_ n1_; (try clear hb); (try clear hb2); (try clear hk); (try clear hi); (try clear ho0); obtain ⟨Ao25, co25, eo25⟩ := Kd.R_slice HO9012.out; subst eo25) | ((with_reducible refine gate_callee (f := 34) rfl ?_); refine goesL_ (some 44) rfl rfl Try.func34 (by kernel_rfl) rfl #[.slice Ao25 t9009.length co25] rfl (by (try simp only [List.map_toArray, List.map_cons, List.map_nil]); first | done | rfl | (simp only [List.length_drop, List.length_take]; rfl)) ?_; (with_reducible refine (span_Total.calls kj2 _ _ t9009 t9013 t9014 _ ?side1 ?side2 A21.out).mono ?_); (case side1 => repeat (first | exact (Kd.R_reads' HO9012.out).2.2 | (with_reducible refine Kd.C_alloc ?_ _) | (with_reducible refine Kd.C_drewN ?_ _) | (with_reducible refine Kd.C_drew ?_))); (case side2 => exact (Kd.R_reads' HO9012.out).2.1); rintro e w26 ⟨rfl, hb⟩; refine ⟨_, rfl, ?_⟩; have n0_ := Aside0.mk (Kd.R_below (by (with_reducible repeat (first | apply Kd.R_alloc | apply Kd.R_drewN | apply Kd.R_drew)); exact HO9012.out) hb); have n1_ := Aside0.mk (below_step (by repeat (first | (with_reducible first | exact HB.out | apply below_alloc | apply pw_below_drewN | apply below_drew1) | exact HB.out)) hb); clear HO9012; clear HB; have HO9012 := n0_; have HB := n1_; clear n0_ n1_; (try clear hb); (try clear hb2); (try clear hk); (try clear hi)))
    (try simp only [Act.put, List.setIfInBounds_toArray, List.set_cons_zero, List.set_cons_succ])
    go_cut [69] (fun v69 wc => ∃ (kq : Nat) (x69_21 : Bool), v69 = .bool x69_21 ∧ Aside0 (papermilllaw13_IsoSingles.j1 kq l0 a1 t9007 t9009 t9013 x69_21 = some r) ∧ Aside0 (kq ≤ kj2) ∧ Aside0 (Kd.R k37 37 wc w.heap.size (fun _ => True) (.slice Ao25 t9009.length co25) t9009) ∧ Aside0 (Below w.heap.size w wc))
    case first =>
     have H := HC22.out
     clear HC22
     by_cases c27 : t9008 = 0
     ·rw [if_pos c27] at H
      have c27b0 : (t9008 == 0) = true := beq_iff_eq.mpr c27
      have c27b1 : (t9008 != 0) = false := bne_eq_false_iff_eq.mpr c27
      clear c27
      (first | rw [c27b0] | (simp only [i64_w, i32_w]; rw [c27b0]) | skip)
      by_cases c28 : t9010 = 0
      ·rw [if_pos c28] at H
       have c28b0 : (t9010 == 0) = true := beq_iff_eq.mpr c28
       have c28b1 : (t9010 != 0) = false := bne_eq_false_iff_eq.mpr c28
       clear c28
       by_cases c29 : t9014 = 0
       ·rw [if_pos c29] at H
        have c29b0 : (t9014 == 0) = true := beq_iff_eq.mpr c29
        have c29b1 : (t9014 != 0) = false := bne_eq_false_iff_eq.mpr c29
        clear c29
        replace H := Option.bind_eq_some_iff.mp H
        obtain ⟨t9015, A300, H⟩ := H
        replace H : (if (t9015 != (t9013 == t9007)) = true then (papermilllaw13_IsoSingles.j1 kj2 l0 a1 t9007 t9009 t9013 true) else (papermilllaw13_IsoSingles.j1 kj2 l0 a1 t9007 t9009 t9013 (decide (t9013 > t9007)))) = some r := H
        have A30 := Aside0.mk A300
        clear A300
        by_cases c31 : (t9015 != (t9013 == t9007)) = true
        ·rw [if_pos c31] at H
         have c31b0 : (t9015 != (t9013 == t9007)) = true := c31
         (try (have c31b1 : decide (t9015 = (t9013 == t9007)) = false := by simpa using c31))
         (try (have c31b2 : (t9015 == (t9013 == t9007)) = false := by simpa using c31))
         (try (have c31b3 : ¬ (t9015 = (t9013 == t9007)) := by simpa using c31))
         clear c31
         have H' := Aside0.mk H
         clear H
         go_wp2_with (first | (go_at_call 16; (with_reducible refine (iso_Single.calls kj2 _ _ l0 t9015 _ ?side1 ?side2 A30.out).mono ?_); (case side1 => repeat (first | exact (Kd.C_below HR0.out HB.out) | (with_reducible refine Kd.C_alloc ?_ _) | (with_reducible refine Kd.C_drewN ?_ _) | (with_reducible refine Kd.C_drew ?_))); (case side2 => exact HC0.out); rintro e w32 ⟨rfl, hb⟩; have n0_ := Aside0.mk (Kd.R_below (by (with_reducible repeat (first | apply Kd.R_alloc | apply Kd.R_drewN | apply Kd.R_drew)); exact HO9012.out) hb); have n1_ := Aside0.mk (below_step (by repeat (first | (with_reducible first | exact HB.out | apply below_alloc | apply pw_below_drewN | apply below_drew1) | exact HB.out)) hb); clear HO9012; clear HB; have HO9012 := n0_; have HB := n1_; clear n0_ n1_; (try clear hb); (try clear hb2); (try clear hk); (try clear hi)))
         go_meet
         case rel => exact ⟨_, (true), (by first | rfl | (simp; done) | (simp [*]; done)), H', ⟨by have := HJ2.out; first | omega | exact Nat.le_refl _⟩, ⟨by (with_reducible repeat (first | apply Kd.R_alloc | apply Kd.R_drewN | apply Kd.R_drew)); exact HO9012.out⟩, ⟨by repeat (first | (with_reducible first | exact HB.out | apply below_alloc | apply pw_below_drewN | apply below_drew1) | exact HB.out)⟩⟩
        ·rw [if_neg c31] at H
         have c31b0 : (t9015 != (t9013 == t9007)) = false := by simpa using c31
         (try (have c31b1 : decide (t9015 = (t9013 == t9007)) = true := by simpa using c31))
         (try (have c31b2 : (t9015 == (t9013 == t9007)) = true := by simpa using c31))
         clear c31
         have H' := Aside0.mk H
         clear H
         go_wp2_with (first | (go_at_call 16; (with_reducible refine (iso_Single.calls kj2 _ _ l0 t9015 _ ?side1 ?side2 A30.out).mono ?_); (case side1 => repeat (first | exact (Kd.C_below HR0.out HB.out) | (with_reducible refine Kd.C_alloc ?_ _) | (with_reducible refine Kd.C_drewN ?_ _) | (with_reducible refine Kd.C_drew ?_))); (case side2 => exact HC0.out); rintro e w33 ⟨rfl, hb⟩; have n0_ := Aside0.mk (Kd.R_below (by (with_reducible repeat (first | apply Kd.R_alloc | apply Kd.R_drewN | apply Kd.R_drew)); exact HO9012.out) hb); have n1_ := Aside0.mk (below_step (by repeat (first | (with_reducible first | exact HB.out | apply below_alloc | apply pw_below_drewN | apply below_drew1) | exact HB.out)) hb); clear HO9012; clear HB; have HO9012 := n0_; have HB := n1_; clear n0_ n1_; (try clear hb); (try clear hb2); (try clear hk); (try clear hi)))
         go_meet
         case rel => exact ⟨_, (decide (t9013 > t9007)), (by first | rfl | (simp; done) | (simp [*]; done)), H', ⟨by have := HJ2.out; first | omega | exact Nat.le_refl _⟩, ⟨by (with_reducible repeat (first | apply Kd.R_alloc | apply Kd.R_drewN | apply Kd.R_drew)); exact HO9012.out⟩, ⟨by repeat (first | (with_reducible first | exact HB.out | apply below_alloc | apply pw_below_drewN | apply below_drew1) | exact HB.out)⟩⟩
       ·rw [if_neg c29] at H
        have c29b0 : (t9014 == 0) = false := beq_eq_false_iff_ne.mpr c29
        have c29b1 : (t9014 != 0) = true := bne_iff_ne.mpr c29
        have H' := Aside0.mk H
        clear H
        go_wp2
        go_meet
        case rel => exact ⟨_, (true), (by first | rfl | (simp; done) | (simp [*]; done)), H', ⟨by have := HJ2.out; first | omega | exact Nat.le_refl _⟩, ⟨by (with_reducible repeat (first | apply Kd.R_alloc | apply Kd.R_drewN | apply Kd.R_drew)); exact HO9012.out⟩, ⟨by repeat (first | (with_reducible first | exact HB.out | apply below_alloc | apply pw_below_drewN | apply below_drew1) | exact HB.out)⟩⟩
      ·rw [if_neg c28] at H
       have c28b0 : (t9010 == 0) = false := beq_eq_false_iff_ne.mpr c28
       have c28b1 : (t9010 != 0) = true := bne_iff_ne.mpr c28
       have H' := Aside0.mk H
       clear H
       go_wp2
       go_meet
       case rel => exact ⟨_, (true), (by first | rfl | (simp; done) | (simp [*]; done)), H', ⟨by have := HJ2.out; first | omega | exact Nat.le_refl _⟩, ⟨by (with_reducible repeat (first | apply Kd.R_alloc | apply Kd.R_drewN | apply Kd.R_drew)); exact HO9012.out⟩, ⟨by repeat (first | (with_reducible first | exact HB.out | apply below_alloc | apply pw_below_drewN | apply below_drew1) | exact HB.out)⟩⟩
     ·rw [if_neg c27] at H
      have c27b0 : (t9008 == 0) = false := beq_eq_false_iff_ne.mpr c27
      have c27b1 : (t9008 != 0) = true := bne_iff_ne.mpr c27
      (first | rw [c27b0] | (simp only [i64_w, i32_w]; rw [c27b0]) | skip)
      have H' := Aside0.mk H
      clear H
      go_wp2
      go_meet
      case rel => exact ⟨_, (true), (by first | rfl | (simp; done) | (simp [*]; done)), H', ⟨by have := HJ2.out; first | omega | exact Nat.le_refl _⟩, ⟨by (with_reducible repeat (first | apply Kd.R_alloc | apply Kd.R_drewN | apply Kd.R_drew)); exact HO9012.out⟩, ⟨by repeat (first | (with_reducible first | exact HB.out | apply below_alloc | apply pw_below_drewN | apply below_drew1) | exact HB.out)⟩⟩
    case rest =>
     clear HC22
     try clear c1
     try clear c2
     try clear p2
     try clear c3
     try clear c5
     try clear c8
     try clear c10
     try clear c12
     try clear c14
     try clear c24
     try clear c27
     try clear c27b0
     try clear c27b1
     try clear c28
     try clear c28b0
     try clear c28b1
     try clear c29
     try clear c29b0
     try clear c29b1
     try clear c31
     try clear c31b0
     try clear c31b1
     try clear c31b2
     try clear p2
     obtain ⟨kq, x69_21, rfl, HA, HJ21, HO_7, HB⟩ := hcut
     cases kq with
     | zero => exact absurd HA.out (by simp [papermilllaw13_IsoSingles.j1])
     | succ kj21 =>
      have H := HA.out
      clear HA
      simp only [papermilllaw13_IsoSingles.j1] at H
      by_cases c34 : x69_21 = true
      ·subst c34
       have H1 : (some false) = some r := by rw [if_pos rfl] at H; exact H
       clear H
       have H := H1
       clear H1
       obtain rfl := Option.some.inj H
       go_wp2
       go_ret
       exact ⟨by first | rfl | (simp [errW_none, errW_some] <;> rfl) | (simp [*, errW_none, errW_some] <;> rfl), by repeat (first | (with_reducible first | exact HB.out | apply below_alloc | apply pw_below_drewN | apply below_drew1) | exact HB.out)⟩
      ·replace c34 := Bool.eq_false_iff.mpr c34
       subst c34
       have H1 : ((papermilllaw13_at.f l0 a1).bind fun t9016 => (if t9016 < 0 then (papermilllaw13_IsoSingles.j2 kj21 l0 a1 t9007 t9009 t9013 t9016 true) else (papermilllaw13_IsoSingles.j2 kj21 l0 a1 t9007 t9009 t9013 t9016 (decide (t9016 ≥ 17179869184))))) = some r := by rw [if_neg (show ¬ (false = true) by decide)] at H; first | exact H | simpa using H
       clear H
       have H := H1
       clear H1
       replace H := Option.bind_eq_some_iff.mp H
       obtain ⟨t9016, A350, H⟩ := H
       replace H : (if t9016 < 0 then (papermilllaw13_IsoSingles.j2 kj21 l0 a1 t9007 t9009 t9013 t9016 true) else (papermilllaw13_IsoSingles.j2 kj21 l0 a1 t9007 t9009 t9013 t9016 (decide (t9016 ≥ 17179869184)))) = some r := H
       have A35 := Aside0.mk A350
       clear A350
       have HC36 := Aside0.mk H
       clear H
       go_upto_region 9 with (first | ((with_reducible refine gate_callee (f := 23) rfl ?_); refine goesL_ (some 72) rfl rfl Try.func23 (by kernel_rfl) rfl #[.slice A0 l0.length c0, .int .i64 a1] rfl (by (try simp only [List.map_toArray, List.map_cons, List.map_nil]); first | done | rfl | (simp only [List.length_drop, List.length_take]; rfl)) ?_; (with_reducible refine (papermilllaw13_at.calls _ _ l0 a1 t9016 _ ?side1 ?side2 A35.out).mono ?_); (case side1 => repeat (first | exact (Kd.C_below HR0.out HB.out) | (with_reducible refine Kd.C_alloc ?_ _) | (with_reducible refine Kd.C_drewN ?_ _) | (with_reducible refine Kd.C_drew ?_))); (case side2 => exact HC0.out); rintro e w37 ⟨rfl, hb⟩; refine ⟨_, rfl, ?_⟩; have n0_ := Aside0.mk (Kd.R_below (by (with_reducible repeat (first | apply Kd.R_alloc | apply Kd.R_drewN | apply Kd.R_drew)); exact HO_7.out) hb); have n1_ := Aside0.mk (below_step (by repeat (first | (with_reducible first | exact HB.out | apply below_alloc | apply pw_below_drewN | apply below_drew1) | exact HB.out)) hb); clear HO_7; clear HB; have HO_7 := n0_; have HB := n1_; clear n0_ n1_; (try clear hb); (try clear hb2); (try clear hk); (try clear hi)))
       (try simp only [Act.put, List.setIfInBounds_toArray, List.set_cons_zero, List.set_cons_succ])
       go_cut [78] (fun v78 wc => ∃ (kq : Nat) (x78_35 : Bool), v78 = .bool x78_35 ∧ Aside0 (papermilllaw13_IsoSingles.j2 kq l0 a1 t9007 t9009 t9013 t9016 x78_35 = some r) ∧ Aside0 (kq ≤ kj21) ∧ Aside0 (Kd.R k37 37 wc w.heap.size (fun _ => True) (.slice Ao25 t9009.length co25) t9009) ∧ Aside0 (Below w.heap.size w wc))
       case first =>
        have H := HC36.out
        clear HC36
        by_cases c38 : t9016 < 0
        ·rw [if_pos c38] at H
         have c38b0 : decide (t9016 < 0) = true := decide_eq_true c38
         clear c38
         (first | rw [c38b0] | (simp only [i64_w, i32_w]; rw [c38b0]) | skip)
         have H' := Aside0.mk H
         clear H
         go_wp2
         go_meet
         case rel => exact ⟨_, (true), (by first | rfl | (simp; done) | (simp [*]; done)), H', ⟨by have := HJ2.out; have := HJ21.out; first | omega | exact Nat.le_refl _⟩, ⟨by (with_reducible repeat (first | apply Kd.R_alloc | apply Kd.R_drewN | apply Kd.R_drew)); exact HO_7.out⟩, ⟨by repeat (first | (with_reducible first | exact HB.out | apply below_alloc | apply pw_below_drewN | apply below_drew1) | exact HB.out)⟩⟩
        ·rw [if_neg c38] at H
         have c38b0 : decide (t9016 < 0) = false := decide_eq_false c38
         clear c38
         (first | rw [c38b0] | (simp only [i64_w, i32_w]; rw [c38b0]) | skip)
         have H' := Aside0.mk H
         clear H
         go_wp2
         go_meet
         case rel => exact ⟨_, (decide (t9016 ≥ 17179869184)), (by first | rfl | (simp; done) | (simp [*]; done)), H', ⟨by have := HJ2.out; have := HJ21.out; first | omega | exact Nat.le_refl _⟩, ⟨by (with_reducible repeat (first | apply Kd.R_alloc | apply Kd.R_drewN | apply Kd.R_drew)); exact HO_7.out⟩, ⟨by repeat (first | (with_reducible first | exact HB.out | apply below_alloc | apply pw_below_drewN | apply below_drew1) | exact HB.out)⟩⟩
       case rest =>
        clear HC36
        try clear c1
        try clear c2
        try clear p2
        try clear c3
        try clear c5
        try clear c8
        try clear c10
        try clear c12
        try clear c14
        try clear c23
        try clear c24
        try clear c27
        try clear c27b0
        try clear c27b1
        try clear c28
        try clear c28b0
        try clear c28b1
        try clear c29
        try clear c29b0
        try clear c29b1
        try clear c31
        try clear c31b0
        try clear c31b1
        try clear c31b2
        try clear c34
        try clear c38
        try clear c38b0
        try clear p2
        obtain ⟨kq, x78_35, rfl, HA, HJ35, HO_7, HB⟩ := hcut
        cases kq with
        | zero => exact absurd HA.out (by simp [papermilllaw13_IsoSingles.j2])
        | succ kj35 =>
         have H := HA.out
         clear HA
         simp only [papermilllaw13_IsoSingles.j2] at H
         by_cases c39 : x78_35 = true
         ·subst c39
          have H1 : (if a1 < 0 then ((papermilllaw13_awake.f).bind fun t9017 => (some t9017)) else (if a1 ≥ t9007 then ((papermilllaw13_awake.f).bind fun t9018 => (some t9018)) else (some false))) = some r := by rw [if_pos rfl] at H; exact H
          clear H
          have H := H1
          clear H1
          by_cases c40 : a1 < 0
          ·rw [if_pos c40] at H
           have c40b0 : decide (a1 < 0) = true := decide_eq_true c40
           clear c40
           replace H := Option.bind_eq_some_iff.mp H
           obtain ⟨t9017, A410, H⟩ := H
           replace H : (some t9017) = some r := H
           have A41 := Aside0.mk A410
           clear A410
           obtain rfl := Option.some.inj H
           go_wp2_with (first | (go_at_call 13; (with_reducible refine (papermilllaw13_awake.calls  t9017 _ A41.out).mono ?_); rintro e w42 ⟨rfl, hb⟩; have n0_ := Aside0.mk (Kd.R_below (by (with_reducible repeat (first | apply Kd.R_alloc | apply Kd.R_drewN | apply Kd.R_drew)); exact HO_7.out) hb); have n1_ := Aside0.mk (below_step (by repeat (first | (with_reducible first | exact HB.out | apply below_alloc | apply pw_below_drewN | apply below_drew1) | exact HB.out)) hb); clear HO_7; clear HB; have HO_7 := n0_; have HB := n1_; clear n0_ n1_; (try clear hb); (try clear hb2); (try clear hk); (try clear hi)))
           go_ret
           exact ⟨by first | rfl | (simp [errW_none, errW_some] <;> rfl) | (simp [*, errW_none, errW_some] <;> rfl), by repeat (first | (with_reducible first | exact HB.out | apply below_alloc | apply pw_below_drewN | apply below_drew1) | exact HB.out)⟩
          ·rw [if_neg c40] at H
           have c40b0 : decide (a1 < 0) = false := decide_eq_false c40
           clear c40
           by_cases c43 : a1 ≥ t9007
           ·rw [if_pos c43] at H
            have c43b0 : decide (t9007 ≤ a1) = true := decide_eq_true c43
            clear c43
            replace H := Option.bind_eq_some_iff.mp H
            obtain ⟨t9018, A440, H⟩ := H
            replace H : (some t9018) = some r := H
            have A44 := Aside0.mk A440
            clear A440
            obtain rfl := Option.some.inj H
            go_wp2_with (first | (go_at_call 13; (with_reducible refine (papermilllaw13_awake.calls  t9018 _ A44.out).mono ?_); rintro e w45 ⟨rfl, hb⟩; have n0_ := Aside0.mk (Kd.R_below (by (with_reducible repeat (first | apply Kd.R_alloc | apply Kd.R_drewN | apply Kd.R_drew)); exact HO_7.out) hb); have n1_ := Aside0.mk (below_step (by repeat (first | (with_reducible first | exact HB.out | apply below_alloc | apply pw_below_drewN | apply below_drew1) | exact HB.out)) hb); clear HO_7; clear HB; have HO_7 := n0_; have HB := n1_; clear n0_ n1_; (try clear hb); (try clear hb2); (try clear hk); (try clear hi)))
            go_ret
            exact ⟨by first | rfl | (simp [errW_none, errW_some] <;> rfl) | (simp [*, errW_none, errW_some] <;> rfl), by repeat (first | (with_reducible first | exact HB.out | apply below_alloc | apply pw_below_drewN | apply below_drew1) | exact HB.out)⟩
           ·rw [if_neg c43] at H
            have c43b0 : decide (t9007 ≤ a1) = false := decide_eq_false c43
            clear c43
            obtain rfl := Option.some.inj H
            go_wp2
            go_ret
            exact ⟨by first | rfl | (simp [errW_none, errW_some] <;> rfl) | (simp [*, errW_none, errW_some] <;> rfl), by repeat (first | (with_reducible first | exact HB.out | apply below_alloc | apply pw_below_drewN | apply below_drew1) | exact HB.out)⟩
         ·replace c39 := Bool.eq_false_iff.mpr c39
          subst c39
          have H1 : ((iso_Find.f kj35 l0 t9016 (wrap64 (t9016 + 1))).bind fun bt9019 => (if bt9019.2 = 0 then ((span_Has.f bt9019.1 a1).bind fun t9023 => (if t9023 = true then ((span_Has.f t9009 t9016).bind fun t9024 => (papermilllaw13_IsoSingles.j3 kj35 a1 t9007 t9013 bt9019.1 (!t9024))) else (papermilllaw13_IsoSingles.j3 kj35 a1 t9007 t9013 bt9019.1 true))) else (papermilllaw13_IsoSingles.j3 kj35 a1 t9007 t9013 bt9019.1 true))) = some r := by rw [if_neg (show ¬ (false = true) by decide)] at H; first | exact H | simpa using H
          clear H
          have H := H1
          clear H1
          replace H := Option.bind_eq_some_iff.mp H
          obtain ⟨⟨t9019, t9022⟩, A460, H⟩ := H
          replace H : (if t9022 = 0 then ((span_Has.f t9019 a1).bind fun t9023 => (if t9023 = true then ((span_Has.f t9009 t9016).bind fun t9024 => (papermilllaw13_IsoSingles.j3 kj35 a1 t9007 t9013 t9019 (!t9024))) else (papermilllaw13_IsoSingles.j3 kj35 a1 t9007 t9013 t9019 true))) else (papermilllaw13_IsoSingles.j3 kj35 a1 t9007 t9013 t9019 true)) = some r := H
          have A46 := Aside0.mk A460
          clear A460
          have HC47 := Aside0.mk H
          clear H
          go_upto_region 12 with (first | ((with_reducible refine gate_callee (f := 31) rfl ?_); refine goesL_ (some 95) rfl rfl Try.func31 (by kernel_rfl) rfl #[.slice A0 l0.length c0, .agg #[.int .i64 t9016, .int .i64 (wrap64 (t9016 + 1))]] rfl (by (try simp only [List.map_toArray, List.map_cons, List.map_nil]); first | done | rfl | (simp only [List.length_drop, List.length_take]; rfl)) ?_; (with_reducible refine (iso_Find.calls kj35 _ _ l0 t9016 (wrap64 (t9016 + 1)) t9019 t9022 _ ?side1 ?side2 A46.out).mono ?_); (case side1 => repeat (first | exact (Kd.C_below HR0.out HB.out) | (with_reducible refine Kd.C_alloc ?_ _) | (with_reducible refine Kd.C_drewN ?_ _) | (with_reducible refine Kd.C_drew ?_))); (case side2 => exact HC0.out); rintro e w48 ⟨v9020, rfl, ho0, hb⟩; refine ⟨_, rfl, ?_⟩; have n0_ := Aside0.mk (Kd.R_elder' (by (with_reducible repeat (first | apply Kd.R_alloc | apply Kd.R_drewN | apply Kd.R_drew)); exact HO_7.out) (Kd.R_base ho0) hb); have n1_ := Aside0.mk (Kd.R_lower (Kd.R_new' ho0 (Kd.R_lt (by (with_reducible repeat (first | apply Kd.R_alloc | apply Kd.R_drewN | apply Kd.R_drew)); exact HO_7.out))) (below_size (by repeat (first | (with_reducible first | exact HB.out | apply below_alloc | apply pw_below_drewN | apply below_drew1) | exact HB.out)))); have n2_ := Aside0.mk (below_step (by repeat (first | (with_reducible first | exact HB.out | apply below_alloc | apply pw_below_drewN | apply below_drew1) | exact HB.out)) hb); clear HO_7; clear HB; have HO_7 := n0_; have HO9021 := n1_; have HB := n2_; clear n0_ n1_ n2_; (try clear hb); (try clear hb2); (try clear hk); (try clear hi); (try clear ho0)))
          (try simp only [Act.put, List.setIfInBounds_toArray, List.set_cons_zero, List.set_cons_succ])
          go_cut [111] (fun v111 wc => ∃ (kq : Nat) (x111_46 : Bool), v111 = .bool x111_46 ∧ Aside0 (papermilllaw13_IsoSingles.j3 kq a1 t9007 t9013 t9019 x111_46 = some r) ∧ Aside0 (kq ≤ kj35) ∧ Aside0 (Kd.R k37 37 wc w.heap.size (fun _ => True) v9020 t9019) ∧ Aside0 (Below w.heap.size w wc))
          case first =>
           have H := HC47.out
           clear HC47
           by_cases c49 : t9022 = 0
           ·rw [if_pos c49] at H
            have c49b0 : (t9022 == 0) = true := beq_iff_eq.mpr c49
            have c49b1 : (t9022 != 0) = false := bne_eq_false_iff_eq.mpr c49
            clear c49
            (first | rw [c49b0] | (simp only [i64_w, i32_w]; rw [c49b0]) | skip)
            replace H := Option.bind_eq_some_iff.mp H
            obtain ⟨t9023, A500, H⟩ := H
            replace H : (if t9023 = true then ((span_Has.f t9009 t9016).bind fun t9024 => (papermilllaw13_IsoSingles.j3 kj35 a1 t9007 t9013 t9019 (!t9024))) else (papermilllaw13_IsoSingles.j3 kj35 a1 t9007 t9013 t9019 true)) = some r := H
            have A50 := Aside0.mk A500
            clear A500
            by_cases c51 : t9023 = true
            ·subst c51
             have H1 : ((span_Has.f t9009 t9016).bind fun t9024 => (papermilllaw13_IsoSingles.j3 kj35 a1 t9007 t9013 t9019 (!t9024))) = some r := by rw [if_pos rfl] at H; exact H
             clear H
             have H := H1
             clear H1
             replace H := Option.bind_eq_some_iff.mp H
             obtain ⟨t9024, A520, H⟩ := H
             replace H : (papermilllaw13_IsoSingles.j3 kj35 a1 t9007 t9013 t9019 (!t9024)) = some r := H
             have A52 := Aside0.mk A520
             clear A520
             have H' := Aside0.mk H
             clear H
             obtain ⟨Ao53, co53, eo53⟩ := Kd.R_slice HO9021.out
             subst eo53
             go_wp2_with (first | (go_at_call 35; (with_reducible refine (span_Has.calls _ _ t9019 a1 true _ ?side1 ?side2 A50.out).mono ?_); (case side1 => repeat (first | exact (Kd.R_reads' HO9021.out).2.2 | (with_reducible refine Kd.C_alloc ?_ _) | (with_reducible refine Kd.C_drewN ?_ _) | (with_reducible refine Kd.C_drew ?_))); (case side2 => exact (Kd.R_reads' HO9021.out).2.1); rintro e w54 ⟨rfl, hb⟩; have n0_ := Aside0.mk (Kd.R_below (by (with_reducible repeat (first | apply Kd.R_alloc | apply Kd.R_drewN | apply Kd.R_drew)); exact HO_7.out) hb); have n1_ := Aside0.mk (Kd.R_below (by (with_reducible repeat (first | apply Kd.R_alloc | apply Kd.R_drewN | apply Kd.R_drew)); exact HO9021.out) hb); have n2_ := Aside0.mk (below_step (by repeat (first | (with_reducible first | exact HB.out | apply below_alloc | apply pw_below_drewN | apply below_drew1) | exact HB.out)) hb); clear HO_7; clear HO9021; clear HB; have HO_7 := n0_; have HO9021 := n1_; have HB := n2_; clear n0_ n1_ n2_; (try clear hb); (try clear hb2); (try clear hk); (try clear hi)) | (go_at_call 35; (with_reducible refine (span_Has.calls _ _ t9009 t9016 t9024 _ ?side1 ?side2 A52.out).mono ?_); (case side1 => repeat (first | exact (Kd.R_reads' HO_7.out).2.2 | (with_reducible refine Kd.C_alloc ?_ _) | (with_reducible refine Kd.C_drewN ?_ _) | (with_reducible refine Kd.C_drew ?_))); (case side2 => exact (Kd.R_reads' HO_7.out).2.1); rintro e w55 ⟨rfl, hb⟩; have n0_ := Aside0.mk (Kd.R_below (by (with_reducible repeat (first | apply Kd.R_alloc | apply Kd.R_drewN | apply Kd.R_drew)); exact HO_7.out) hb); have n1_ := Aside0.mk (Kd.R_below (by (with_reducible repeat (first | apply Kd.R_alloc | apply Kd.R_drewN | apply Kd.R_drew)); exact HO9021.out) hb); have n2_ := Aside0.mk (below_step (by repeat (first | (with_reducible first | exact HB.out | apply below_alloc | apply pw_below_drewN | apply below_drew1) | exact HB.out)) hb); clear HO_7; clear HO9021; clear HB; have HO_7 := n0_; have HO9021 := n1_; have HB := n2_; clear n0_ n1_ n2_; (try clear hb); (try clear hb2); (try clear hk); (try clear hi)))
             go_meet
             case rel => exact ⟨_, (!t9024), (by first | rfl | (simp; done) | (simp [*]; done)), H', ⟨by have := HJ2.out; have := HJ21.out; have := HJ35.out; first | omega | exact Nat.le_refl _⟩, ⟨by (with_reducible repeat (first | apply Kd.R_alloc | apply Kd.R_drewN | apply Kd.R_drew)); exact Kd.R_mono HO9021.out (fun _ hk => trivial)⟩, ⟨by repeat (first | (with_reducible first | exact HB.out | apply below_alloc | apply pw_below_drewN | apply below_drew1) | exact HB.out)⟩⟩
            ·replace c51 := Bool.eq_false_iff.mpr c51
             subst c51
             have H1 : (papermilllaw13_IsoSingles.j3 kj35 a1 t9007 t9013 t9019 true) = some r := by rw [if_neg (show ¬ (false = true) by decide)] at H; first | exact H | simpa using H
             clear H
             have H := H1
             clear H1
             have H' := Aside0.mk H
             clear H
             obtain ⟨Ao56, co56, eo56⟩ := Kd.R_slice HO9021.out
             subst eo56
             go_wp2_with (first | (go_at_call 35; (with_reducible refine (span_Has.calls _ _ t9019 a1 false _ ?side1 ?side2 A50.out).mono ?_); (case side1 => repeat (first | exact (Kd.R_reads' HO9021.out).2.2 | (with_reducible refine Kd.C_alloc ?_ _) | (with_reducible refine Kd.C_drewN ?_ _) | (with_reducible refine Kd.C_drew ?_))); (case side2 => exact (Kd.R_reads' HO9021.out).2.1); rintro e w57 ⟨rfl, hb⟩; have n0_ := Aside0.mk (Kd.R_below (by (with_reducible repeat (first | apply Kd.R_alloc | apply Kd.R_drewN | apply Kd.R_drew)); exact HO_7.out) hb); have n1_ := Aside0.mk (Kd.R_below (by (with_reducible repeat (first | apply Kd.R_alloc | apply Kd.R_drewN | apply Kd.R_drew)); exact HO9021.out) hb); have n2_ := Aside0.mk (below_step (by repeat (first | (with_reducible first | exact HB.out | apply below_alloc | apply pw_below_drewN | apply below_drew1) | exact HB.out)) hb); clear HO_7; clear HO9021; clear HB; have HO_7 := n0_; have HO9021 := n1_; have HB := n2_; clear n0_ n1_ n2_; (try clear hb); (try clear hb2); (try clear hk); (try clear hi)))
             go_meet
             case rel => exact ⟨_, (true), (by first | rfl | (simp; done) | (simp [*]; done)), H', ⟨by have := HJ2.out; have := HJ21.out; have := HJ35.out; first | omega | exact Nat.le_refl _⟩, ⟨by (with_reducible repeat (first | apply Kd.R_alloc | apply Kd.R_drewN | apply Kd.R_drew)); exact Kd.R_mono HO9021.out (fun _ hk => trivial)⟩, ⟨by repeat (first | (with_reducible first | exact HB.out | apply below_alloc | apply pw_below_drewN | apply below_drew1) | exact HB.out)⟩⟩
           ·rw [if_neg c49] at H
            have c49b0 : (t9022 == 0) = false := beq_eq_false_iff_ne.mpr c49
            have c49b1 : (t9022 != 0) = true := bne_iff_ne.mpr c49
            (first | rw [c49b0] | (simp only [i64_w, i32_w]; rw [c49b0]) | skip)
            have H' := Aside0.mk H
            clear H
            go_wp2
            go_meet
            case rel => exact ⟨_, (true), (by first | rfl | (simp; done) | (simp [*]; done)), H', ⟨by have := HJ2.out; have := HJ21.out; have := HJ35.out; first | omega | exact Nat.le_refl _⟩, ⟨by (with_reducible repeat (first | apply Kd.R_alloc | apply Kd.R_drewN | apply Kd.R_drew)); exact Kd.R_mono HO9021.out (fun _ hk => trivial)⟩, ⟨by repeat (first | (with_reducible first | exact HB.out | apply below_alloc | apply pw_below_drewN | apply below_drew1) | exact HB.out)⟩⟩
          case rest =>
           clear HC47
           try clear c1
           try clear c2
           try clear p2
           try clear c3
           try clear c4
           try clear c5
           try clear p6
           try clear c8
           try clear c10
           try clear c12
           try clear c14
           try clear c23
           try clear c24
           try clear c27
           try clear c27b0
           try clear c27b1
           try clear c28
           try clear c28b0
           try clear c28b1
           try clear c29
           try clear c29b0
           try clear c29b1
           try clear c31
           try clear c31b0
           try clear c31b1
           try clear c31b2
           try clear c34
           try clear c38
           try clear c38b0
           try clear c39
           try clear c40
           try clear c40b0
           try clear c43
           try clear c43b0
           try clear c49
           try clear c49b0
           try clear c49b1
           try clear c51
           try clear p2
           obtain ⟨kq, x111_46, rfl, HA, HJ46, HO_12, HB⟩ := hcut
           cases kq with
           | zero => exact absurd HA.out (by simp [papermilllaw13_IsoSingles.j3])
           | succ kj46 =>
            have H := HA.out
            clear HA
            simp only [papermilllaw13_IsoSingles.j3] at H
            by_cases c58 : x111_46 = true
            ·subst c58
             have H1 : (some false) = some r := by rw [if_pos rfl] at H; exact H
             clear H
             have H := H1
             clear H1
             obtain rfl := Option.some.inj H
             go_wp2
             go_ret
             exact ⟨by first | rfl | (simp [errW_none, errW_some] <;> rfl) | (simp [*, errW_none, errW_some] <;> rfl), by repeat (first | (with_reducible first | exact HB.out | apply below_alloc | apply pw_below_drewN | apply below_drew1) | exact HB.out)⟩
            ·replace c58 := Bool.eq_false_iff.mpr c58
             subst c58
             have H1 : (if t9013 = t9007 then ((papermillref04_Same.f kj46 t9019 (([(⟨a1, wrap64 (a1 + 1)⟩ : S37)] : List (S37)))).bind fun t9028 => (if t9028 = true then ((papermilllaw13_awake.f).bind fun t9029 => (some t9029)) else (some false))) else ((papermilllaw13_awake.f).bind fun t9030 => (some t9030))) = some r := by rw [if_neg (show ¬ (false = true) by decide)] at H; first | exact H | simpa using H
             clear H
             have H := H1
             clear H1
             by_cases c59 : t9013 = t9007
             ·rw [if_pos c59] at H
              have c59b0 : (t9013 == t9007) = true := beq_iff_eq.mpr c59
              have c59b1 : (t9013 != t9007) = false := bne_eq_false_iff_eq.mpr c59
              clear c59
              obtain ⟨y9025, hy9025⟩ : ∃ y_ : List (S37), y_ = (([(⟨a1, wrap64 (a1 + 1)⟩ : S37)] : List (S37))) := ⟨_, rfl⟩
              replace H : ((papermillref04_Same.f kj46 t9019 y9025).bind fun t9028 => (if t9028 = true then ((papermilllaw13_awake.f).bind fun t9029 => (some t9029)) else (some false))) = some r := by first | (rw [hy9025]; with_reducible exact H) | (have H2_ := (Option.bind_some _ _).symm.trans H; rw [hy9025]; with_reducible exact H2_) | (have H2_ := (Option.bind_some _ _).symm.trans H; with_reducible exact H2_) | with_reducible exact H | (rw [hy9025]; exact H) | exact H
              have Ny9025 := Aside0.mk hy9025
              clear hy9025
              replace H := Option.bind_eq_some_iff.mp H
              obtain ⟨t9028, A600, H⟩ := H
              replace H : (if t9028 = true then ((papermilllaw13_awake.f).bind fun t9029 => (some t9029)) else (some false)) = some r := H
              have A60 := Aside0.mk A600
              clear A600
              by_cases c61 : t9028 = true
              ·subst c61
               have H1 : ((papermilllaw13_awake.f).bind fun t9029 => (some t9029)) = some r := by rw [if_pos rfl] at H; exact H
               clear H
               have H := H1
               clear H1
               replace H := Option.bind_eq_some_iff.mp H
               obtain ⟨t9029, A620, H⟩ := H
               replace H : (some t9029) = some r := H
               have A62 := Aside0.mk A620
               clear A620
               obtain rfl := Option.some.inj H
               go_wp2_with (first | ((with_reducible refine gate_dst (N := 121) rfl ?_); (try (refine gate_guard (by rfl) ?_; dsimp only)); refine Kd.R_lit k37 _ 37 ?hg (N := 121) ?hd (xs := ([(⟨a1, wrap64 (a1 + 1)⟩ : S37)] : List (S37))) (inner := [.int .i64 a1, .int .i64 (wrap64 (a1 + 1))]) (ok := fun _ => True) (okp := fun _ => True) ?hr ?hp (fun _ hk => hk) trivial (Below.refl _ _) (Nat.le_refl _) (by simp) ?_; (case hd => rfl); (case hg => rfl); (case hr => first | (go_simp; done) | (go_simp; rfl)); (case hp => exact (Reps.c2 (show Kd.M k37 _ _ _ (⟨a1, wrap64 (a1 + 1)⟩ : S37) [.int .i64 a1, .int .i64 (wrap64 (a1 + 1))] from (k37_mkM _ _ _ (⟨a1, wrap64 (a1 + 1)⟩ : S37) )) (Reps.none _ _))); intro v9026 w63 ho64 hb hg_ hnew_; clear hg_ hnew_; (first | rw [← Ny9025.out] at ho64 | (simp only [Int.reduceToNat] at ho64; rw [← Ny9025.out] at ho64)); have n0_ := Aside0.mk (Kd.R_elder' (by (with_reducible repeat (first | apply Kd.R_alloc | apply Kd.R_drewN | apply Kd.R_drew)); exact HO_12.out) (Kd.R_base ho64) hb); have n1_ := Aside0.mk (Kd.R_lower (Kd.R_new' ho64 (Kd.R_lt (by (with_reducible repeat (first | apply Kd.R_alloc | apply Kd.R_drewN | apply Kd.R_drew)); exact HO_12.out))) (below_size (by repeat (first | (with_reducible first | exact HB.out | apply below_alloc | apply pw_below_drewN | apply below_drew1) | exact HB.out)))); have n2_ := Aside0.mk (below_step (by repeat (first | (with_reducible first | exact HB.out | apply below_alloc | apply pw_below_drewN | apply below_drew1) | exact HB.out)) hb); clear HO_12; clear HB; have HO_12 := n0_; have HO9027 := n1_; have HB := n2_; clear n0_ n1_ n2_; clear hb ho64; obtain ⟨Ao65, co65, eo65⟩ := Kd.R_slice HO_12.out; subst eo65; obtain ⟨Ao66, co66, eo66⟩ := Kd.R_slice HO9027.out; subst eo66) | (go_at_call 33; (with_reducible refine (papermillref04_Same.calls kj46 _ _ t9019 _ _ y9025 true _ ?side1 ?side2 ?side3 ?side4 A60.out).mono ?_); (case side1 => repeat (first | exact (Kd.R_reads' HO_12.out).2.2 | (with_reducible refine Kd.C_alloc ?_ _) | (with_reducible refine Kd.C_drewN ?_ _) | (with_reducible refine Kd.C_drew ?_))); (case side2 => exact (Kd.R_reads' HO_12.out).2.1); (case side3 => repeat (first | exact (Kd.R_reads' HO9027.out).2.2 | (with_reducible refine Kd.C_alloc ?_ _) | (with_reducible refine Kd.C_drewN ?_ _) | (with_reducible refine Kd.C_drew ?_))); (case side4 => exact (Kd.R_reads' HO9027.out).2.1); rintro e w' ⟨rfl, ⟨nd, rfl⟩⟩) | (go_at_call 13; (with_reducible refine (papermilllaw13_awake.calls  t9029 _ A62.out).mono ?_); rintro e w67 ⟨rfl, hb⟩; have n0_ := Aside0.mk (Kd.R_below (by (with_reducible repeat (first | apply Kd.R_alloc | apply Kd.R_drewN | apply Kd.R_drew)); exact HO_12.out) hb); have n1_ := Aside0.mk (Kd.R_below (by (with_reducible repeat (first | apply Kd.R_alloc | apply Kd.R_drewN | apply Kd.R_drew)); exact HO9027.out) hb); have n2_ := Aside0.mk (below_step (by repeat (first | (with_reducible first | exact HB.out | apply below_alloc | apply pw_below_drewN | apply below_drew1) | exact HB.out)) hb); clear HO_12; clear HO9027; clear HB; have HO_12 := n0_; have HO9027 := n1_; have HB := n2_; clear n0_ n1_ n2_; (try clear hb); (try clear hb2); (try clear hk); (try clear hi)))
               go_ret
               exact ⟨by first | rfl | (simp [errW_none, errW_some] <;> rfl) | (simp [*, errW_none, errW_some] <;> rfl), by repeat (first | (with_reducible first | exact HB.out | apply below_alloc | apply pw_below_drewN | apply below_drew1) | exact HB.out)⟩
              ·replace c61 := Bool.eq_false_iff.mpr c61
               subst c61
               have H1 : (some false) = some r := by rw [if_neg (show ¬ (false = true) by decide)] at H; first | exact H | simpa using H
               clear H
               have H := H1
               clear H1
               obtain rfl := Option.some.inj H
               go_wp2_with (first | ((with_reducible refine gate_dst (N := 121) rfl ?_); (try (refine gate_guard (by rfl) ?_; dsimp only)); refine Kd.R_lit k37 _ 37 ?hg (N := 121) ?hd (xs := ([(⟨a1, wrap64 (a1 + 1)⟩ : S37)] : List (S37))) (inner := [.int .i64 a1, .int .i64 (wrap64 (a1 + 1))]) (ok := fun _ => True) (okp := fun _ => True) ?hr ?hp (fun _ hk => hk) trivial (Below.refl _ _) (Nat.le_refl _) (by simp) ?_; (case hd => rfl); (case hg => rfl); (case hr => first | (go_simp; done) | (go_simp; rfl)); (case hp => exact (Reps.c2 (show Kd.M k37 _ _ _ (⟨a1, wrap64 (a1 + 1)⟩ : S37) [.int .i64 a1, .int .i64 (wrap64 (a1 + 1))] from (k37_mkM _ _ _ (⟨a1, wrap64 (a1 + 1)⟩ : S37) )) (Reps.none _ _))); intro v9026 w68 ho69 hb hg_ hnew_; clear hg_ hnew_; (first | rw [← Ny9025.out] at ho69 | (simp only [Int.reduceToNat] at ho69; rw [← Ny9025.out] at ho69)); have n0_ := Aside0.mk (Kd.R_elder' (by (with_reducible repeat (first | apply Kd.R_alloc | apply Kd.R_drewN | apply Kd.R_drew)); exact HO_12.out) (Kd.R_base ho69) hb); have n1_ := Aside0.mk (Kd.R_lower (Kd.R_new' ho69 (Kd.R_lt (by (with_reducible repeat (first | apply Kd.R_alloc | apply Kd.R_drewN | apply Kd.R_drew)); exact HO_12.out))) (below_size (by repeat (first | (with_reducible first | exact HB.out | apply below_alloc | apply pw_below_drewN | apply below_drew1) | exact HB.out)))); have n2_ := Aside0.mk (below_step (by repeat (first | (with_reducible first | exact HB.out | apply below_alloc | apply pw_below_drewN | apply below_drew1) | exact HB.out)) hb); clear HO_12; clear HB; have HO_12 := n0_; have HO9027 := n1_; have HB := n2_; clear n0_ n1_ n2_; clear hb ho69; obtain ⟨Ao70, co70, eo70⟩ := Kd.R_slice HO_12.out; subst eo70; obtain ⟨Ao71, co71, eo71⟩ := Kd.R_slice HO9027.out; subst eo71) | (go_at_call 33; (with_reducible refine (papermillref04_Same.calls kj46 _ _ t9019 _ _ y9025 false _ ?side1 ?side2 ?side3 ?side4 A60.out).mono ?_); (case side1 => repeat (first | exact (Kd.R_reads' HO_12.out).2.2 | (with_reducible refine Kd.C_alloc ?_ _) | (with_reducible refine Kd.C_drewN ?_ _) | (with_reducible refine Kd.C_drew ?_))); (case side2 => exact (Kd.R_reads' HO_12.out).2.1); (case side3 => repeat (first | exact (Kd.R_reads' HO9027.out).2.2 | (with_reducible refine Kd.C_alloc ?_ _) | (with_reducible refine Kd.C_drewN ?_ _) | (with_reducible refine Kd.C_drew ?_))); (case side4 => exact (Kd.R_reads' HO9027.out).2.1); rintro e w' ⟨rfl, ⟨nd, rfl⟩⟩))
               go_ret
               exact ⟨by first | rfl | (simp [errW_none, errW_some] <;> rfl) | (simp [*, errW_none, errW_some] <;> rfl), by repeat (first | (with_reducible first | exact HB.out | apply below_alloc | apply pw_below_drewN | apply below_drew1) | exact HB.out)⟩
             ·rw [if_neg c59] at H
              have c59b0 : (t9013 == t9007) = false := beq_eq_false_iff_ne.mpr c59
              have c59b1 : (t9013 != t9007) = true := bne_iff_ne.mpr c59
              replace H := Option.bind_eq_some_iff.mp H
              obtain ⟨t9030, A720, H⟩ := H
              replace H : (some t9030) = some r := H
              have A72 := Aside0.mk A720
              clear A720
              obtain rfl := Option.some.inj H
              go_wp2_with (first | (go_at_call 13; (with_reducible refine (papermilllaw13_awake.calls  t9030 _ A72.out).mono ?_); rintro e w73 ⟨rfl, hb⟩; have n0_ := Aside0.mk (Kd.R_below (by (with_reducible repeat (first | apply Kd.R_alloc | apply Kd.R_drewN | apply Kd.R_drew)); exact HO_12.out) hb); have n1_ := Aside0.mk (below_step (by repeat (first | (with_reducible first | exact HB.out | apply below_alloc | apply pw_below_drewN | apply below_drew1) | exact HB.out)) hb); clear HO_12; clear HB; have HO_12 := n0_; have HB := n1_; clear n0_ n1_; (try clear hb); (try clear hb2); (try clear hk); (try clear hi)))
              go_ret
              exact ⟨by first | rfl | (simp [errW_none, errW_some] <;> rfl) | (simp [*, errW_none, errW_some] <;> rfl), by repeat (first | (with_reducible first | exact HB.out | apply below_alloc | apply pw_below_drewN | apply below_drew1) | exact HB.out)⟩

end Go.Proofs.Ytcnkmdonbpgjiaa.G

namespace Go.Proofs.Ytcnkmdonbpgjiaa.G
open Go.RowKit Go.Proofs.YtcnkmdonbpgjiaaW.PrintWords Go.Proofs.YtcnkmdonbpgjiaaW.PrintLast Go.Proofs.YtcnkmdonbpgjiaaW.PrintMore
attribute [local go_sem] max2_int min2_int max_two min_two max_three min_three max_four min_four   -- for this text's walks alone
set_option linter.unusedVariables false
set_option linter.unusedSimpArgs false

def papermillref04_Check.l0 : Nat → List (S37) → Int → Option (Int)
 | 0, _, _ => none
 | k + 1, x0, x3 => if x3 < (x0.length : Int) then (if 0 ≤ x3 then (if ((rd_T37 x0 x3).f0) < 0 then (some 1) else (if ((rd_T37 x0 x3).f0) > ((rd_T37 x0 x3).f1) then (some 1) else (if ((rd_T37 x0 x3).f1) > 17179869184 then (some 1) else (papermillref04_Check.l0 k x0 (wrap64 (x3 + 1)))))) else (none)) else (some 0)
def papermillref04_Check.f (k : Nat) (l0 : List (S37)) : Option (Int) := if (l0.length : Int) > 256 then (some 8) else (papermillref04_Check.l0 k l0 0)
theorem papermillref04_Check.mono_l : ∀ k, (∀ y0 y1, LeO (papermillref04_Check.l0 k y0 y1) (papermillref04_Check.l0 (k + 1) y0 y1))
 | 0 => fun _ _ r h => by simp [papermillref04_Check.l0] at h
 | k + 1 => by
  have ih0 := papermillref04_Check.mono_l k
  ·intro y0 y1
   unfold papermillref04_Check.l0
   repeat' first
   | (with_reducible exact ih0 _ _)
   | (with_reducible exact LeO.refl _)
   | (with_reducible exact LeO.none _)
   | (with_reducible refine LeO.ite ?_ ?_)
   | (with_reducible refine LeO.bind ?_ (fun _ => ?_))
   | exact ih0 _ _
   | exact LeO.none _
   | refine LeO.ite ?_ ?_
   | refine LeO.bind ?_ (fun _ => ?_)
theorem papermillref04_Check.mono : ∀ a0 k, LeO (papermillref04_Check.f k a0) (papermillref04_Check.f (k + 1) a0) := by
 intro a0 k
 have ih0 := papermillref04_Check.mono_l k
 unfold papermillref04_Check.f
 repeat' first
   | (with_reducible exact ih0 _ _)
   | (with_reducible exact LeO.refl _)
   | (with_reducible exact LeO.none _)
   | (with_reducible refine LeO.ite ?_ ?_)
   | (with_reducible refine LeO.bind ?_ (fun _ => ?_))
   | exact ih0 _ _
   | exact LeO.none _
   | refine LeO.ite ?_ ?_
   | refine LeO.bind ?_ (fun _ => ?_)
set_option maxHeartbeats 8000000 in
set_option maxRecDepth 100000 in
theorem papermillref04_Check.calls (k : Nat) (A0 : Option Addr) (c0 : Nat) (l0 : List (S37)) (r : Int) (w : World) (hr0 : Kd.C k37 w A0 l0.length l0) (hc0 : l0.length ≤ c0) (h : papermillref04_Check.f k l0 = some r) :
  Calls Try.prog 75 #[.slice A0 l0.length c0] w fun e w' => e = .returned (.int .i64 r) ∧ Drawn0 w w' := by
 have HR0 := Aside0.mk hr0
 have HC0 := Aside0.mk hc0
 clear hr0 hc0
 have H : (if (l0.length : Int) > 256 then (some 8) else (papermillref04_Check.l0 k l0 0)) = some r := h
 clear h
 by_cases c2 : (l0.length : Int) > 256
 ·rw [if_pos c2] at H
  have c2b0 : decide (256 < (l0.length : Int)) = true := decide_eq_true c2
  have c2b1 : decide (256 < l0.length) = true := decide_eq_true (by omega)
  clear c2
  obtain rfl := Option.some.inj H
  go_enter Try.func75, Try.ntmps75
  go_wp2
  repeat (go_quiet (fail); try go_wp2)
  go_ret
  exact ⟨by first | rfl | (simp; done) | (simp [*]; done), by repeat (first | exact Drawn0.refl _ | apply Drawn0.step)⟩
 ·rw [if_neg c2] at H
  have c2b0 : decide (256 < (l0.length : Int)) = false := decide_eq_false c2
  have c2b1 : decide (256 < l0.length) = false := decide_eq_false (by omega)
  clear c2
  have H' := Aside0.mk H
  clear H
  go_enter Try.func75, Try.ntmps75
  go_wp2
  repeat (go_quiet (fail); try go_wp2)
  go_loopg [3] k (fun kq v3 w' => ∃ (x3_1 : Int), v3 = .int .i64 x3_1 ∧ Aside0 (papermillref04_Check.l0 kq l0 x3_1 = some r) ∧ Aside0 (kq ≤ k) ∧ Drawn0 w w')
  case atStart => exact ⟨(0), (by first | rfl | (simp; done) | (simp [*]; done)), H', ⟨Nat.le_refl _⟩, by repeat (first | exact Drawn0.refl _ | apply Drawn0.step)⟩
  case round =>
   clear H'
   try clear c2
   try clear c2b0
   try clear c2b1
   try clear p2
   obtain ⟨x3_1, rfl, HA, HK1, ⟨m1, rfl⟩⟩ := hrel
   cases gk with
   | zero => exact absurd HA.out (by simp [papermillref04_Check.l0])
   | succ k1 =>
    have H := HA.out
    clear HA
    simp only [papermillref04_Check.l0] at H
    by_cases c3 : x3_1 < (l0.length : Int)
    ·rw [if_pos c3] at H
     have c3b0 : decide (x3_1 < (l0.length : Int)) = true := decide_eq_true c3
     clear c3
     by_cases c4 : 0 ≤ x3_1
     ·rw [if_pos c4] at H
      have c4b0 : decide (0 ≤ x3_1) = true := decide_eq_true c4
      clear c4
      by_cases c5 : ((rd_T37 l0 x3_1).f0) < 0
      ·rw [if_pos c5] at H
       have c5b0 : decide (((rd_T37 l0 x3_1).f0) < 0) = true := decide_eq_true c5
       clear c5
       obtain rfl := Option.some.inj H
       have p76001 : 0 ≤ (x3_1 : Int) := of_decide_eq_true (by assumption)
       have q76001 : x3_1 < (l0.length : Int) := of_decide_eq_true (by assumption)
       obtain ⟨ad76001, e76001, hx76001_0, hx76001_1⟩ := at_T37 HR0.out x3_1 p76001 q76001
       cases e76001
       replace p76001 := eq_true p76001
       replace q76001 := eq_true q76001
       go_wp2
       repeat (go_quiet (fail); try go_wp2)
       go_ret
       exact ⟨by first | rfl | (simp; done) | (simp [*]; done), by repeat (first | exact Drawn0.refl _ | apply Drawn0.step)⟩
      ·rw [if_neg c5] at H
       have c5b0 : decide (((rd_T37 l0 x3_1).f0) < 0) = false := decide_eq_false c5
       clear c5
       by_cases c6 : ((rd_T37 l0 x3_1).f0) > ((rd_T37 l0 x3_1).f1)
       ·rw [if_pos c6] at H
        have c6b0 : decide (((rd_T37 l0 x3_1).f1) < ((rd_T37 l0 x3_1).f0)) = true := decide_eq_true c6
        clear c6
        obtain rfl := Option.some.inj H
        have p76001 : 0 ≤ (x3_1 : Int) := of_decide_eq_true (by assumption)
        have q76001 : x3_1 < (l0.length : Int) := of_decide_eq_true (by assumption)
        obtain ⟨ad76001, e76001, hx76001_0, hx76001_1⟩ := at_T37 HR0.out x3_1 p76001 q76001
        cases e76001
        replace p76001 := eq_true p76001
        replace q76001 := eq_true q76001
        have p76002 : 0 ≤ (x3_1 : Int) := of_decide_eq_true (by assumption)
        have q76002 : x3_1 < (l0.length : Int) := of_decide_eq_true (by assumption)
        obtain ⟨ad76002, e76002, hx76002_0, hx76002_1⟩ := at_T37 HR0.out x3_1 p76002 q76002
        obtain rfl : ad76001 = ad76002 := (by injection e76002)
        replace p76002 := eq_true p76002
        replace q76002 := eq_true q76002
        have p76003 : 0 ≤ (x3_1 : Int) := of_decide_eq_true (by assumption)
        have q76003 : x3_1 < (l0.length : Int) := of_decide_eq_true (by assumption)
        obtain ⟨ad76003, e76003, hx76003_0, hx76003_1⟩ := at_T37 HR0.out x3_1 p76003 q76003
        obtain rfl : ad76001 = ad76003 := (by injection e76003)
        replace p76003 := eq_true p76003
        replace q76003 := eq_true q76003
        go_wp2
        repeat (go_quiet (fail); try go_wp2)
        go_ret
        exact ⟨by first | rfl | (simp; done) | (simp [*]; done), by repeat (first | exact Drawn0.refl _ | apply Drawn0.step)⟩
       ·rw [if_neg c6] at H
        have c6b0 : decide (((rd_T37 l0 x3_1).f1) < ((rd_T37 l0 x3_1).f0)) = false := decide_eq_false c6
        clear c6
        by_cases c7 : ((rd_T37 l0 x3_1).f1) > 17179869184
        ·rw [if_pos c7] at H
         have c7b0 : decide (17179869184 < ((rd_T37 l0 x3_1).f1)) = true := decide_eq_true c7
         clear c7
         obtain rfl := Option.some.inj H
         have p76001 : 0 ≤ (x3_1 : Int) := of_decide_eq_true (by assumption)
         have q76001 : x3_1 < (l0.length : Int) := of_decide_eq_true (by assumption)
         obtain ⟨ad76001, e76001, hx76001_0, hx76001_1⟩ := at_T37 HR0.out x3_1 p76001 q76001
         cases e76001
         replace p76001 := eq_true p76001
         replace q76001 := eq_true q76001
         have p76002 : 0 ≤ (x3_1 : Int) := of_decide_eq_true (by assumption)
         have q76002 : x3_1 < (l0.length : Int) := of_decide_eq_true (by assumption)
         obtain ⟨ad76002, e76002, hx76002_0, hx76002_1⟩ := at_T37 HR0.out x3_1 p76002 q76002
         obtain rfl : ad76001 = ad76002 := (by injection e76002)
         replace p76002 := eq_true p76002
         replace q76002 := eq_true q76002
         have p76003 : 0 ≤ (x3_1 : Int) := of_decide_eq_true (by assumption)
         have q76003 : x3_1 < (l0.length : Int) := of_decide_eq_true (by assumption)
         obtain ⟨ad76003, e76003, hx76003_0, hx76003_1⟩ := at_T37 HR0.out x3_1 p76003 q76003
         obtain rfl : ad76001 = ad76003 := (by injection e76003)
         replace p76003 := eq_true p76003
         replace q76003 := eq_true q76003
         have p76004 : 0 ≤ (x3_1 : Int) := of_decide_eq_true (by assumption)
         have q76004 : x3_1 < (l0.length : Int) := of_decide_eq_true (by assumption)
         obtain ⟨ad76004, e76004, hx76004_0, hx76004_1⟩ := at_T37 HR0.out x3_1 p76004 q76004
         obtain rfl : ad76001 = ad76004 := (by injection e76004)
         replace p76004 := eq_true p76004
         replace q76004 := eq_true q76004
         go_wp2
         repeat (go_quiet (fail); try go_wp2)
         go_ret
         exact ⟨by first | rfl | (simp; done) | (simp [*]; done), by repeat (first | exact Drawn0.refl _ | apply Drawn0.step)⟩
        ·rw [if_neg c7] at H
         have c7b0 : decide (17179869184 < ((rd_T37 l0 x3_1).f1)) = false := decide_eq_false c7
         clear c7
         have H' := Aside0.mk H
         clear H
         have p76001 : 0 ≤ (x3_1 : Int) := of_decide_eq_true (by assumption)
         have q76001 : x3_1 < (l0.length : Int) := of_decide_eq_true (by assumption)
         obtain ⟨ad76001, e76001, hx76001_0, hx76001_1⟩ := at_T37 HR0.out x3_1 p76001 q76001
         cases e76001
         replace p76001 := eq_true p76001
         replace q76001 := eq_true q76001
         have p76002 : 0 ≤ (x3_1 : Int) := of_decide_eq_true (by assumption)
         have q76002 : x3_1 < (l0.length : Int) := of_decide_eq_true (by assumption)
         obtain ⟨ad76002, e76002, hx76002_0, hx76002_1⟩ := at_T37 HR0.out x3_1 p76002 q76002
         obtain rfl : ad76001 = ad76002 := (by injection e76002)
         replace p76002 := eq_true p76002
         replace q76002 := eq_true q76002
         have p76003 : 0 ≤ (x3_1 : Int) := of_decide_eq_true (by assumption)
         have q76003 : x3_1 < (l0.length : Int) := of_decide_eq_true (by assumption)
         obtain ⟨ad76003, e76003, hx76003_0, hx76003_1⟩ := at_T37 HR0.out x3_1 p76003 q76003
         obtain rfl : ad76001 = ad76003 := (by injection e76003)
         replace p76003 := eq_true p76003
         replace q76003 := eq_true q76003
         have p76004 : 0 ≤ (x3_1 : Int) := of_decide_eq_true (by assumption)
         have q76004 : x3_1 < (l0.length : Int) := of_decide_eq_true (by assumption)
         obtain ⟨ad76004, e76004, hx76004_0, hx76004_1⟩ := at_T37 HR0.out x3_1 p76004 q76004
         obtain rfl : ad76001 = ad76004 := (by injection e76004)
         replace p76004 := eq_true p76004
         replace q76004 := eq_true q76004
         go_wp2
         repeat (go_quiet (fail); try go_wp2)
         go_roundg k1
         case measure => have := HK1.out; omega
         case rel => exact ⟨(wrap64 (x3_1 + 1)), (by first | rfl | (simp; done) | (simp [*]; done)), H', ⟨by have := HK1.out; omega⟩, by repeat (first | exact Drawn0.refl _ | apply Drawn0.step)⟩
     ·rw [if_neg c4] at H
      exact absurd H (by simp)
    ·rw [if_neg c3] at H
     have c3b0 : decide (x3_1 < (l0.length : Int)) = false := decide_eq_false c3
     clear c3
     obtain rfl := Option.some.inj H
     go_wp2
     repeat (go_quiet (fail); try go_wp2)
     go_ret
     exact ⟨by first | rfl | (simp; done) | (simp [*]; done), by repeat (first | exact Drawn0.refl _ | apply Drawn0.step)⟩

end Go.Proofs.Ytcnkmdonbpgjiaa.G

namespace Go.Proofs.Ytcnkmdonbpgjiaa.G
open Go.RowKit Go.Proofs.YtcnkmdonbpgjiaaW.PrintWords Go.Proofs.YtcnkmdonbpgjiaaW.PrintLast Go.Proofs.YtcnkmdonbpgjiaaW.PrintMore
attribute [local go_sem] max2_int min2_int max_two min_two max_three min_three max_four min_four   -- for this text's walks alone
set_option linter.unusedVariables false
set_option linter.unusedSimpArgs false

def papermillref04_with.l0 : Nat → List Int → Int → Int → Option (List Int)
 | 0, _, _, _ => none
 | k + 1, x0, x1, x5 => if x5 < (x0.length : Int) then (if 0 ≤ x5 then (if (rd x0 x5) < x1 then (papermillref04_with.l0 k x0 x1 (wrap64 (x5 + 1))) else (if (rd x0 x5) = x1 then (some x0) else ((some (([] : List Int) : List Int)).bind fun y103003 => (if x5 ≤ (x0.length : Int) then ((some (x0.take (x5 : Int).toNat : List Int)).bind fun y103006 => (if y103003.length + y103006.length < 17592186044416 then ((some (y103003 ++ y103006 : List Int)).bind fun y103010 => (if y103010.length < 17592186044416 then ((some (y103010 ++ [x1] : List Int)).bind fun y103013 => ((some (x0.drop (x5 : Int).toNat : List Int)).bind fun y103016 => (if y103013.length + y103016.length < 17592186044416 then (some (y103013 ++ y103016)) else (none)))) else (none))) else (none))) else (none))))) else (none)) else ((some (([] : List Int) : List Int)).bind fun y103023 => (if 0 ≤ x5 then (if x5 ≤ (x0.length : Int) then ((some (x0.take (x5 : Int).toNat : List Int)).bind fun y103026 => (if y103023.length + y103026.length < 17592186044416 then ((some (y103023 ++ y103026 : List Int)).bind fun y103030 => (if y103030.length < 17592186044416 then ((some (y103030 ++ [x1] : List Int)).bind fun y103033 => ((some (x0.drop (x5 : Int).toNat : List Int)).bind fun y103036 => (if y103033.length + y103036.length < 17592186044416 then (some (y103033 ++ y103036)) else (none)))) else (none))) else (none))) else (none)) else (none)))
def papermillref04_with.f (k : Nat) (l0 : List Int) (a1 : Int) : Option (List Int) := papermillref04_with.l0 k l0 a1 0
theorem papermillref04_with.mono_l : ∀ k, (∀ y0 y1 y2, LeO (papermillref04_with.l0 k y0 y1 y2) (papermillref04_with.l0 (k + 1) y0 y1 y2))
 | 0 => fun _ _ _ r h => by simp [papermillref04_with.l0] at h
 | k + 1 => by
  have ih0 := papermillref04_with.mono_l k
  ·intro y0 y1 y2
   unfold papermillref04_with.l0
   repeat' first
   | (with_reducible exact ih0 _ _ _)
   | (with_reducible exact LeO.refl _)
   | (with_reducible exact LeO.none _)
   | (with_reducible refine LeO.ite ?_ ?_)
   | (with_reducible refine LeO.bind ?_ (fun _ => ?_))
   | exact ih0 _ _ _
   | exact LeO.none _
   | refine LeO.ite ?_ ?_
   | refine LeO.bind ?_ (fun _ => ?_)
theorem papermillref04_with.mono : ∀ a0 a1 k, LeO (papermillref04_with.f k a0 a1) (papermillref04_with.f (k + 1) a0 a1) := by
 intro a0 a1 k
 have ih0 := papermillref04_with.mono_l k
 unfold papermillref04_with.f
 repeat' first
   | (with_reducible exact ih0 _ _ _)
   | (with_reducible exact LeO.refl _)
   | (with_reducible exact LeO.none _)
   | (with_reducible refine LeO.ite ?_ ?_)
   | (with_reducible refine LeO.bind ?_ (fun _ => ?_))
   | exact ih0 _ _ _
   | exact LeO.none _
   | refine LeO.ite ?_ ?_
   | refine LeO.bind ?_ (fun _ => ?_)
set_option maxHeartbeats 8000000 in
set_option maxRecDepth 100000 in
theorem papermillref04_with.calls (k : Nat) (P0_ : Nat → Prop) (u9000_ : Value) (l0 : List Int) (a1 : Int) (r : List Int) (w0 w : World) (hB : Below w0.heap.size w0 w) (ho0 : Kd.R (Kd.int .i64) 3 w w0.heap.size P0_ u9000_ l0) (h : papermillref04_with.f k l0 a1 = some r) :
  Calls Try.prog 102 #[u9000_, .int .i64 a1] w fun e w' => ∃ v0_ : Value, e = .returned (v0_) ∧ Kd.R (Kd.int .i64) 3 w' w0.heap.size (fun k_ => (P0_ k_ ∨ w.heap.size ≤ k_)) v0_ r ∧ Below w0.heap.size w0 w' ∧ Kept w w' (fun k_ => P0_ k_) := by
 have HO0 := Aside0.mk (show Kd.R (Kd.int .i64) 3 w w0.heap.size (fun k_ => (P0_ k_ ∨ w.heap.size ≤ k_)) u9000_ l0 from Kd.R_mono ho0 (fun k_ hk => (.inl hk)))
 have HK := Aside0.mk (Kept.refl w (fun k_ => P0_ k_))
 have HW0 := Aside0.mk hB.size
 have HB := Aside0.mk hB
 clear hB
 have H : (papermillref04_with.l0 k l0 a1 0) = some r := h
 clear h
 have H' := Aside0.mk H
 clear H
 go_enter Try.func102, Try.ntmps102
 go_wp2
 go_loopg [5] k (fun kq v5 w' => ∃ (x5_1 : Int), v5 = .int .i64 x5_1 ∧ Aside0 (papermillref04_with.l0 kq l0 a1 x5_1 = some r) ∧ Aside0 (kq ≤ k) ∧ Aside0 (Kd.R (Kd.int .i64) 3 w' w0.heap.size (fun k_ => (P0_ k_ ∨ w.heap.size ≤ k_)) u9000_ l0) ∧ Aside0 (Kept w w' (fun k_ => P0_ k_)) ∧ Aside0 (Below w0.heap.size w0 w'))
 case atStart => exact ⟨(0), (by first | rfl | (simp; done) | (simp [*]; done)), H', ⟨Nat.le_refl _⟩, ⟨HO0.out⟩, ⟨by repeat (first | (with_reducible first | exact HK.out | apply Kept.alloc | apply Kept.drewN | apply Kept.drew) | exact HK.out)⟩, ⟨by repeat (first | exact HB.out | apply below_alloc | apply pw_below_drewN | apply below_drew1)⟩⟩
 case round =>
  clear H'
  try clear c1
  try clear p2
  obtain ⟨x5_1, rfl, HA, HK1, HO_0, HK, HB⟩ := hrel
  cases gk with
  | zero => exact absurd HA.out (by simp [papermillref04_with.l0])
  | succ k1 =>
   have H := HA.out
   clear HA
   simp only [papermillref04_with.l0] at H
   by_cases c3 : x5_1 < (l0.length : Int)
   ·rw [if_pos c3] at H
    have c3b0 : decide (x5_1 < (l0.length : Int)) = true := decide_eq_true c3
    clear c3
    by_cases c4 : 0 ≤ x5_1
    ·rw [if_pos c4] at H
     have c4b0 : decide (0 ≤ x5_1) = true := decide_eq_true c4
     clear c4
     by_cases c5 : (rd l0 x5_1) < a1
     ·rw [if_pos c5] at H
      have c5b0 : decide ((rd l0 x5_1) < a1) = true := decide_eq_true c5
      clear c5
      have H' := Aside0.mk H
      clear H
      obtain ⟨Ao6, co6, eo6⟩ := Kd.R_slice HO_0.out
      subst eo6
      have p103001 : 0 ≤ (x5_1 : Int) := of_decide_eq_true (by assumption)
      have q103001 : x5_1 < (l0.length : Int) := of_decide_eq_true (by assumption)
      obtain ⟨ad103001, e103001, hx103001_0⟩ := Kd.at_int (Kd.R_reads' HO_0.out).2.2 x5_1 p103001 q103001
      cases e103001
      replace p103001 := eq_true p103001
      replace q103001 := eq_true q103001
      go_wp2
      go_roundg k1
      case measure => have := HK1.out; omega
      case rel => exact ⟨(wrap64 (x5_1 + 1)), (by first | rfl | (simp; done) | (simp [*]; done)), H', ⟨by have := HK1.out; omega⟩, ⟨HO_0.out⟩, ⟨by repeat (first | (with_reducible first | exact HK.out | apply Kept.alloc | apply Kept.drewN | apply Kept.drew) | exact HK.out)⟩, ⟨by repeat (first | exact HB.out | apply below_alloc | apply pw_below_drewN | apply below_drew1)⟩⟩
     ·rw [if_neg c5] at H
      have c5b0 : decide ((rd l0 x5_1) < a1) = false := decide_eq_false c5
      clear c5
      by_cases c7 : (rd l0 x5_1) = a1
      ·rw [if_pos c7] at H
       have c7b0 : ((rd l0 x5_1) == a1) = true := beq_iff_eq.mpr c7
       have c7b1 : ((rd l0 x5_1) != a1) = false := bne_eq_false_iff_eq.mpr c7
       clear c7
       obtain rfl := Option.some.inj H
       obtain ⟨Ao8, co8, eo8⟩ := Kd.R_slice HO_0.out
       subst eo8
       have p103001 : 0 ≤ (x5_1 : Int) := of_decide_eq_true (by assumption)
       have q103001 : x5_1 < (l0.length : Int) := of_decide_eq_true (by assumption)
       obtain ⟨ad103001, e103001, hx103001_0⟩ := Kd.at_int (Kd.R_reads' HO_0.out).2.2 x5_1 p103001 q103001
       cases e103001
       replace p103001 := eq_true p103001
       replace q103001 := eq_true q103001
       have p103002 : 0 ≤ (x5_1 : Int) := of_decide_eq_true (by assumption)
       have q103002 : x5_1 < (l0.length : Int) := of_decide_eq_true (by assumption)
       obtain ⟨ad103002, e103002, hx103002_0⟩ := Kd.at_int (Kd.R_reads' HO_0.out).2.2 x5_1 p103002 q103002
       obtain rfl : ad103001 = ad103002 := (by injection e103002)
       replace p103002 := eq_true p103002
       replace q103002 := eq_true q103002
       go_wp2
       go_ret
       exact ⟨_, by first | rfl | (simp [errW_none, errW_some] <;> rfl) | (simp [*, errW_none, errW_some] <;> rfl), by exact HO_0.out, by repeat (first | exact HB.out | apply below_alloc | apply pw_below_drewN | apply below_drew1), by repeat (first | (with_reducible first | exact HK.out | apply Kept.alloc | apply Kept.drewN | apply Kept.drew) | exact HK.out)⟩
      ·rw [if_neg c7] at H
       have c7b0 : ((rd l0 x5_1) == a1) = false := beq_eq_false_iff_ne.mpr c7
       have c7b1 : ((rd l0 x5_1) != a1) = true := bne_iff_ne.mpr c7
       obtain ⟨y103003, hy103003⟩ : ∃ y_ : List Int, y_ = (([] : List Int)) := ⟨_, rfl⟩
       replace H : (if x5_1 ≤ (l0.length : Int) then ((some (l0.take (x5_1 : Int).toNat : List Int)).bind fun y103006 => (if y103003.length + y103006.length < 17592186044416 then ((some (y103003 ++ y103006 : List Int)).bind fun y103010 => (if y103010.length < 17592186044416 then ((some (y103010 ++ [a1] : List Int)).bind fun y103013 => ((some (l0.drop (x5_1 : Int).toNat : List Int)).bind fun y103016 => (if y103013.length + y103016.length < 17592186044416 then (some (y103013 ++ y103016)) else (none)))) else (none))) else (none))) else (none)) = some r := by first | (rw [hy103003]; with_reducible exact H) | (have H2_ := (Option.bind_some _ _).symm.trans H; rw [hy103003]; with_reducible exact H2_) | (have H2_ := (Option.bind_some _ _).symm.trans H; with_reducible exact H2_) | with_reducible exact H | (rw [hy103003]; exact H) | exact H
       have Ny103003 := Aside0.mk hy103003
       clear hy103003
       have c9b0 := eq_true (of_decide_eq_true (by assumption) : 0 ≤ x5_1)
       by_cases c10 : x5_1 ≤ (l0.length : Int)
       ·rw [if_pos c10] at H
        have c10b0 := eq_true c10
        have c10b1 : decide (x5_1 ≤ (l0.length : Int)) = true := decide_eq_true c10
        clear c10
        obtain ⟨y103006, hy103006⟩ : ∃ y_ : List Int, y_ = (l0.take (x5_1 : Int).toNat) := ⟨_, rfl⟩
        replace H : (if y103003.length + y103006.length < 17592186044416 then ((some (y103003 ++ y103006 : List Int)).bind fun y103010 => (if y103010.length < 17592186044416 then ((some (y103010 ++ [a1] : List Int)).bind fun y103013 => ((some (l0.drop (x5_1 : Int).toNat : List Int)).bind fun y103016 => (if y103013.length + y103016.length < 17592186044416 then (some (y103013 ++ y103016)) else (none)))) else (none))) else (none)) = some r := by first | (rw [hy103006]; with_reducible exact H) | (have H2_ := (Option.bind_some _ _).symm.trans H; rw [hy103006]; with_reducible exact H2_) | (have H2_ := (Option.bind_some _ _).symm.trans H; with_reducible exact H2_) | with_reducible exact H | (rw [hy103006]; exact H) | exact H
        have Ny103006 := Aside0.mk hy103006
        clear hy103006
        by_cases c11 : y103003.length + y103006.length < 17592186044416
        ·rw [if_pos c11] at H
         have LMc11 := Aside0.mk c11
         clear c11
         obtain ⟨y103010, hy103010⟩ : ∃ y_ : List Int, y_ = (y103003 ++ y103006) := ⟨_, rfl⟩
         replace H : (if y103010.length < 17592186044416 then ((some (y103010 ++ [a1] : List Int)).bind fun y103013 => ((some (l0.drop (x5_1 : Int).toNat : List Int)).bind fun y103016 => (if y103013.length + y103016.length < 17592186044416 then (some (y103013 ++ y103016)) else (none)))) else (none)) = some r := by first | (rw [hy103010]; with_reducible exact H) | (have H2_ := (Option.bind_some _ _).symm.trans H; rw [hy103010]; with_reducible exact H2_) | (have H2_ := (Option.bind_some _ _).symm.trans H; with_reducible exact H2_) | with_reducible exact H | (rw [hy103010]; exact H) | exact H
         have Ny103010 := Aside0.mk hy103010
         clear hy103010
         by_cases c12 : y103010.length < 17592186044416
         ·rw [if_pos c12] at H
          have LMc12 := Aside0.mk c12
          clear c12
          obtain ⟨y103013, hy103013⟩ : ∃ y_ : List Int, y_ = (y103010 ++ [a1]) := ⟨_, rfl⟩
          replace H : ((some (l0.drop (x5_1 : Int).toNat : List Int)).bind fun y103016 => (if y103013.length + y103016.length < 17592186044416 then (some (y103013 ++ y103016)) else (none))) = some r := by first | (rw [hy103013]; with_reducible exact H) | (have H2_ := (Option.bind_some _ _).symm.trans H; rw [hy103013]; with_reducible exact H2_) | (have H2_ := (Option.bind_some _ _).symm.trans H; with_reducible exact H2_) | with_reducible exact H | (rw [hy103013]; exact H) | exact H
          have Ny103013 := Aside0.mk hy103013
          clear hy103013
          have c13b0 := eq_true (of_decide_eq_true (by assumption) : 0 ≤ x5_1)
          have c14b0 := eq_true (of_decide_eq_true (by assumption) : x5_1 ≤ (l0.length : Int))
          obtain ⟨y103016, hy103016⟩ : ∃ y_ : List Int, y_ = (l0.drop (x5_1 : Int).toNat) := ⟨_, rfl⟩
          replace H : (if y103013.length + y103016.length < 17592186044416 then (some (y103013 ++ y103016)) else (none)) = some r := by first | (rw [hy103016]; with_reducible exact H) | (have H2_ := (Option.bind_some _ _).symm.trans H; rw [hy103016]; with_reducible exact H2_) | (have H2_ := (Option.bind_some _ _).symm.trans H; with_reducible exact H2_) | with_reducible exact H | (rw [hy103016]; exact H) | exact H
          have Ny103016 := Aside0.mk hy103016
          clear hy103016
          by_cases c15 : y103013.length + y103016.length < 17592186044416
          ·rw [if_pos c15] at H
           have LMc15 := Aside0.mk c15
           clear c15
           obtain ⟨y103020, hy103020⟩ : ∃ y_ : List Int, y_ = (y103013 ++ y103016) := ⟨_, rfl⟩
           replace H : (some y103020) = some r := by first | (rw [hy103020]; with_reducible exact H) | (have H2_ := (Option.bind_some _ _).symm.trans H; rw [hy103020]; with_reducible exact H2_) | (have H2_ := (Option.bind_some _ _).symm.trans H; with_reducible exact H2_) | with_reducible exact H | (rw [hy103020]; exact H) | exact H
           have Ny103020 := Aside0.mk hy103020
           clear hy103020
           obtain rfl := Option.some.inj H
           obtain ⟨Ao16, co16, eo16⟩ := Kd.R_slice HO_0.out
           subst eo16
           have p103001 : 0 ≤ (x5_1 : Int) := of_decide_eq_true (by assumption)
           have q103001 : x5_1 < (l0.length : Int) := of_decide_eq_true (by assumption)
           obtain ⟨ad103001, e103001, hx103001_0⟩ := Kd.at_int (Kd.R_reads' HO_0.out).2.2 x5_1 p103001 q103001
           cases e103001
           replace p103001 := eq_true p103001
           replace q103001 := eq_true q103001
           have p103002 : 0 ≤ (x5_1 : Int) := of_decide_eq_true (by assumption)
           have q103002 : x5_1 < (l0.length : Int) := of_decide_eq_true (by assumption)
           obtain ⟨ad103002, e103002, hx103002_0⟩ := Kd.at_int (Kd.R_reads' HO_0.out).2.2 x5_1 p103002 q103002
           obtain rfl : ad103001 = ad103002 := (by injection e103002)
           replace p103002 := eq_true p103002
           replace q103002 := eq_true q103002
           go_wp2_with (first | ((with_reducible refine gate_dst (N := 34) rfl ?_); refine Kd.R_lit (Kd.int .i64) _ 3 ?hg (N := 34) ?hd (xs := ([] : List Int)) (inner := []) (ok := fun _ => True) (okp := fun _ => True) ?hr ?hp (fun _ hk => hk) trivial (Below.refl _ _) (Nat.le_refl _) (by simp) ?_; (case hd => rfl); (case hg => rfl); (case hr => first | (go_simp; done) | (go_simp; rfl)); (case hp => exact (Reps.none _ _)); intro v103004 w17 ho18 hb hg_ hnew_; clear hg_ hnew_; (first | rw [← Ny103003.out] at ho18 | (simp only [Int.reduceToNat] at ho18; rw [← Ny103003.out] at ho18)); have n0_ := Aside0.mk (Kd.R_elder' (HO_0.out) (Kd.R_base ho18) hb); have n1_ := Aside0.mk (Kd.R_lower (Kd.R_new' (Kd.R_newM (M := fun k_ => (P0_ k_ ∨ w.heap.size ≤ k_)) ho18 (by first | exact HK.out.1 | exact (show Kept w _ (fun k_ => P0_ k_) from by repeat (first | (with_reducible first | exact HK.out | apply Kept.alloc | apply Kept.drewN | apply Kept.drew) | exact HK.out)).1) (fun k_ h_ => .inr h_)) (Kd.R_lt (HO_0.out))) (below_size (by repeat (first | exact HB.out | apply below_alloc | apply pw_below_drewN | apply below_drew1)))); have n2_ := Aside0.mk (Kept.below (S := (fun k_ => P0_ k_)) (by repeat (first | (with_reducible first | exact HK.out | apply Kept.alloc | apply Kept.drewN | apply Kept.drew) | exact HK.out)) hb); have n3_ := Aside0.mk (below_step (by repeat (first | exact HB.out | apply below_alloc | apply pw_below_drewN | apply below_drew1)) hb); clear HO_0; clear HK; clear HB; have HO_0 := n0_; have HO103005 := n1_; have HK := n2_; have HB := n3_; clear n0_ n1_ n2_ n3_; clear hb ho18; have q19 : (x5_1 : Int) ≤ ((l0.length : Int) : Int) := of_decide_eq_true (by assumption); obtain ⟨i019, hi019, _, hsz19, _⟩ := info_parts info3; have hroom19 : l0.length ≤ co16 := (Kd.R_reads' HO_0.out).2.1; have hC19 : Kd.C (Kd.int .i64) _ (some ad103001) l0.length l0 := (Kd.R_reads' HO_0.out).2.2; have hcut19 := cut_to (P := Try.prog) 80 3 .i64 Try.underlying80 hi019 (some ad103001) l0.length co16 x5_1 (of_decide_eq_true (by assumption)) q19 hroom19; have hr19 := Kd.C_take (m := (x5_1 : Int).toNat) hC19 (by omega); have hy19 : y103006.length = (x5_1 : Int).toNat := (by rw [Ny103006.out, List.length_take]; omega); rw [← Ny103006.out] at hr19; rw [← hy19] at hcut19; have HR103009 := Aside0.mk hr19; have HC103009 := Aside0.mk (show y103006.length ≤ co16 from by omega); clear hr19 hC19 hroom19 hi019 hsz19; have KY19 := Aside0.mk hy19; clear hy19; have KL19 := Aside0.mk (show (x5_1 : Int).toNat ≤ l0.length from by omega); replace q19 := eq_true q19) | ((with_reducible refine gate_builtin (b := .append) (xs := #[.tmp 34, .tmp 37]) rfl ?_); at_builtin; refine Kd.R_append_rows (Kd.int .i64) (w0 := w0) w0.heap.size rfl (.tmp 34) (.tmp 37) 80 3 (.int .i64 0) 8 rfl Try.underlying80 info3 rfl (by decide) (by omega) v103004 y103003 y103006 _ _ _ (fun k_ => (P0_ k_ ∨ w.heap.size ≤ k_) ∧ some k_ ≠ (.slice (some ad103001) l0.length co16 : Value).ownBlock) (fun _ => False) rfl rfl ?aO ?aR (fun _ _ h => h) (fun _ h => h.elim) ?aF ?aB ?aS ?aL ?_; (case aR => repeat (first | exact (by repeat (first | (with_reducible exact HR103009.out) | (with_reducible refine Kd.C_alloc ?_ _) | (with_reducible refine Kd.C_drewN ?_ _) | (with_reducible refine Kd.C_drew ?_) | exact HR103009.out)) | (with_reducible refine Kd.C_alloc ?_ _) | (with_reducible refine Kd.C_drewN ?_ _) | (with_reducible refine Kd.C_drew ?_))); (case aB => exact (by repeat (first | exact HB.out | apply below_alloc | apply pw_below_drewN | apply below_drew1))); (case aF => exact (fun k_ hk => ⟨(.inr (Nat.le_trans (by first | exact HK.out.1 | exact (show Kept w _ (fun k_ => P0_ k_) from by repeat (first | (with_reducible first | exact HK.out | apply Kept.alloc | apply Kept.drewN | apply Kept.drew) | exact HK.out)).1) hk)), Kd.fresh' (Kd.R_lt (HO_0.out)) k_ hk⟩)); (case aO => exact (by exact Kd.R_mono HO103005.out (fun _ hk => ⟨hk.1.1, hk.2⟩))); (case aS => exact (below_size (by repeat (first | exact HB.out | apply below_alloc | apply pw_below_drewN | apply below_drew1)))); (case aL => have := LMc11.out; omega); intro v103011 w20 ho hb hg hat; rw [← Ny103010.out] at ho; have n0_ := Aside0.mk (Kd.R_after (ok := (fun k_ => (P0_ k_ ∨ w.heap.size ≤ k_))) (HO_0.out) hg hat); have n1_ := Aside0.mk (hb); have n2_ := Aside0.mk (Kept.of_grown (S := (fun k_ => P0_ k_)) hg (by repeat (first | (with_reducible first | exact HK.out | apply Kept.alloc | apply Kept.drewN | apply Kept.drew) | exact HK.out)) (fun k_ e_ => (HO103005.out.1 k_ e_).1.1)); have n3_ := Aside0.mk ((show Kd.C (Kd.int .i64) w20 (some ad103001) y103006.length y103006 from by rw [Ny103006.out]; exact Kd.C_take (m := (x5_1 : Int).toNat) ((Kd.R_reads' (Kd.R_after (ok := (fun k_ => (P0_ k_ ∨ w.heap.size ≤ k_))) (HO_0.out) hg hat)).2.2) KL19.out)); have n4_ := Aside0.mk (ho); clear HO_0; clear HB; clear HK; clear HR103009; clear HO103005; have HO_0 := n0_; have HB := n1_; have HK := n2_; have HR103009 := n3_; have HO103012 := n4_; clear n0_ n1_ n2_ n3_ n4_; clear ho hb hg hat) | ((with_reducible refine gate_builtin (b := .append) (xs := #[.tmp 39, .tmp 41]) rfl ?_); at_builtin; refine Kd.R_append (Kd.int .i64) (w0 := w0) w0.heap.size rfl (.tmp 39) (.tmp 41) 80 3 (.int .i64 0) 8 rfl Try.underlying80 info3 rfl (by decide) (by omega) v103011 y103010 a1 [.int .i64 a1] (fun k_ => (P0_ k_ ∨ w.heap.size ≤ k_) ∧ some k_ ≠ (.slice (some ad103001) l0.length co16 : Value).ownBlock) (fun _ => False) rfl rfl ?aP (fun _ hk => hk.elim) ?aF ?aO ?aB ?aS ?aL ?_; (case aP => exact rfl); (case aB => exact (by repeat (first | exact HB.out | apply below_alloc | apply pw_below_drewN | apply below_drew1))); (case aF => exact (fun k_ hk => ⟨(.inr (Nat.le_trans (by first | exact HK.out.1 | exact (show Kept w _ (fun k_ => P0_ k_) from by repeat (first | (with_reducible first | exact HK.out | apply Kept.alloc | apply Kept.drewN | apply Kept.drew) | exact HK.out)).1) hk)), Kd.fresh' (Kd.R_lt (HO_0.out)) k_ hk⟩)); (case aO => exact (HO103012.out)); (case aS => exact (below_size (by repeat (first | exact HB.out | apply below_alloc | apply pw_below_drewN | apply below_drew1)))); (case aL => have := LMc12.out; omega); intro v103014 w21 ho hb hg hat; rw [← Ny103013.out] at ho; have n0_ := Aside0.mk (Kd.R_after (ok := (fun k_ => (P0_ k_ ∨ w.heap.size ≤ k_))) (HO_0.out) hg hat); have n1_ := Aside0.mk (hb); have n2_ := Aside0.mk (Kept.of_grown (S := (fun k_ => P0_ k_)) hg (by repeat (first | (with_reducible first | exact HK.out | apply Kept.alloc | apply Kept.drewN | apply Kept.drew) | exact HK.out)) (fun k_ e_ => (HO103012.out.1 k_ e_).1)); have n3_ := Aside0.mk ((show Kd.C (Kd.int .i64) w21 (some ad103001) y103006.length y103006 from by rw [Ny103006.out]; exact Kd.C_take (m := (x5_1 : Int).toNat) ((Kd.R_reads' (Kd.R_after (ok := (fun k_ => (P0_ k_ ∨ w.heap.size ≤ k_))) (HO_0.out) hg hat)).2.2) KL19.out)); have n4_ := Aside0.mk (ho); clear HO_0; clear HB; clear HK; clear HR103009; clear HO103012; have HO_0 := n0_; have HB := n1_; have HK := n2_; have HR103009 := n3_; have HO103015 := n4_; clear n0_ n1_ n2_ n3_ n4_; clear ho hb hg hat; have q22 : (x5_1 : Int) ≤ ((l0.length : Int) : Int) := of_decide_eq_true (by assumption); obtain ⟨i022, hi022, _, hsz22, _⟩ := info_parts info3; have hroom22 : l0.length ≤ co16 := (Kd.R_reads' HO_0.out).2.1; have hC22 : Kd.C (Kd.int .i64) _ (some ad103001) l0.length l0 := (Kd.R_reads' HO_0.out).2.2; have q022 : (0 : Int) ≤ (x5_1 : Int) := of_decide_eq_true (by assumption); have hcut22 := cut_from (P := Try.prog) 80 3 .i64 Try.underlying80 hi022 1 hsz22 (some ad103001) l0.length co16 x5_1 q022 q22; have hr22 := Kd.C_drop (m := (x5_1 : Int).toNat) (c := co16) hC22 (by omega) hroom22; obtain ⟨A22, hA22⟩ : ∃ A1, A1 = (if co16 = (x5_1 : Int).toNat then (some ad103001) else ((some ad103001) : Option Addr).map (·.add ((x5_1 : Int).toNat * 1))) := ⟨_, rfl⟩; obtain ⟨c22, hc22⟩ : ∃ c1, c1 = co16 - (x5_1 : Int).toNat := ⟨_, rfl⟩; have hy22 : y103016.length = l0.length - (x5_1 : Int).toNat := (by rw [Ny103016.out, List.length_drop] <;> omega); rw [show (l0).drop (x5_1 : Int).toNat = y103016 from Ny103016.out.symm] at hr22; replace hr22 : Kd.C (Kd.int .i64) _ A22 y103016.length y103016 := (by rw [hA22]; exact hr22); rw [← hy22, ← hA22, ← hc22] at hcut22; have HR103019 := Aside0.mk hr22; have HC103019 := Aside0.mk (show y103016.length ≤ c22 from by rw [hy22, hc22]; exact Nat.sub_le_sub_right hroom22 _); clear hr22 hC22 hroom22 hi022 hsz22 hc22; have KY22 := Aside0.mk hy22; have KA22 := Aside0.mk hA22; clear hy22 hA22; have KL22 := Aside0.mk (show (x5_1 : Int).toNat ≤ l0.length from by omega); replace q22 := eq_true q22) | ((with_reducible refine gate_builtin (b := .append) (xs := #[.tmp 43, .tmp 46]) rfl ?_); at_builtin; refine Kd.R_append_rows (Kd.int .i64) (w0 := w0) w0.heap.size rfl (.tmp 43) (.tmp 46) 80 3 (.int .i64 0) 8 rfl Try.underlying80 info3 rfl (by decide) (by omega) v103014 y103013 y103016 _ _ _ (fun k_ => (P0_ k_ ∨ w.heap.size ≤ k_) ∧ some k_ ≠ (.slice (some ad103001) l0.length co16 : Value).ownBlock) (fun _ => False) rfl rfl ?aO ?aR (fun _ _ h => h) (fun _ h => h.elim) ?aF ?aB ?aS ?aL ?_; (case aR => repeat (first | exact (by repeat (first | (with_reducible exact HR103019.out) | (with_reducible refine Kd.C_alloc ?_ _) | (with_reducible refine Kd.C_drewN ?_ _) | (with_reducible refine Kd.C_drew ?_) | exact HR103019.out)) | (with_reducible refine Kd.C_alloc ?_ _) | (with_reducible refine Kd.C_drewN ?_ _) | (with_reducible refine Kd.C_drew ?_))); (case aB => exact (by repeat (first | exact HB.out | apply below_alloc | apply pw_below_drewN | apply below_drew1))); (case aF => exact (fun k_ hk => ⟨(.inr (Nat.le_trans (by first | exact HK.out.1 | exact (show Kept w _ (fun k_ => P0_ k_) from by repeat (first | (with_reducible first | exact HK.out | apply Kept.alloc | apply Kept.drewN | apply Kept.drew) | exact HK.out)).1) hk)), Kd.fresh' (Kd.R_lt (HO_0.out)) k_ hk⟩)); (case aO => exact (HO103015.out)); (case aS => exact (below_size (by repeat (first | exact HB.out | apply below_alloc | apply pw_below_drewN | apply below_drew1)))); (case aL => have := LMc15.out; omega); intro v103021 w23 ho hb hg hat; rw [← Ny103020.out] at ho; have n0_ := Aside0.mk (Kd.R_after (ok := (fun k_ => (P0_ k_ ∨ w.heap.size ≤ k_))) (HO_0.out) hg hat); have n1_ := Aside0.mk (hb); have n2_ := Aside0.mk (Kept.of_grown (S := (fun k_ => P0_ k_)) hg (by repeat (first | (with_reducible first | exact HK.out | apply Kept.alloc | apply Kept.drewN | apply Kept.drew) | exact HK.out)) (fun k_ e_ => (HO103015.out.1 k_ e_).1)); have n3_ := Aside0.mk ((show Kd.C (Kd.int .i64) w23 (some ad103001) y103006.length y103006 from by rw [Ny103006.out]; exact Kd.C_take (m := (x5_1 : Int).toNat) ((Kd.R_reads' (Kd.R_after (ok := (fun k_ => (P0_ k_ ∨ w.heap.size ≤ k_))) (HO_0.out) hg hat)).2.2) KL19.out)); have n4_ := Aside0.mk ((show Kd.C (Kd.int .i64) w23 A22 y103016.length y103016 from by rw [Ny103016.out, KA22.out]; exact Kd.C_drop (m := (x5_1 : Int).toNat) (c := co16) ((Kd.R_reads' (Kd.R_after (ok := (fun k_ => (P0_ k_ ∨ w.heap.size ≤ k_))) (HO_0.out) hg hat)).2.2) KL22.out ((Kd.R_reads' (Kd.R_after (ok := (fun k_ => (P0_ k_ ∨ w.heap.size ≤ k_))) (HO_0.out) hg hat)).2.1))); have n5_ := Aside0.mk (ho); clear HO_0; clear HB; clear HK; clear HR103009; clear HR103019; clear HO103015; have HO_0 := n0_; have HB := n1_; have HK := n2_; have HR103009 := n3_; have HR103019 := n4_; have HO103022 := n5_; clear n0_ n1_ n2_ n3_ n4_ n5_; clear ho hb hg hat))
           go_ret
           exact ⟨_, by first | rfl | (simp [errW_none, errW_some] <;> rfl) | (simp [*, errW_none, errW_some] <;> rfl), by exact Kd.R_mono HO103022.out (fun _ hk => hk.1), by repeat (first | exact HB.out | apply below_alloc | apply pw_below_drewN | apply below_drew1), by repeat (first | (with_reducible first | exact HK.out | apply Kept.alloc | apply Kept.drewN | apply Kept.drew) | exact HK.out)⟩
          ·rw [if_neg c15] at H
           exact absurd H (by simp)
         ·rw [if_neg c12] at H
          exact absurd H (by simp)
        ·rw [if_neg c11] at H
         exact absurd H (by simp)
       ·rw [if_neg c10] at H
        exact absurd H (by simp)
    ·rw [if_neg c4] at H
     exact absurd H (by simp)
   ·rw [if_neg c3] at H
    have c3b0 : decide (x5_1 < (l0.length : Int)) = false := decide_eq_false c3
    clear c3
    obtain ⟨y103023, hy103023⟩ : ∃ y_ : List Int, y_ = (([] : List Int)) := ⟨_, rfl⟩
    replace H : (if 0 ≤ x5_1 then (if x5_1 ≤ (l0.length : Int) then ((some (l0.take (x5_1 : Int).toNat : List Int)).bind fun y103026 => (if y103023.length + y103026.length < 17592186044416 then ((some (y103023 ++ y103026 : List Int)).bind fun y103030 => (if y103030.length < 17592186044416 then ((some (y103030 ++ [a1] : List Int)).bind fun y103033 => ((some (l0.drop (x5_1 : Int).toNat : List Int)).bind fun y103036 => (if y103033.length + y103036.length < 17592186044416 then (some (y103033 ++ y103036)) else (none)))) else (none))) else (none))) else (none)) else (none)) = some r := by first | (rw [hy103023]; with_reducible exact H) | (have H2_ := (Option.bind_some _ _).symm.trans H; rw [hy103023]; with_reducible exact H2_) | (have H2_ := (Option.bind_some _ _).symm.trans H; with_reducible exact H2_) | with_reducible exact H | (rw [hy103023]; exact H) | exact H
    have Ny103023 := Aside0.mk hy103023
    clear hy103023
    by_cases c24 : 0 ≤ x5_1
    ·rw [if_pos c24] at H
     have c24b0 := eq_true c24
     have c24b1 : decide (0 ≤ x5_1) = true := decide_eq_true c24
     clear c24
     by_cases c25 : x5_1 ≤ (l0.length : Int)
     ·rw [if_pos c25] at H
      have c25b0 := eq_true c25
      have c25b1 : decide (x5_1 ≤ (l0.length : Int)) = true := decide_eq_true c25
      clear c25
      obtain ⟨y103026, hy103026⟩ : ∃ y_ : List Int, y_ = (l0.take (x5_1 : Int).toNat) := ⟨_, rfl⟩
      replace H : (if y103023.length + y103026.length < 17592186044416 then ((some (y103023 ++ y103026 : List Int)).bind fun y103030 => (if y103030.length < 17592186044416 then ((some (y103030 ++ [a1] : List Int)).bind fun y103033 => ((some (l0.drop (x5_1 : Int).toNat : List Int)).bind fun y103036 => (if y103033.length + y103036.length < 17592186044416 then (some (y103033 ++ y103036)) else (none)))) else (none))) else (none)) = some r := by first | (rw [hy103026]; with_reducible exact H) | (have H2_ := (Option.bind_some _ _).symm.trans H; rw [hy103026]; with_reducible exact H2_) | (have H2_ := (Option.bind_some _ _).symm.trans H; with_reducible exact H2_) | with_reducible exact H | (rw [hy103026]; exact H) | exact H
      have Ny103026 := Aside0.mk hy103026
      clear hy103026
      by_cases c26 : y103023.length + y103026.length < 17592186044416
      ·rw [if_pos c26] at H
       have LMc26 := Aside0.mk c26
       clear c26
       obtain ⟨y103030, hy103030⟩ : ∃ y_ : List Int, y_ = (y103023 ++ y103026) := ⟨_, rfl⟩
       replace H : (if y103030.length < 17592186044416 then ((some (y103030 ++ [a1] : List Int)).bind fun y103033 => ((some (l0.drop (x5_1 : Int).toNat : List Int)).bind fun y103036 => (if y103033.length + y103036.length < 17592186044416 then (some (y103033 ++ y103036)) else (none)))) else (none)) = some r := by first | (rw [hy103030]; with_reducible exact H) | (have H2_ := (Option.bind_some _ _).symm.trans H; rw [hy103030]; with_reducible exact H2_) | (have H2_ := (Option.bind_some _ _).symm.trans H; with_reducible exact H2_) | with_reducible exact H | (rw [hy103030]; exact H) | exact H
       have Ny103030 := Aside0.mk hy103030
       clear hy103030
       by_cases c27 : y103030.length < 17592186044416
       ·rw [if_pos c27] at H
        have LMc27 := Aside0.mk c27
        clear c27
        obtain ⟨y103033, hy103033⟩ : ∃ y_ : List Int, y_ = (y103030 ++ [a1]) := ⟨_, rfl⟩
        replace H : ((some (l0.drop (x5_1 : Int).toNat : List Int)).bind fun y103036 => (if y103033.length + y103036.length < 17592186044416 then (some (y103033 ++ y103036)) else (none))) = some r := by first | (rw [hy103033]; with_reducible exact H) | (have H2_ := (Option.bind_some _ _).symm.trans H; rw [hy103033]; with_reducible exact H2_) | (have H2_ := (Option.bind_some _ _).symm.trans H; with_reducible exact H2_) | with_reducible exact H | (rw [hy103033]; exact H) | exact H
        have Ny103033 := Aside0.mk hy103033
        clear hy103033
        have c28b0 := eq_true (of_decide_eq_true (by assumption) : 0 ≤ x5_1)
        have c29b0 := eq_true (of_decide_eq_true (by assumption) : x5_1 ≤ (l0.length : Int))
        obtain ⟨y103036, hy103036⟩ : ∃ y_ : List Int, y_ = (l0.drop (x5_1 : Int).toNat) := ⟨_, rfl⟩
        replace H : (if y103033.length + y103036.length < 17592186044416 then (some (y103033 ++ y103036)) else (none)) = some r := by first | (rw [hy103036]; with_reducible exact H) | (have H2_ := (Option.bind_some _ _).symm.trans H; rw [hy103036]; with_reducible exact H2_) | (have H2_ := (Option.bind_some _ _).symm.trans H; with_reducible exact H2_) | with_reducible exact H | (rw [hy103036]; exact H) | exact H
        have Ny103036 := Aside0.mk hy103036
        clear hy103036
        by_cases c30 : y103033.length + y103036.length < 17592186044416
        ·rw [if_pos c30] at H
         have LMc30 := Aside0.mk c30
         clear c30
         obtain ⟨y103040, hy103040⟩ : ∃ y_ : List Int, y_ = (y103033 ++ y103036) := ⟨_, rfl⟩
         replace H : (some y103040) = some r := by first | (rw [hy103040]; with_reducible exact H) | (have H2_ := (Option.bind_some _ _).symm.trans H; rw [hy103040]; with_reducible exact H2_) | (have H2_ := (Option.bind_some _ _).symm.trans H; with_reducible exact H2_) | with_reducible exact H | (rw [hy103040]; exact H) | exact H
         have Ny103040 := Aside0.mk hy103040
         clear hy103040
         obtain rfl := Option.some.inj H
         obtain ⟨Ao31, co31, eo31⟩ := Kd.R_slice HO_0.out
         subst eo31
         go_wp2_with (first | ((with_reducible refine gate_dst (N := 34) rfl ?_); refine Kd.R_lit (Kd.int .i64) _ 3 ?hg (N := 34) ?hd (xs := ([] : List Int)) (inner := []) (ok := fun _ => True) (okp := fun _ => True) ?hr ?hp (fun _ hk => hk) trivial (Below.refl _ _) (Nat.le_refl _) (by simp) ?_; (case hd => rfl); (case hg => rfl); (case hr => first | (go_simp; done) | (go_simp; rfl)); (case hp => exact (Reps.none _ _)); intro v103024 w32 ho33 hb hg_ hnew_; clear hg_ hnew_; (first | rw [← Ny103023.out] at ho33 | (simp only [Int.reduceToNat] at ho33; rw [← Ny103023.out] at ho33)); have n0_ := Aside0.mk (Kd.R_elder' (HO_0.out) (Kd.R_base ho33) hb); have n1_ := Aside0.mk (Kd.R_lower (Kd.R_new' (Kd.R_newM (M := fun k_ => (P0_ k_ ∨ w.heap.size ≤ k_)) ho33 (by first | exact HK.out.1 | exact (show Kept w _ (fun k_ => P0_ k_) from by repeat (first | (with_reducible first | exact HK.out | apply Kept.alloc | apply Kept.drewN | apply Kept.drew) | exact HK.out)).1) (fun k_ h_ => .inr h_)) (Kd.R_lt (HO_0.out))) (below_size (by repeat (first | exact HB.out | apply below_alloc | apply pw_below_drewN | apply below_drew1)))); have n2_ := Aside0.mk (Kept.below (S := (fun k_ => P0_ k_)) (by repeat (first | (with_reducible first | exact HK.out | apply Kept.alloc | apply Kept.drewN | apply Kept.drew) | exact HK.out)) hb); have n3_ := Aside0.mk (below_step (by repeat (first | exact HB.out | apply below_alloc | apply pw_below_drewN | apply below_drew1)) hb); clear HO_0; clear HK; clear HB; have HO_0 := n0_; have HO103025 := n1_; have HK := n2_; have HB := n3_; clear n0_ n1_ n2_ n3_; clear hb ho33; have q34 : (x5_1 : Int) ≤ ((l0.length : Int) : Int) := of_decide_eq_true (by assumption); obtain ⟨i034, hi034, _, hsz34, _⟩ := info_parts info3; have hroom34 : l0.length ≤ co31 := (Kd.R_reads' HO_0.out).2.1; have hC34 : Kd.C (Kd.int .i64) _ Ao31 l0.length l0 := (Kd.R_reads' HO_0.out).2.2; have hcut34 := cut_to (P := Try.prog) 80 3 .i64 Try.underlying80 hi034 Ao31 l0.length co31 x5_1 (of_decide_eq_true (by assumption)) q34 hroom34; have hr34 := Kd.C_take (m := (x5_1 : Int).toNat) hC34 (by omega); have hy34 : y103026.length = (x5_1 : Int).toNat := (by rw [Ny103026.out, List.length_take]; omega); rw [← Ny103026.out] at hr34; rw [← hy34] at hcut34; have HR103029 := Aside0.mk hr34; have HC103029 := Aside0.mk (show y103026.length ≤ co31 from by omega); clear hr34 hC34 hroom34 hi034 hsz34; have KY34 := Aside0.mk hy34; clear hy34; have KL34 := Aside0.mk (show (x5_1 : Int).toNat ≤ l0.length from by omega); replace q34 := eq_true q34) | ((with_reducible refine gate_builtin (b := .append) (xs := #[.tmp 34, .tmp 37]) rfl ?_); at_builtin; refine Kd.R_append_rows (Kd.int .i64) (w0 := w0) w0.heap.size rfl (.tmp 34) (.tmp 37) 80 3 (.int .i64 0) 8 rfl Try.underlying80 info3 rfl (by decide) (by omega) v103024 y103023 y103026 _ _ _ (fun k_ => (P0_ k_ ∨ w.heap.size ≤ k_) ∧ some k_ ≠ (.slice Ao31 l0.length co31 : Value).ownBlock) (fun _ => False) rfl rfl ?aO ?aR (fun _ _ h => h) (fun _ h => h.elim) ?aF ?aB ?aS ?aL ?_; (case aR => repeat (first | exact (by repeat (first | (with_reducible exact HR103029.out) | (with_reducible refine Kd.C_alloc ?_ _) | (with_reducible refine Kd.C_drewN ?_ _) | (with_reducible refine Kd.C_drew ?_) | exact HR103029.out)) | (with_reducible refine Kd.C_alloc ?_ _) | (with_reducible refine Kd.C_drewN ?_ _) | (with_reducible refine Kd.C_drew ?_))); (case aB => exact (by repeat (first | exact HB.out | apply below_alloc | apply pw_below_drewN | apply below_drew1))); (case aF => exact (fun k_ hk => ⟨(.inr (Nat.le_trans (by first | exact HK.out.1 | exact (show Kept w _ (fun k_ => P0_ k_) from by repeat (first | (with_reducible first | exact HK.out | apply Kept.alloc | apply Kept.drewN | apply Kept.drew) | exact HK.out)).1) hk)), Kd.fresh' (Kd.R_lt (HO_0.out)) k_ hk⟩)); (case aO => exact (by exact Kd.R_mono HO103025.out (fun _ hk => ⟨hk.1.1, hk.2⟩))); (case aS => exact (below_size (by repeat (first | exact HB.out | apply below_alloc | apply pw_below_drewN | apply below_drew1)))); (case aL => have := LMc26.out; omega); intro v103031 w35 ho hb hg hat; rw [← Ny103030.out] at ho; have n0_ := Aside0.mk (Kd.R_after (ok := (fun k_ => (P0_ k_ ∨ w.heap.size ≤ k_))) (HO_0.out) hg hat); have n1_ := Aside0.mk (hb); have n2_ := Aside0.mk (Kept.of_grown (S := (fun k_ => P0_ k_)) hg (by repeat (first | (with_reducible first | exact HK.out | apply Kept.alloc | apply Kept.drewN | apply Kept.drew) | exact HK.out)) (fun k_ e_ => (HO103025.out.1 k_ e_).1.1)); have n3_ := Aside0.mk ((show Kd.C (Kd.int .i64) w35 Ao31 y103026.length y103026 from by rw [Ny103026.out]; exact Kd.C_take (m := (x5_1 : Int).toNat) ((Kd.R_reads' (Kd.R_after (ok := (fun k_ => (P0_ k_ ∨ w.heap.size ≤ k_))) (HO_0.out) hg hat)).2.2) KL34.out)); have n4_ := Aside0.mk (ho); clear HO_0; clear HB; clear HK; clear HR103029; clear HO103025; have HO_0 := n0_; have HB := n1_; have HK := n2_; have HR103029 := n3_; have HO103032 := n4_; clear n0_ n1_ n2_ n3_ n4_; clear ho hb hg hat) | ((with_reducible refine gate_builtin (b := .append) (xs := #[.tmp 39, .tmp 41]) rfl ?_); at_builtin; refine Kd.R_append (Kd.int .i64) (w0 := w0) w0.heap.size rfl (.tmp 39) (.tmp 41) 80 3 (.int .i64 0) 8 rfl Try.underlying80 info3 rfl (by decide) (by omega) v103031 y103030 a1 [.int .i64 a1] (fun k_ => (P0_ k_ ∨ w.heap.size ≤ k_) ∧ some k_ ≠ (.slice Ao31 l0.length co31 : Value).ownBlock) (fun _ => False) rfl rfl ?aP (fun _ hk => hk.elim) ?aF ?aO ?aB ?aS ?aL ?_; (case aP => exact rfl); (case aB => exact (by repeat (first | exact HB.out | apply below_alloc | apply pw_below_drewN | apply below_drew1))); (case aF => exact (fun k_ hk => ⟨(.inr (Nat.le_trans (by first | exact HK.out.1 | exact (show Kept w _ (fun k_ => P0_ k_) from by repeat (first | (with_reducible first | exact HK.out | apply Kept.alloc | apply Kept.drewN | apply Kept.drew) | exact HK.out)).1) hk)), Kd.fresh' (Kd.R_lt (HO_0.out)) k_ hk⟩)); (case aO => exact (HO103032.out)); (case aS => exact (below_size (by repeat (first | exact HB.out | apply below_alloc | apply pw_below_drewN | apply below_drew1)))); (case aL => have := LMc27.out; omega); intro v103034 w36 ho hb hg hat; rw [← Ny103033.out] at ho; have n0_ := Aside0.mk (Kd.R_after (ok := (fun k_ => (P0_ k_ ∨ w.heap.size ≤ k_))) (HO_0.out) hg hat); have n1_ := Aside0.mk (hb); have n2_ := Aside0.mk (Kept.of_grown (S := (fun k_ => P0_ k_)) hg (by repeat (first | (with_reducible first | exact HK.out | apply Kept.alloc | apply Kept.drewN | apply Kept.drew) | exact HK.out)) (fun k_ e_ => (HO103032.out.1 k_ e_).1)); have n3_ := Aside0.mk ((show Kd.C (Kd.int .i64) w36 Ao31 y103026.length y103026 from by rw [Ny103026.out]; exact Kd.C_take (m := (x5_1 : Int).toNat) ((Kd.R_reads' (Kd.R_after (ok := (fun k_ => (P0_ k_ ∨ w.heap.size ≤ k_))) (HO_0.out) hg hat)).2.2) KL34.out)); have n4_ := Aside0.mk (ho); clear HO_0; clear HB; clear HK; clear HR103029; clear HO103032; have HO_0 := n0_; have HB := n1_; have HK := n2_; have HR103029 := n3_; have HO103035 := n4_; clear n0_ n1_ n2_ n3_ n4_; clear ho hb hg hat; have q37 : (x5_1 : Int) ≤ ((l0.length : Int) : Int) := of_decide_eq_true (by assumption); obtain ⟨i037, hi037, _, hsz37, _⟩ := info_parts info3; have hroom37 : l0.length ≤ co31 := (Kd.R_reads' HO_0.out).2.1; have hC37 : Kd.C (Kd.int .i64) _ Ao31 l0.length l0 := (Kd.R_reads' HO_0.out).2.2; have q037 : (0 : Int) ≤ (x5_1 : Int) := of_decide_eq_true (by assumption); have hcut37 := cut_from (P := Try.prog) 80 3 .i64 Try.underlying80 hi037 1 hsz37 Ao31 l0.length co31 x5_1 q037 q37; have hr37 := Kd.C_drop (m := (x5_1 : Int).toNat) (c := co31) hC37 (by omega) hroom37; obtain ⟨A37, hA37⟩ : ∃ A1, A1 = (if co31 = (x5_1 : Int).toNat then Ao31 else (Ao31 : Option Addr).map (·.add ((x5_1 : Int).toNat * 1))) := ⟨_, rfl⟩; obtain ⟨c37, hc37⟩ : ∃ c1, c1 = co31 - (x5_1 : Int).toNat := ⟨_, rfl⟩; have hy37 : y103036.length = l0.length - (x5_1 : Int).toNat := (by rw [Ny103036.out, List.length_drop] <;> omega); rw [show (l0).drop (x5_1 : Int).toNat = y103036 from Ny103036.out.symm] at hr37; replace hr37 : Kd.C (Kd.int .i64) _ A37 y103036.length y103036 := (by rw [hA37]; exact hr37); rw [← hy37, ← hA37, ← hc37] at hcut37; have HR103039 := Aside0.mk hr37; have HC103039 := Aside0.mk (show y103036.length ≤ c37 from by rw [hy37, hc37]; exact Nat.sub_le_sub_right hroom37 _); clear hr37 hC37 hroom37 hi037 hsz37 hc37; have KY37 := Aside0.mk hy37; have KA37 := Aside0.mk hA37; clear hy37 hA37; have KL37 := Aside0.mk (show (x5_1 : Int).toNat ≤ l0.length from by omega); replace q37 := eq_true q37) | ((with_reducible refine gate_builtin (b := .append) (xs := #[.tmp 43, .tmp 46]) rfl ?_); at_builtin; refine Kd.R_append_rows (Kd.int .i64) (w0 := w0) w0.heap.size rfl (.tmp 43) (.tmp 46) 80 3 (.int .i64 0) 8 rfl Try.underlying80 info3 rfl (by decide) (by omega) v103034 y103033 y103036 _ _ _ (fun k_ => (P0_ k_ ∨ w.heap.size ≤ k_) ∧ some k_ ≠ (.slice Ao31 l0.length co31 : Value).ownBlock) (fun _ => False) rfl rfl ?aO ?aR (fun _ _ h => h) (fun _ h => h.elim) ?aF ?aB ?aS ?aL ?_; (case aR => repeat (first | exact (by repeat (first | (with_reducible exact HR103039.out) | (with_reducible refine Kd.C_alloc ?_ _) | (with_reducible refine Kd.C_drewN ?_ _) | (with_reducible refine Kd.C_drew ?_) | exact HR103039.out)) | (with_reducible refine Kd.C_alloc ?_ _) | (with_reducible refine Kd.C_drewN ?_ _) | (with_reducible refine Kd.C_drew ?_))); (case aB => exact (by repeat (first | exact HB.out | apply below_alloc | apply pw_below_drewN | apply below_drew1))); (case aF => exact (fun k_ hk => ⟨(.inr (Nat.le_trans (by first | exact HK.out.1 | exact (show Kept w _ (fun k_ => P0_ k_) from by repeat (first | (with_reducible first | exact HK.out | apply Kept.alloc | apply Kept.drewN | apply Kept.drew) | exact HK.out)).1) hk)), Kd.fresh' (Kd.R_lt (HO_0.out)) k_ hk⟩)); (case aO => exact (HO103035.out)); (case aS => exact (below_size (by repeat (first | exact HB.out | apply below_alloc | apply pw_below_drewN | apply below_drew1)))); (case aL => have := LMc30.out; omega); intro v103041 w38 ho hb hg hat; rw [← Ny103040.out] at ho; have n0_ := Aside0.mk (Kd.R_after (ok := (fun k_ => (P0_ k_ ∨ w.heap.size ≤ k_))) (HO_0.out) hg hat); have n1_ := Aside0.mk (hb); have n2_ := Aside0.mk (Kept.of_grown (S := (fun k_ => P0_ k_)) hg (by repeat (first | (with_reducible first | exact HK.out | apply Kept.alloc | apply Kept.drewN | apply Kept.drew) | exact HK.out)) (fun k_ e_ => (HO103035.out.1 k_ e_).1)); have n3_ := Aside0.mk ((show Kd.C (Kd.int .i64) w38 Ao31 y103026.length y103026 from by rw [Ny103026.out]; exact Kd.C_take (m := (x5_1 : Int).toNat) ((Kd.R_reads' (Kd.R_after (ok := (fun k_ => (P0_ k_ ∨ w.heap.size ≤ k_))) (HO_0.out) hg hat)).2.2) KL34.out)); have n4_ := Aside0.mk ((show Kd.C (Kd.int .i64) w38 A37 y103036.length y103036 from by rw [Ny103036.out, KA37.out]; exact Kd.C_drop (m := (x5_1 : Int).toNat) (c := co31) ((Kd.R_reads' (Kd.R_after (ok := (fun k_ => (P0_ k_ ∨ w.heap.size ≤ k_))) (HO_0.out) hg hat)).2.2) KL37.out ((Kd.R_reads' (Kd.R_after (ok := (fun k_ => (P0_ k_ ∨ w.heap.size ≤ k_))) (HO_0.out) hg hat)).2.1))); have n5_ := Aside0.mk (ho); clear HO_0; clear HB; clear HK; clear HR103029; clear HR103039; clear HO103035; have HO_0 := n0_; have HB := n1_; have HK := n2_; have HR103029 := n3_; have HR103039 := n4_; have HO103042 := n5_; clear n0_ n1_ n2_ n3_ n4_ n5_; clear ho hb hg hat))
         go_ret
         exact ⟨_, by first | rfl | (simp [errW_none, errW_some] <;> rfl) | (simp [*, errW_none, errW_some] <;> rfl), by exact Kd.R_mono HO103042.out (fun _ hk => hk.1), by repeat (first | exact HB.out | apply below_alloc | apply pw_below_drewN | apply below_drew1), by repeat (first | (with_reducible first | exact HK.out | apply Kept.alloc | apply Kept.drewN | apply Kept.drew) | exact HK.out)⟩
        ·rw [if_neg c30] at H
         exact absurd H (by simp)
       ·rw [if_neg c27] at H
        exact absurd H (by simp)
      ·rw [if_neg c26] at H
       exact absurd H (by simp)
     ·rw [if_neg c25] at H
      exact absurd H (by simp)
    ·rw [if_neg c24] at H
     exact absurd H (by simp)

end Go.Proofs.Ytcnkmdonbpgjiaa.G

namespace Go.Proofs.Ytcnkmdonbpgjiaa.G
open Go.RowKit Go.Proofs.YtcnkmdonbpgjiaaW.PrintWords Go.Proofs.YtcnkmdonbpgjiaaW.PrintLast Go.Proofs.YtcnkmdonbpgjiaaW.PrintMore
attribute [local go_sem] max2_int min2_int max_two min_two max_three min_three max_four min_four   -- for this text's walks alone
set_option linter.unusedVariables false
set_option linter.unusedSimpArgs false

mutual
def papermillref04_ends.l0 : Nat → List (S37) → List (S37) → List Int → Int → Option (List Int)
 | 0, _, _, _, _ => none
 | k + 1, x0, x1, x5, x6 => if x6 < (x0.length : Int) then (if 0 ≤ x6 then ((papermillref04_with.f k x5 ((rd_T37 x0 x6).f0)).bind fun t82002 => ((papermillref04_with.f k t82002 ((rd_T37 x0 x6).f1)).bind fun t82006 => (papermillref04_ends.l0 k x0 x1 t82006 (wrap64 (x6 + 1))))) else (none)) else (papermillref04_ends.l1 k x1 x5 0)
def papermillref04_ends.l1 : Nat → List (S37) → List Int → Int → Option (List Int)
 | 0, _, _, _ => none
 | k + 1, x1, x5, x7 => if x7 < (x1.length : Int) then (if 0 ≤ x7 then ((papermillref04_with.f k x5 ((rd_T37 x1 x7).f0)).bind fun t82010 => ((papermillref04_with.f k t82010 ((rd_T37 x1 x7).f1)).bind fun t82014 => (papermillref04_ends.l1 k x1 t82014 (wrap64 (x7 + 1))))) else (none)) else (some x5)
end
def papermillref04_ends.f (k : Nat) (l0 : List (S37)) (l1 : List (S37)) : Option (List Int) := papermillref04_ends.l0 k l0 l1 ([] : List Int) 0
theorem papermillref04_ends.mono_l : ∀ k, (∀ y0 y1 y2 y3, LeO (papermillref04_ends.l0 k y0 y1 y2 y3) (papermillref04_ends.l0 (k + 1) y0 y1 y2 y3)) ∧ (∀ y0 y1 y2, LeO (papermillref04_ends.l1 k y0 y1 y2) (papermillref04_ends.l1 (k + 1) y0 y1 y2))
 | 0 => ⟨fun _ _ _ _ r h => by simp [papermillref04_ends.l0] at h, fun _ _ _ r h => by simp [papermillref04_ends.l1] at h⟩
 | k + 1 => by
  obtain ⟨ih0, ih1⟩ := papermillref04_ends.mono_l k
  refine ⟨?_, ?_⟩
  ·intro y0 y1 y2 y3
   unfold papermillref04_ends.l0
   repeat' first
   | (with_reducible exact ih0 _ _ _ _)
   | (with_reducible exact ih1 _ _ _)
   | (with_reducible exact papermillref04_with.mono _ _ _)
   | (with_reducible exact LeO.refl _)
   | (with_reducible exact LeO.none _)
   | (with_reducible refine LeO.ite ?_ ?_)
   | (with_reducible refine LeO.bind ?_ (fun _ => ?_))
   | exact ih0 _ _ _ _
   | exact ih1 _ _ _
   | exact papermillref04_with.mono _ _ _
   | exact LeO.none _
   | refine LeO.ite ?_ ?_
   | refine LeO.bind ?_ (fun _ => ?_)
  ·intro y0 y1 y2
   unfold papermillref04_ends.l1
   repeat' first
   | (with_reducible exact ih0 _ _ _ _)
   | (with_reducible exact ih1 _ _ _)
   | (with_reducible exact papermillref04_with.mono _ _ _)
   | (with_reducible exact LeO.refl _)
   | (with_reducible exact LeO.none _)
   | (with_reducible refine LeO.ite ?_ ?_)
   | (with_reducible refine LeO.bind ?_ (fun _ => ?_))
   | exact ih0 _ _ _ _
   | exact ih1 _ _ _
   | exact papermillref04_with.mono _ _ _
   | exact LeO.none _
   | refine LeO.ite ?_ ?_
   | refine LeO.bind ?_ (fun _ => ?_)
theorem papermillref04_ends.mono : ∀ a0 a1 k, LeO (papermillref04_ends.f k a0 a1) (papermillref04_ends.f (k + 1) a0 a1) := by
 intro a0 a1 k
 obtain ⟨ih0, ih1⟩ := papermillref04_ends.mono_l k
 unfold papermillref04_ends.f
 repeat' first
   | (with_reducible exact ih0 _ _ _ _)
   | (with_reducible exact ih1 _ _ _)
   | (with_reducible exact papermillref04_with.mono _ _ _)
   | (with_reducible exact LeO.refl _)
   | (with_reducible exact LeO.none _)
   | (with_reducible refine LeO.ite ?_ ?_)
   | (with_reducible refine LeO.bind ?_ (fun _ => ?_))
   | exact ih0 _ _ _ _
   | exact ih1 _ _ _
   | exact papermillref04_with.mono _ _ _
   | exact LeO.none _
   | refine LeO.ite ?_ ?_
   | refine LeO.bind ?_ (fun _ => ?_)
def papermillref04_ends.T5 : Bool × List (List Nat × List Nat) := (true, [([], []), ([], []), ([], []), ([1, 2], [1, 2]), ([3], [3]), ([4], [4]), ([0, 5], [0, 5]), ([], []), ([], []), ([7, 8], [7, 8]), ([9], [9]), ([10], [10]), ([6, 11, 6], [6, 11]), ([12, 12, 0, 1, 2, 3, 4, 5, 6, 7, 8, 9, 10, 11, 12], [0, 12])])
def papermillref04_ends.B5 : List Nat := [0, 0, 0, 6, 14, 30, 63, 0, 0, 384, 896, 1920, 4095, 8191]
theorem papermillref04_ends.tab5 : rtab .any (opsOf Try.f81 5) = papermillref04_ends.T5 := by kernel_rfl
theorem papermillref04_ends.bits5 : waitsOk papermillref04_ends.T5.2 papermillref04_ends.B5 = true := by kernel_rfl
def papermillref04_ends.T9 : Bool × List (List Nat × List Nat) := (true, [([], []), ([], []), ([], []), ([1, 2], [1, 2]), ([3], [3]), ([4], [4]), ([0, 5], [0, 5]), ([], []), ([], []), ([7, 8], [7, 8]), ([9], [9]), ([10], [10]), ([6, 11, 6], [6, 11]), ([12, 12, 0, 1, 2, 3, 4, 5, 6, 7, 8, 9, 10, 11, 12], [0, 12])])
def papermillref04_ends.B9 : List Nat := [0, 0, 0, 6, 14, 30, 63, 0, 0, 384, 896, 1920, 4095, 8191]
theorem papermillref04_ends.tab9 : rtab .any (opsOf Try.f81 9) = papermillref04_ends.T9 := by kernel_rfl
theorem papermillref04_ends.bits9 : waitsOk papermillref04_ends.T9.2 papermillref04_ends.B9 = true := by kernel_rfl
set_option maxHeartbeats 8000000 in
set_option maxRecDepth 100000 in
theorem papermillref04_ends.calls (k : Nat) (A0 : Option Addr) (c0 : Nat) (l0 : List (S37)) (A1 : Option Addr) (c1 : Nat) (l1 : List (S37)) (r : List Int) (w : World) (hr0 : Kd.C k37 w A0 l0.length l0) (hc0 : l0.length ≤ c0) (hr1 : Kd.C k37 w A1 l1.length l1) (hc1 : l1.length ≤ c1) (h : papermillref04_ends.f k l0 l1 = some r) :
  Calls Try.prog 81 #[.slice A0 l0.length c0, .slice A1 l1.length c1] w fun e w' => ∃ v0_ : Value, e = .returned (v0_) ∧ Kd.R (Kd.int .i64) 3 w' w.heap.size (fun _ => True) v0_ r ∧ Below w.heap.size w w' := by
 have HR0 := Aside0.mk hr0
 have HC0 := Aside0.mk hc0
 clear hr0 hc0
 have HR1 := Aside0.mk hr1
 have HC1 := Aside0.mk hc1
 clear hr1 hc1
 have HB := Aside0.mk (Below.refl w.heap.size w)
 have H : (papermillref04_ends.l0 k l0 l1 ([] : List Int) 0) = some r := h
 clear h
 have H' := Aside0.mk H
 clear H
 go_enter Try.func81, Try.ntmps81
 go_wp2
 go_loopg [5, 6] k (fun kq v5 v6 w' => ∃ (x5_1 : List Int) (x6_1 : Int), v6 = .int .i64 x6_1 ∧ Aside0 (papermillref04_ends.l0 kq l0 l1 x5_1 x6_1 = some r) ∧ Aside0 (kq ≤ k) ∧ Aside0 (Kd.R (Kd.int .i64) 3 w' w.heap.size (fun _ => True) v5 x5_1) ∧ Aside0 (Below w.heap.size w w'))
 case atStart => exact ⟨(([] : List Int)), (0), (by first | rfl | (simp; done) | (simp [*]; done)), H', ⟨Nat.le_refl _⟩, ⟨by first | exact Kd.R_nil _ _ _ _ _ | exact Kd.N_nil _ _ _ _ _ | exact Kd.V_nil _ _ _ _ _ | exact Kd.Q_nil _ _ _ _ _ | exact Kd.S_nil _ _ _ _ _⟩, ⟨by repeat (first | exact HB.out | apply below_alloc | apply pw_below_drewN | apply below_drew1)⟩⟩
 case round =>
  clear H'
  try clear c1
  try clear p2
  obtain ⟨x5_1, x6_1, rfl, HA, HK1, HO_5, HB⟩ := hrel
  cases gk with
  | zero => exact absurd HA.out (by simp [papermillref04_ends.l0])
  | succ k1 =>
   have H := HA.out
   clear HA
   simp only [papermillref04_ends.l0] at H
   by_cases c3 : x6_1 < (l0.length : Int)
   ·rw [if_pos c3] at H
    have c3b0 : decide (x6_1 < (l0.length : Int)) = true := decide_eq_true c3
    clear c3
    by_cases c4 : 0 ≤ x6_1
    ·rw [if_pos c4] at H
     have c4b0 : decide (0 ≤ x6_1) = true := decide_eq_true c4
     clear c4
     replace H := Option.bind_eq_some_iff.mp H
     obtain ⟨t82002, A50, H⟩ := H
     replace H : ((papermillref04_with.f k1 t82002 ((rd_T37 l0 x6_1).f1)).bind fun t82006 => (papermillref04_ends.l0 k1 l0 l1 t82006 (wrap64 (x6_1 + 1)))) = some r := H
     have A5 := Aside0.mk A50
     clear A50
     replace H := Option.bind_eq_some_iff.mp H
     obtain ⟨t82006, A60, H⟩ := H
     replace H : (papermillref04_ends.l0 k1 l0 l1 t82006 (wrap64 (x6_1 + 1))) = some r := H
     have A6 := Aside0.mk A60
     clear A60
     have H' := Aside0.mk H
     clear H
     try go_wp2
     have n0_ := Aside0.mk (Kd.R_drew HO_5.out)
     have n1_ := Aside0.mk (below_drew1 HB.out)
     clear HO_5
     clear HB
     have HO_5 := n0_
     have HB := n1_
     clear n0_ n1_
     have p82001 : 0 ≤ (x6_1 : Int) := of_decide_eq_true (by assumption)
     have q82001 : x6_1 < (l0.length : Int) := of_decide_eq_true (by assumption)
     obtain ⟨ad82001, e82001, hx82001_0, hx82001_1⟩ := at_T37 HR0.out x6_1 p82001 q82001
     have hw82001_1 := hx82001_1
     have hw82001_0 := hx82001_0
     cases e82001
     replace hx82001_0 := (HB.out.cell (World.block_lt_of_cell? w _ hx82001_0)).trans hx82001_0
     replace hx82001_1 := (HB.out.cell (World.block_lt_of_cell? w _ hx82001_1)).trans hx82001_1
     replace p82001 := eq_true p82001
     replace q82001 := eq_true q82001
     have p82005 : 0 ≤ (x6_1 : Int) := of_decide_eq_true (by assumption)
     have q82005 : x6_1 < (l0.length : Int) := of_decide_eq_true (by assumption)
     obtain ⟨ad82005, e82005, hx82005_0, hx82005_1⟩ := at_T37 HR0.out x6_1 p82005 q82005
     have hw82005_1 := hx82005_1
     have hw82005_0 := hx82005_0
     obtain rfl : ad82001 = ad82005 := (by injection e82005)
     replace hx82005_0 := (HB.out.cell (World.block_lt_of_cell? w _ hx82005_0)).trans hx82005_0
     replace hx82005_1 := (HB.out.cell (World.block_lt_of_cell? w _ hx82005_1)).trans hx82005_1
     replace p82005 := eq_true p82005
     replace q82005 := eq_true q82005
     obtain ⟨Ao8, co8, eo8⟩ := Kd.R_slice HO_5.out
     (first | subst eo8 | (injection eo8 with f1_ f2_ f3_; have f4_ := f1_.symm; have f5_ := f3_.symm; clear f1_ f2_ f3_; subst f4_; subst f5_))
     refine start_ (n := 14) (S := fun w' => w'.cell? (ad82001.add ((x6_1).toNat * 2)) = some (.int .i64 ((rd_T37 l0 x6_1).f0)) ∧ w'.cell? ⟨(ad82001.add ((x6_1).toNat * 2)).block, (ad82001.add ((x6_1).toNat * 2)).off + 1, none⟩ = some (.int .i64 ((rd_T37 l0 x6_1).f1)) ∧ w'.cell? (ad82001.add ((x6_1).toNat * 2)) = some (.int .i64 ((rd_T37 l0 x6_1).f0)) ∧ w'.cell? ⟨(ad82001.add ((x6_1).toNat * 2)).block, (ad82001.add ((x6_1).toNat * 2)).off + 1, none⟩ = some (.int .i64 ((rd_T37 l0 x6_1).f1))) (ds := []) #[false, false, false, false, false, false, false, false, false, false, false, false, false, false] (by kernel_rfl) rfl rfl ⟨((HB.out.cell (World.block_lt_of_cell? w _ hw82001_0)).trans hw82001_0), ((HB.out.cell (World.block_lt_of_cell? w _ hw82001_1)).trans hw82001_1), ((HB.out.cell (World.block_lt_of_cell? w _ hw82005_0)).trans hw82005_0), ((HB.out.cell (World.block_lt_of_cell? w _ hw82005_1)).trans hw82005_1)⟩ (fun hHeld => ?_); refine with_tabW papermillref04_ends.tab5 papermillref04_ends.bits5 (fun HT_ HW_ => ?_)
     generalize wr.drew = w7 at HO_5 HB hx82001_0 hx82001_1 hx82005_0 hx82005_1 hHeld ⊢
     refine pure_ (i := 0) (N := some 14) (v := ?_) (a' := ?_) #[true, false, false, false, false, false, false, false, false, false, false, false, false, false] rfl rfl (any_of HT_.out (by kernel_rfl)) (fun _ _ _ h => h) (Or.inl ⟨by rfl, ?_⟩) ?_ ?_
     rotate_left
     ·intro w'
      go_simp
      with_reducible rfl
     rotate_left
     ·simp only [Act.put, List.setIfInBounds_toArray, List.set_cons_zero, List.set_cons_succ, i64_w, i32_w]
      rfl
     refine pure_ (i := 1) (N := some 15) (v := ?_) (a' := ?_) #[true, true, false, false, false, false, false, false, false, false, false, false, false, false] rfl rfl (any_of HT_.out (by kernel_rfl)) (fun _ _ _ h => h) (Or.inl ⟨by rfl, ?_⟩) ?_ ?_
     rotate_left
     ·intro w'
      go_simp
      with_reducible rfl
     rotate_left
     ·simp only [Act.put, List.setIfInBounds_toArray, List.set_cons_zero, List.set_cons_succ, i64_w, i32_w]
      rfl
     refine pure_ (i := 2) (N := some 16) (v := ?_) (a' := ?_) #[true, true, true, false, false, false, false, false, false, false, false, false, false, false] rfl rfl (any_of HT_.out (by kernel_rfl)) (fun _ _ _ h => h) (Or.inl ⟨by rfl, ?_⟩) ?_ ?_
     rotate_left
     ·intro w'
      go_simp
      with_reducible rfl
     rotate_left
     ·simp only [Act.put, List.setIfInBounds_toArray, List.set_cons_zero, List.set_cons_succ, i64_w, i32_w]
      rfl
     refine pure_ (i := 3) (N := some 17) (v := ?_) (a' := ?_) #[true, true, true, true, false, false, false, false, false, false, false, false, false, false] rfl rfl (any_of HT_.out (by kernel_rfl)) (fun _ _ _ h => h) (Or.inl ⟨by rfl, ?_⟩) ?_ ?_
     rotate_left
     ·intro w'
      go_simp
      with_reducible rfl
     rotate_left
     ·simp only [Act.put, List.setIfInBounds_toArray, List.set_cons_zero, List.set_cons_succ, i64_w, i32_w]
      rfl
     refine pure_ (i := 4) (N := some 18) (v := ?_) (a' := ?_) #[true, true, true, true, true, false, false, false, false, false, false, false, false, false] rfl rfl (any_of HT_.out (by kernel_rfl)) (fun _ _ _ h => h) (Or.inl ⟨by rfl, ?_⟩) ?_ ?_
     rotate_left
     ·intro w'
      go_simp
      with_reducible rfl
     rotate_left
     ·simp only [Act.put, List.setIfInBounds_toArray, List.set_cons_zero, List.set_cons_succ, i64_w, i32_w]
      rfl
     refine pure_ (i := 7) (N := some 21) (v := ?_) (a' := ?_) #[true, true, true, true, true, false, false, true, false, false, false, false, false, false] rfl rfl (any_of HT_.out (by kernel_rfl)) (fun _ _ _ h => h) (Or.inl ⟨by rfl, ?_⟩) ?_ ?_
     rotate_left
     ·intro w'
      go_simp
      with_reducible rfl
     rotate_left
     ·simp only [Act.put, List.setIfInBounds_toArray, List.set_cons_zero, List.set_cons_succ, i64_w, i32_w]
      rfl
     refine pure_ (i := 8) (N := some 22) (v := ?_) (a' := ?_) #[true, true, true, true, true, false, false, true, true, false, false, false, false, false] rfl rfl (any_of HT_.out (by kernel_rfl)) (fun _ _ _ h => h) (Or.inl ⟨by rfl, ?_⟩) ?_ ?_
     rotate_left
     ·intro w'
      go_simp
      with_reducible rfl
     rotate_left
     ·simp only [Act.put, List.setIfInBounds_toArray, List.set_cons_zero, List.set_cons_succ, i64_w, i32_w]
      rfl
     refine pure_ (i := 9) (N := some 23) (v := ?_) (a' := ?_) #[true, true, true, true, true, false, false, true, true, true, false, false, false, false] rfl rfl (any_of HT_.out (by kernel_rfl)) (fun _ _ _ h => h) (Or.inl ⟨by rfl, ?_⟩) ?_ ?_
     rotate_left
     ·intro w'
      go_simp
      with_reducible rfl
     rotate_left
     ·simp only [Act.put, List.setIfInBounds_toArray, List.set_cons_zero, List.set_cons_succ, i64_w, i32_w]
      rfl
     refine pure_ (i := 10) (N := some 24) (v := ?_) (a' := ?_) #[true, true, true, true, true, false, false, true, true, true, true, false, false, false] rfl rfl (any_of HT_.out (by kernel_rfl)) (fun _ _ _ h => h) (Or.inl ⟨by rfl, ?_⟩) ?_ ?_
     rotate_left
     ·intro w'
      go_simp
      with_reducible rfl
     rotate_left
     ·simp only [Act.put, List.setIfInBounds_toArray, List.set_cons_zero, List.set_cons_succ, i64_w, i32_w]
      rfl
     refine take_ (i := 5) (N := some 19) (v := ?_) (a' := ?_) #[true, true, true, true, true, true, false, true, true, true, true, false, false, false] rfl rfl (take_ofW HT_.out HW_.out (by kernel_rfl)) (fun _ _ _ h => h) (Or.inl ⟨by rfl, ?_⟩) hHeld ?_ ?_
     rotate_left
     ·rintro w' ⟨s0, s1, s2, s3⟩
      go_simp
      with_reducible rfl
     rotate_left
     ·simp only [Act.put, List.setIfInBounds_toArray, List.set_cons_zero, List.set_cons_succ, i64_w, i32_w]
      rfl
     refine take_ (i := 11) (N := some 25) (v := ?_) (a' := ?_) #[true, true, true, true, true, true, false, true, true, true, true, true, false, false] rfl rfl (take_ofW HT_.out HW_.out (by kernel_rfl)) (fun _ _ _ h => h) (Or.inl ⟨by rfl, ?_⟩) hHeld ?_ ?_
     rotate_left
     ·rintro w' ⟨s0, s1, s2, s3⟩
      go_simp
      with_reducible rfl
     rotate_left
     ·simp only [Act.put, List.setIfInBounds_toArray, List.set_cons_zero, List.set_cons_succ, i64_w, i32_w]
      rfl
     refine one_ (i := 6) (N := some 20) #[true, true, true, true, true, true, true, true, true, true, true, true, false, false] rfl rfl (one_of HT_.out (by kernel_rfl)) (by decide) (fun K hK => ?_)
     refine goes_ Try.func102 (by kernel_rfl) rfl #[.slice Ao8 x5_1.length co8, .int .i64 ((rd_T37 l0 x6_1).f0)] (by rfl) rfl rfl (by (try simp only [List.map_toArray, List.map_cons, List.map_nil]); first | done | rfl | (simp only [List.length_drop, List.length_take]; rfl)) ?_
     with_reducible refine (papermillref04_with.calls k1 (fun k_ => some k_ = (.slice Ao8 x5_1.length co8 : Value).ownBlock) (.slice Ao8 x5_1.length co8) x5_1 ((rd_T37 l0 x6_1).f0) t82002 w _ ?side1 ?side2 A5.out).mono ?_
     (case side1 => repeat (first | exact HB.out | apply below_alloc | apply pw_below_drewN | apply below_drew1))
     (case side2 => exact Kd.R_tight rfl HO_5.out)
     rintro e w9 ⟨v82003, rfl, ho0, hb, hkp⟩
     refine ⟨_, rfl, ?_⟩
     have n0_ := Aside0.mk (Kd.R_mono (ok' := fun k_ => True) ho0 (fun k_ hk_ => trivial))
     have n1_ := Aside0.mk (hb)
     clear HB
     clear HO_5
     have HO82004 := n0_
     have HB := n1_
     clear n0_ n1_
     (try clear hb)
     (try clear hkp)
     (try clear ho0)
     obtain ⟨Ao10, co10, eo10⟩ := Kd.R_slice HO82004.out
     (first | subst eo10 | (injection eo10 with f1_ f2_ f3_; have f4_ := f1_.symm; have f5_ := f3_.symm; clear f1_ f2_ f3_; subst f4_; subst f5_))
     refine hK.out _ _ ⟨((HB.out.cell (World.block_lt_of_cell? w _ hw82001_0)).trans hw82001_0), ((HB.out.cell (World.block_lt_of_cell? w _ hw82001_1)).trans hw82001_1), ((HB.out.cell (World.block_lt_of_cell? w _ hw82005_0)).trans hw82005_0), ((HB.out.cell (World.block_lt_of_cell? w _ hw82005_1)).trans hw82005_1)⟩ (fun hHeld => ?_)
     clear hK K
     refine norm_ (a' := ?_) ?_ ?_
     rotate_left
     ·show Act.put _ (some 20) _ = _
      simp only [Act.put, List.setIfInBounds_toArray, List.set_cons_zero, List.set_cons_succ, i64_w, i32_w]
      rfl
     refine one_ (i := 12) (N := some 26) #[true, true, true, true, true, true, true, true, true, true, true, true, true, false] rfl rfl (one_of HT_.out (by kernel_rfl)) (by decide) (fun K hK => ?_)
     refine goes_ Try.func102 (by kernel_rfl) rfl #[.slice Ao10 t82002.length co10, .int .i64 ((rd_T37 l0 x6_1).f1)] (by rfl) rfl rfl (by (try simp only [List.map_toArray, List.map_cons, List.map_nil]); first | done | rfl | (simp only [List.length_drop, List.length_take]; rfl)) ?_
     with_reducible refine (papermillref04_with.calls k1 (fun k_ => some k_ = (.slice Ao10 t82002.length co10 : Value).ownBlock) (.slice Ao10 t82002.length co10) t82002 ((rd_T37 l0 x6_1).f1) t82006 w _ ?side1 ?side2 A6.out).mono ?_
     (case side1 => repeat (first | exact HB.out | apply below_alloc | apply pw_below_drewN | apply below_drew1))
     (case side2 => exact Kd.R_tight rfl HO82004.out)
     rintro e w11 ⟨v82007, rfl, ho0, hb, hkp⟩
     refine ⟨_, rfl, ?_⟩
     have n0_ := Aside0.mk (Kd.R_mono (ok' := fun k_ => True) ho0 (fun k_ hk_ => trivial))
     have n1_ := Aside0.mk (hb)
     clear HB
     clear HO82004
     have HO82008 := n0_
     have HB := n1_
     clear n0_ n1_
     (try clear hb)
     (try clear hkp)
     (try clear ho0)
     refine hK.out _ _ ⟨((HB.out.cell (World.block_lt_of_cell? w _ hw82001_0)).trans hw82001_0), ((HB.out.cell (World.block_lt_of_cell? w _ hw82001_1)).trans hw82001_1), ((HB.out.cell (World.block_lt_of_cell? w _ hw82005_0)).trans hw82005_0), ((HB.out.cell (World.block_lt_of_cell? w _ hw82005_1)).trans hw82005_1)⟩ (fun hHeld => ?_)
     clear hK K
     refine norm_ (a' := ?_) ?_ ?_
     rotate_left
     ·show Act.put _ (some 26) _ = _
      simp only [Act.put, List.setIfInBounds_toArray, List.set_cons_zero, List.set_cons_succ, i64_w, i32_w]
      rfl
     refine pure_ (i := 13) (N := some 5) (v := ?_) (a' := ?_) #[true, true, true, true, true, true, true, true, true, true, true, true, true, true] rfl rfl (any_of HT_.out (by kernel_rfl)) (fun _ _ _ h => h) (Or.inl ⟨by rfl, ?_⟩) ?_ ?_
     rotate_left
     ·intro w'
      go_simp
      with_reducible rfl
     rotate_left
     ·simp only [Act.put, List.setIfInBounds_toArray, List.set_cons_zero, List.set_cons_succ, i64_w, i32_w]
      rfl
     refine done_ (done_of HT_.out (by kernel_rfl)) ?_
     try go_wp2
     go_roundg k1
     case measure => have := HK1.out; omega
     case rel => exact ⟨(t82006), (wrap64 (x6_1 + 1)), (by first | rfl | (simp; done) | (simp [*]; done)), H', ⟨by have := HK1.out; omega⟩, ⟨HO82008.out⟩, ⟨by repeat (first | exact HB.out | apply below_alloc | apply pw_below_drewN | apply below_drew1)⟩⟩
    ·rw [if_neg c4] at H
     exact absurd H (by simp)
   ·rw [if_neg c3] at H
    have c3b0 : decide (x6_1 < (l0.length : Int)) = false := decide_eq_false c3
    clear c3
    have H' := Aside0.mk H
    clear H
    go_wp2
    go_loopg [5, 7] k1 (fun kq v5 v7 w' => ∃ (x5_2 : List Int) (x7_2 : Int), v7 = .int .i64 x7_2 ∧ Aside0 (papermillref04_ends.l1 kq l1 x5_2 x7_2 = some r) ∧ Aside0 (kq ≤ k1) ∧ Aside0 (Kd.R (Kd.int .i64) 3 w' w.heap.size (fun _ => True) v5 x5_2) ∧ Aside0 (Below w.heap.size w w'))
    case atStart => exact ⟨(x5_1), (0), (by first | rfl | (simp; done) | (simp [*]; done)), H', ⟨Nat.le_refl _⟩, ⟨HO_5.out⟩, ⟨by repeat (first | exact HB.out | apply below_alloc | apply pw_below_drewN | apply below_drew1)⟩⟩
    case round =>
     clear H'
     try clear c1
     try clear p2
     try clear c3
     try clear c3b0
     try clear c4
     try clear c4b0
     try clear p6
     try clear c8
     try clear p8
     try clear q8
     try clear hx8
     try clear c10
     try clear hx82001_0
     try clear hx82001_1
     try clear hx82005_0
     try clear hx82005_1
     try clear p2
     try clear p82001
     try clear p82005
     try clear q82001
     try clear q82005
     obtain ⟨x5_2, x7_2, rfl, HA, HK2, HO_5, HB⟩ := hrel
     cases gk with
     | zero => exact absurd HA.out (by simp [papermillref04_ends.l1])
     | succ k2 =>
      have H := HA.out
      clear HA
      simp only [papermillref04_ends.l1] at H
      by_cases c12 : x7_2 < (l1.length : Int)
      ·rw [if_pos c12] at H
       have c12b0 : decide (x7_2 < (l1.length : Int)) = true := decide_eq_true c12
       clear c12
       by_cases c13 : 0 ≤ x7_2
       ·rw [if_pos c13] at H
        have c13b0 : decide (0 ≤ x7_2) = true := decide_eq_true c13
        clear c13
        replace H := Option.bind_eq_some_iff.mp H
        obtain ⟨t82010, A140, H⟩ := H
        replace H : ((papermillref04_with.f k2 t82010 ((rd_T37 l1 x7_2).f1)).bind fun t82014 => (papermillref04_ends.l1 k2 l1 t82014 (wrap64 (x7_2 + 1)))) = some r := H
        have A14 := Aside0.mk A140
        clear A140
        replace H := Option.bind_eq_some_iff.mp H
        obtain ⟨t82014, A150, H⟩ := H
        replace H : (papermillref04_ends.l1 k2 l1 t82014 (wrap64 (x7_2 + 1))) = some r := H
        have A15 := Aside0.mk A150
        clear A150
        have H' := Aside0.mk H
        clear H
        try go_wp2
        have n0_ := Aside0.mk (Kd.R_drew HO_5.out)
        have n1_ := Aside0.mk (below_drew1 HB.out)
        clear HO_5
        clear HB
        have HO_5 := n0_
        have HB := n1_
        clear n0_ n1_
        have p82009 : 0 ≤ (x7_2 : Int) := of_decide_eq_true (by assumption)
        have q82009 : x7_2 < (l1.length : Int) := of_decide_eq_true (by assumption)
        obtain ⟨ad82009, e82009, hx82009_0, hx82009_1⟩ := at_T37 HR1.out x7_2 p82009 q82009
        have hw82009_1 := hx82009_1
        have hw82009_0 := hx82009_0
        cases e82009
        replace hx82009_0 := (HB.out.cell (World.block_lt_of_cell? w _ hx82009_0)).trans hx82009_0
        replace hx82009_1 := (HB.out.cell (World.block_lt_of_cell? w _ hx82009_1)).trans hx82009_1
        replace p82009 := eq_true p82009
        replace q82009 := eq_true q82009
        have p82013 : 0 ≤ (x7_2 : Int) := of_decide_eq_true (by assumption)
        have q82013 : x7_2 < (l1.length : Int) := of_decide_eq_true (by assumption)
        obtain ⟨ad82013, e82013, hx82013_0, hx82013_1⟩ := at_T37 HR1.out x7_2 p82013 q82013
        have hw82013_1 := hx82013_1
        have hw82013_0 := hx82013_0
        obtain rfl : ad82009 = ad82013 := (by injection e82013)
        replace hx82013_0 := (HB.out.cell (World.block_lt_of_cell? w _ hx82013_0)).trans hx82013_0
        replace hx82013_1 := (HB.out.cell (World.block_lt_of_cell? w _ hx82013_1)).trans hx82013_1
        replace p82013 := eq_true p82013
        replace q82013 := eq_true q82013
        obtain ⟨Ao17, co17, eo17⟩ := Kd.R_slice HO_5.out
        (first | subst eo17 | (injection eo17 with f1_ f2_ f3_; have f4_ := f1_.symm; have f5_ := f3_.symm; clear f1_ f2_ f3_; subst f4_; subst f5_))
        refine start_ (n := 14) (S := fun w' => w'.cell? (ad82009.add ((x7_2).toNat * 2)) = some (.int .i64 ((rd_T37 l1 x7_2).f0)) ∧ w'.cell? ⟨(ad82009.add ((x7_2).toNat * 2)).block, (ad82009.add ((x7_2).toNat * 2)).off + 1, none⟩ = some (.int .i64 ((rd_T37 l1 x7_2).f1)) ∧ w'.cell? (ad82009.add ((x7_2).toNat * 2)) = some (.int .i64 ((rd_T37 l1 x7_2).f0)) ∧ w'.cell? ⟨(ad82009.add ((x7_2).toNat * 2)).block, (ad82009.add ((x7_2).toNat * 2)).off + 1, none⟩ = some (.int .i64 ((rd_T37 l1 x7_2).f1))) (ds := []) #[false, false, false, false, false, false, false, false, false, false, false, false, false, false] (by kernel_rfl) rfl rfl ⟨((HB.out.cell (World.block_lt_of_cell? w _ hw82009_0)).trans hw82009_0), ((HB.out.cell (World.block_lt_of_cell? w _ hw82009_1)).trans hw82009_1), ((HB.out.cell (World.block_lt_of_cell? w _ hw82013_0)).trans hw82013_0), ((HB.out.cell (World.block_lt_of_cell? w _ hw82013_1)).trans hw82013_1)⟩ (fun hHeld => ?_); refine with_tabW papermillref04_ends.tab9 papermillref04_ends.bits9 (fun HT_ HW_ => ?_)
        generalize wr.drew = w16 at HO_5 HB hx82009_0 hx82009_1 hx82013_0 hx82013_1 hHeld ⊢
        refine pure_ (i := 0) (N := some 33) (v := ?_) (a' := ?_) #[true, false, false, false, false, false, false, false, false, false, false, false, false, false] rfl rfl (any_of HT_.out (by kernel_rfl)) (fun _ _ _ h => h) (Or.inl ⟨by rfl, ?_⟩) ?_ ?_
        rotate_left
        ·intro w'
         go_simp
         with_reducible rfl
        rotate_left
        ·simp only [Act.put, List.setIfInBounds_toArray, List.set_cons_zero, List.set_cons_succ, i64_w, i32_w]
         rfl
        refine pure_ (i := 1) (N := some 34) (v := ?_) (a' := ?_) #[true, true, false, false, false, false, false, false, false, false, false, false, false, false] rfl rfl (any_of HT_.out (by kernel_rfl)) (fun _ _ _ h => h) (Or.inl ⟨by rfl, ?_⟩) ?_ ?_
        rotate_left
        ·intro w'
         go_simp
         with_reducible rfl
        rotate_left
        ·simp only [Act.put, List.setIfInBounds_toArray, List.set_cons_zero, List.set_cons_succ, i64_w, i32_w]
         rfl
        refine pure_ (i := 2) (N := some 35) (v := ?_) (a' := ?_) #[true, true, true, false, false, false, false, false, false, false, false, false, false, false] rfl rfl (any_of HT_.out (by kernel_rfl)) (fun _ _ _ h => h) (Or.inl ⟨by rfl, ?_⟩) ?_ ?_
        rotate_left
        ·intro w'
         go_simp
         with_reducible rfl
        rotate_left
        ·simp only [Act.put, List.setIfInBounds_toArray, List.set_cons_zero, List.set_cons_succ, i64_w, i32_w]
         rfl
        refine pure_ (i := 3) (N := some 36) (v := ?_) (a' := ?_) #[true, true, true, true, false, false, false, false, false, false, false, false, false, false] rfl rfl (any_of HT_.out (by kernel_rfl)) (fun _ _ _ h => h) (Or.inl ⟨by rfl, ?_⟩) ?_ ?_
        rotate_left
        ·intro w'
         go_simp
         with_reducible rfl
        rotate_left
        ·simp only [Act.put, List.setIfInBounds_toArray, List.set_cons_zero, List.set_cons_succ, i64_w, i32_w]
         rfl
        refine pure_ (i := 4) (N := some 37) (v := ?_) (a' := ?_) #[true, true, true, true, true, false, false, false, false, false, false, false, false, false] rfl rfl (any_of HT_.out (by kernel_rfl)) (fun _ _ _ h => h) (Or.inl ⟨by rfl, ?_⟩) ?_ ?_
        rotate_left
        ·intro w'
         go_simp
         with_reducible rfl
        rotate_left
        ·simp only [Act.put, List.setIfInBounds_toArray, List.set_cons_zero, List.set_cons_succ, i64_w, i32_w]
         rfl
        refine pure_ (i := 7) (N := some 40) (v := ?_) (a' := ?_) #[true, true, true, true, true, false, false, true, false, false, false, false, false, false] rfl rfl (any_of HT_.out (by kernel_rfl)) (fun _ _ _ h => h) (Or.inl ⟨by rfl, ?_⟩) ?_ ?_
        rotate_left
        ·intro w'
         go_simp
         with_reducible rfl
        rotate_left
        ·simp only [Act.put, List.setIfInBounds_toArray, List.set_cons_zero, List.set_cons_succ, i64_w, i32_w]
         rfl
        refine pure_ (i := 8) (N := some 41) (v := ?_) (a' := ?_) #[true, true, true, true, true, false, false, true, true, false, false, false, false, false] rfl rfl (any_of HT_.out (by kernel_rfl)) (fun _ _ _ h => h) (Or.inl ⟨by rfl, ?_⟩) ?_ ?_
        rotate_left
        ·intro w'
         go_simp
         with_reducible rfl
        rotate_left
        ·simp only [Act.put, List.setIfInBounds_toArray, List.set_cons_zero, List.set_cons_succ, i64_w, i32_w]
         rfl
        refine pure_ (i := 9) (N := some 42) (v := ?_) (a' := ?_) #[true, true, true, true, true, false, false, true, true, true, false, false, false, false] rfl rfl (any_of HT_.out (by kernel_rfl)) (fun _ _ _ h => h) (Or.inl ⟨by rfl, ?_⟩) ?_ ?_
        rotate_left
        ·intro w'
         go_simp
         with_reducible rfl
        rotate_left
        ·simp only [Act.put, List.setIfInBounds_toArray, List.set_cons_zero, List.set_cons_succ, i64_w, i32_w]
         rfl
        refine pure_ (i := 10) (N := some 43) (v := ?_) (a' := ?_) #[true, true, true, true, true, false, false, true, true, true, true, false, false, false] rfl rfl (any_of HT_.out (by kernel_rfl)) (fun _ _ _ h => h) (Or.inl ⟨by rfl, ?_⟩) ?_ ?_
        rotate_left
        ·intro w'
         go_simp
         with_reducible rfl
        rotate_left
        ·simp only [Act.put, List.setIfInBounds_toArray, List.set_cons_zero, List.set_cons_succ, i64_w, i32_w]
         rfl
        refine take_ (i := 5) (N := some 38) (v := ?_) (a' := ?_) #[true, true, true, true, true, true, false, true, true, true, true, false, false, false] rfl rfl (take_ofW HT_.out HW_.out (by kernel_rfl)) (fun _ _ _ h => h) (Or.inl ⟨by rfl, ?_⟩) hHeld ?_ ?_
        rotate_left
        ·rintro w' ⟨s0, s1, s2, s3⟩
         go_simp
         with_reducible rfl
        rotate_left
        ·simp only [Act.put, List.setIfInBounds_toArray, List.set_cons_zero, List.set_cons_succ, i64_w, i32_w]
         rfl
        refine take_ (i := 11) (N := some 44) (v := ?_) (a' := ?_) #[true, true, true, true, true, true, false, true, true, true, true, true, false, false] rfl rfl (take_ofW HT_.out HW_.out (by kernel_rfl)) (fun _ _ _ h => h) (Or.inl ⟨by rfl, ?_⟩) hHeld ?_ ?_
        rotate_left
        ·rintro w' ⟨s0, s1, s2, s3⟩
         go_simp
         with_reducible rfl
        rotate_left
        ·simp only [Act.put, List.setIfInBounds_toArray, List.set_cons_zero, List.set_cons_succ, i64_w, i32_w]
         rfl
        refine one_ (i := 6) (N := some 39) #[true, true, true, true, true, true, true, true, true, true, true, true, false, false] rfl rfl (one_of HT_.out (by kernel_rfl)) (by decide) (fun K hK => ?_)
        refine goes_ Try.func102 (by kernel_rfl) rfl #[.slice Ao17 x5_2.length co17, .int .i64 ((rd_T37 l1 x7_2).f0)] (by rfl) rfl rfl (by (try simp only [List.map_toArray, List.map_cons, List.map_nil]); first | done | rfl | (simp only [List.length_drop, List.length_take]; rfl)) ?_
        with_reducible refine (papermillref04_with.calls k2 (fun k_ => some k_ = (.slice Ao17 x5_2.length co17 : Value).ownBlock) (.slice Ao17 x5_2.length co17) x5_2 ((rd_T37 l1 x7_2).f0) t82010 w _ ?side1 ?side2 A14.out).mono ?_
        (case side1 => repeat (first | exact HB.out | apply below_alloc | apply pw_below_drewN | apply below_drew1))
        (case side2 => exact Kd.R_tight rfl HO_5.out)
        rintro e w18 ⟨v82011, rfl, ho0, hb, hkp⟩
        refine ⟨_, rfl, ?_⟩
        have n0_ := Aside0.mk (Kd.R_mono (ok' := fun k_ => True) ho0 (fun k_ hk_ => trivial))
        have n1_ := Aside0.mk (hb)
        clear HB
        clear HO_5
        have HO82012 := n0_
        have HB := n1_
        clear n0_ n1_
        (try clear hb)
        (try clear hkp)
        (try clear ho0)
        obtain ⟨Ao19, co19, eo19⟩ := Kd.R_slice HO82012.out
        (first | subst eo19 | (injection eo19 with f1_ f2_ f3_; have f4_ := f1_.symm; have f5_ := f3_.symm; clear f1_ f2_ f3_; subst f4_; subst f5_))
        refine hK.out _ _ ⟨((HB.out.cell (World.block_lt_of_cell? w _ hw82009_0)).trans hw82009_0), ((HB.out.cell (World.block_lt_of_cell? w _ hw82009_1)).trans hw82009_1), ((HB.out.cell (World.block_lt_of_cell? w _ hw82013_0)).trans hw82013_0), ((HB.out.cell (World.block_lt_of_cell? w _ hw82013_1)).trans hw82013_1)⟩ (fun hHeld => ?_)
        clear hK K
        refine norm_ (a' := ?_) ?_ ?_
        rotate_left
        ·show Act.put _ (some 39) _ = _
         simp only [Act.put, List.setIfInBounds_toArray, List.set_cons_zero, List.set_cons_succ, i64_w, i32_w]
         rfl
        refine one_ (i := 12) (N := some 45) #[true, true, true, true, true, true, true, true, true, true, true, true, true, false] rfl rfl (one_of HT_.out (by kernel_rfl)) (by decide) (fun K hK => ?_)
        refine goes_ Try.func102 (by kernel_rfl) rfl #[.slice Ao19 t82010.length co19, .int .i64 ((rd_T37 l1 x7_2).f1)] (by rfl) rfl rfl (by (try simp only [List.map_toArray, List.map_cons, List.map_nil]); first | done | rfl | (simp only [List.length_drop, List.length_take]; rfl)) ?_
        with_reducible refine (papermillref04_with.calls k2 (fun k_ => some k_ = (.slice Ao19 t82010.length co19 : Value).ownBlock) (.slice Ao19 t82010.length co19) t82010 ((rd_T37 l1 x7_2).f1) t82014 w _ ?side1 ?side2 A15.out).mono ?_
        (case side1 => repeat (first | exact HB.out | apply below_alloc | apply pw_below_drewN | apply below_drew1))
        (case side2 => exact Kd.R_tight rfl HO82012.out)
        rintro e w20 ⟨v82015, rfl, ho0, hb, hkp⟩
        refine ⟨_, rfl, ?_⟩
        have n0_ := Aside0.mk (Kd.R_mono (ok' := fun k_ => True) ho0 (fun k_ hk_ => trivial))
        have n1_ := Aside0.mk (hb)
        clear HB
        clear HO82012
        have HO82016 := n0_
        have HB := n1_
        clear n0_ n1_
        (try clear hb)
        (try clear hkp)
        (try clear ho0)
        refine hK.out _ _ ⟨((HB.out.cell (World.block_lt_of_cell? w _ hw82009_0)).trans hw82009_0), ((HB.out.cell (World.block_lt_of_cell? w _ hw82009_1)).trans hw82009_1), ((HB.out.cell (World.block_lt_of_cell? w _ hw82013_0)).trans hw82013_0), ((HB.out.cell (World.block_lt_of_cell? w _ hw82013_1)).trans hw82013_1)⟩ (fun hHeld => ?_)
        clear hK K
        refine norm_ (a' := ?_) ?_ ?_
        rotate_left
        ·show Act.put _ (some 45) _ = _
         simp only [Act.put, List.setIfInBounds_toArray, List.set_cons_zero, List.set_cons_succ, i64_w, i32_w]
         rfl
        refine pure_ (i := 13) (N := some 5) (v := ?_) (a' := ?_) #[true, true, true, true, true, true, true, true, true, true, true, true, true, true] rfl rfl (any_of HT_.out (by kernel_rfl)) (fun _ _ _ h => h) (Or.inl ⟨by rfl, ?_⟩) ?_ ?_
        rotate_left
        ·intro w'
         go_simp
         with_reducible rfl
        rotate_left
        ·simp only [Act.put, List.setIfInBounds_toArray, List.set_cons_zero, List.set_cons_succ, i64_w, i32_w]
         rfl
        refine done_ (done_of HT_.out (by kernel_rfl)) ?_
        try go_wp2
        go_roundg k2
        case measure => have := HK1.out; have := HK2.out; omega
        case rel => exact ⟨(t82014), (wrap64 (x7_2 + 1)), (by first | rfl | (simp; done) | (simp [*]; done)), H', ⟨by have := HK1.out; have := HK2.out; omega⟩, ⟨HO82016.out⟩, ⟨by repeat (first | exact HB.out | apply below_alloc | apply pw_below_drewN | apply below_drew1)⟩⟩
       ·rw [if_neg c13] at H
        exact absurd H (by simp)
      ·rw [if_neg c12] at H
       have c12b0 : decide (x7_2 < (l1.length : Int)) = false := decide_eq_false c12
       clear c12
       obtain rfl := Option.some.inj H
       go_wp2
       go_ret
       exact ⟨_, by first | rfl | (simp [errW_none, errW_some] <;> rfl) | (simp [*, errW_none, errW_some] <;> rfl), by exact HO_5.out, by repeat (first | exact HB.out | apply below_alloc | apply pw_below_drewN | apply below_drew1)⟩

end Go.Proofs.Ytcnkmdonbpgjiaa.G

namespace Go.Proofs.Ytcnkmdonbpgjiaa.G
open Go.RowKit Go.Proofs.YtcnkmdonbpgjiaaW.PrintWords Go.Proofs.YtcnkmdonbpgjiaaW.PrintLast Go.Proofs.YtcnkmdonbpgjiaaW.PrintMore
attribute [local go_sem] max2_int min2_int max_two min_two max_three min_three max_four min_four   -- for this text's walks alone
set_option linter.unusedVariables false
set_option linter.unusedSimpArgs false

def papermillref04_Has.l0 : Nat → List (S37) → Int → Int → Option (Bool)
  | 0, _, _, _ => none
  | k + 1, x0, x1, x5 => if x5 < (x0.length : Int) then (if 0 ≤ x5 then (if ((rd_T37 x0 x5).f0) ≤ x1 then (if x1 < ((rd_T37 x0 x5).f1) then (some true) else (papermillref04_Has.l0 k x0 x1 (wrap64 (x5 + 1)))) else (papermillref04_Has.l0 k x0 x1 (wrap64 (x5 + 1)))) else (none)) else (some false)
def papermillref04_Has.f (k : Nat) (l0 : List (S37)) (a1 : Int) : Option (Bool) := papermillref04_Has.l0 k l0 a1 0
theorem papermillref04_Has.mono_l : ∀ k, (∀ y0 y1 y2, LeO (papermillref04_Has.l0 k y0 y1 y2) (papermillref04_Has.l0 (k + 1) y0 y1 y2))
  | 0 => fun _ _ _ r h => by simp [papermillref04_Has.l0] at h
  | k + 1 => by
    have ih0 := papermillref04_Has.mono_l k
    · intro y0 y1 y2
      unfold papermillref04_Has.l0
      repeat' first
      | (with_reducible exact ih0 _ _ _)
      | (with_reducible exact LeO.refl _)
      | (with_reducible exact LeO.none _)
      | (with_reducible refine LeO.ite ?_ ?_)
      | (with_reducible refine LeO.bind ?_ (fun _ => ?_))
      | exact ih0 _ _ _
      | exact LeO.none _
      | refine LeO.ite ?_ ?_
      | refine LeO.bind ?_ (fun _ => ?_)
theorem papermillref04_Has.mono : ∀ a0 a1 k, LeO (papermillref04_Has.f k a0 a1) (papermillref04_Has.f (k + 1) a0 a1) := by
  intro a0 a1 k
  have ih0 := papermillref04_Has.mono_l k
  unfold papermillref04_Has.f
  repeat' first
      | (with_reducible exact ih0 _ _ _)
      | (with_reducible exact LeO.refl _)
      | (with_reducible exact LeO.none _)
      | (with_reducible refine LeO.ite ?_ ?_)
      | (with_reducible refine LeO.bind ?_ (fun _ => ?_))
      | exact ih0 _ _ _
      | exact LeO.none _
      | refine LeO.ite ?_ ?_
      | refine LeO.bind ?_ (fun _ => ?_)
set_option maxHeartbeats 8000000 in
set_option maxRecDepth 100000 in
theorem papermillref04_Has.calls (k : Nat) (A0 : Option Addr) (c0 : Nat) (l0 : List (S37)) (a1 : Int) (r : Bool) (w : World) (hr0 : Kd.C k37 w A0 l0.length l0) (hc0 : l0.length ≤ c0) (h : papermillref04_Has.f k l0 a1 = some r) :
    Calls Try.prog 82 #[.slice A0 l0.length c0, .int .i64 a1] w fun e w' => e = .returned (.bool r) ∧ Drawn0 w w' := by
  have HR0 := Aside0.mk hr0
  have HC0 := Aside0.mk hc0
  clear hr0 hc0
  have H : (papermillref04_Has.l0 k l0 a1 0) = some r := h
  clear h
  have H' := Aside0.mk H
  clear H
  go_enter Try.func82, Try.ntmps82
  go_wp2
  go_loopg [5] k (fun kq v5 w' => ∃ (x5_1 : Int), v5 = .int .i64 x5_1 ∧ Aside0 (papermillref04_Has.l0 kq l0 a1 x5_1 = some r) ∧ Aside0 (kq ≤ k) ∧ Drawn0 w w')
  case atStart => exact ⟨(0), (by first | rfl | (simp; done) | (simp [*]; done)), H', ⟨Nat.le_refl _⟩, by repeat (first | exact Drawn0.refl _ | apply Drawn0.step)⟩
  case round =>
    clear H'
    try clear p2
    obtain ⟨x5_1, rfl, HA, HK1, ⟨m1, rfl⟩⟩ := hrel
    cases gk with
    | zero => exact absurd HA.out (by simp [papermillref04_Has.l0])
    | succ k1 =>
      have H := HA.out
      clear HA
      simp only [papermillref04_Has.l0] at H
      by_cases c3 : x5_1 < (l0.length : Int)
      · rw [if_pos c3] at H
        have c3b0 : decide (x5_1 < (l0.length : Int)) = true := decide_eq_true c3
        clear c3
        by_cases c4 : 0 ≤ x5_1
        · rw [if_pos c4] at H
          have c4b0 : decide (0 ≤ x5_1) = true := decide_eq_true c4
          clear c4
          by_cases c5 : ((rd_T37 l0 x5_1).f0) ≤ a1
          · rw [if_pos c5] at H
            have c5b0 : decide (((rd_T37 l0 x5_1).f0) ≤ a1) = true := decide_eq_true c5
            clear c5
            by_cases c6 : a1 < ((rd_T37 l0 x5_1).f1)
            · rw [if_pos c6] at H
              have c6b0 : decide (a1 < ((rd_T37 l0 x5_1).f1)) = true := decide_eq_true c6
              clear c6
              obtain rfl := Option.some.inj H
              have p83001 : 0 ≤ (x5_1 : Int) := of_decide_eq_true (by assumption)
              have q83001 : x5_1 < (l0.length : Int) := of_decide_eq_true (by assumption)
              obtain ⟨ad83001, e83001, hx83001_0, hx83001_1⟩ := at_T37 HR0.out x5_1 p83001 q83001
              cases e83001
              replace p83001 := eq_true p83001
              replace q83001 := eq_true q83001
              have p83002 : 0 ≤ (x5_1 : Int) := of_decide_eq_true (by assumption)
              have q83002 : x5_1 < (l0.length : Int) := of_decide_eq_true (by assumption)
              obtain ⟨ad83002, e83002, hx83002_0, hx83002_1⟩ := at_T37 HR0.out x5_1 p83002 q83002
              obtain rfl : ad83001 = ad83002 := (by injection e83002)
              replace p83002 := eq_true p83002
              replace q83002 := eq_true q83002
              go_wp2
              go_ret
              exact ⟨by first | rfl | (simp; done) | (simp [*]; done), by repeat (first | exact Drawn0.refl _ | apply Drawn0.step)⟩
            · rw [if_neg c6] at H
              have c6b0 : decide (a1 < ((rd_T37 l0 x5_1).f1)) = false := decide_eq_false c6
              clear c6
              have H' := Aside0.mk H
              clear H
              have p83001 : 0 ≤ (x5_1 : Int) := of_decide_eq_true (by assumption)
              have q83001 : x5_1 < (l0.length : Int) := of_decide_eq_true (by assumption)
              obtain ⟨ad83001, e83001, hx83001_0, hx83001_1⟩ := at_T37 HR0.out x5_1 p83001 q83001
              cases e83001
              replace p83001 := eq_true p83001
              replace q83001 := eq_true q83001
              have p83002 : 0 ≤ (x5_1 : Int) := of_decide_eq_true (by assumption)
              have q83002 : x5_1 < (l0.length : Int) := of_decide_eq_true (by assumption)
              obtain ⟨ad83002, e83002, hx83002_0, hx83002_1⟩ := at_T37 HR0.out x5_1 p83002 q83002
              obtain rfl : ad83001 = ad83002 := (by injection e83002)
              replace p83002 := eq_true p83002
              replace q83002 := eq_true q83002
              go_wp2
              go_roundg k1
              case measure => have := HK1.out; omega
              case rel => exact ⟨(wrap64 (x5_1 + 1)), (by first | rfl | (simp; done) | (simp [*]; done)), H', ⟨by have := HK1.out; omega⟩, by repeat (first | exact Drawn0.refl _ | apply Drawn0.step)⟩
          · rw [if_neg c5] at H
            have c5b0 : decide (((rd_T37 l0 x5_1).f0) ≤ a1) = false := decide_eq_false c5
            clear c5
            have H' := Aside0.mk H
            clear H
            have p83001 : 0 ≤ (x5_1 : Int) := of_decide_eq_true (by assumption)
            have q83001 : x5_1 < (l0.length : Int) := of_decide_eq_true (by assumption)
            obtain ⟨ad83001, e83001, hx83001_0, hx83001_1⟩ := at_T37 HR0.out x5_1 p83001 q83001
            cases e83001
            replace p83001 := eq_true p83001
            replace q83001 := eq_true q83001
            go_wp2
            go_roundg k1
            case measure => have := HK1.out; omega
            case rel => exact ⟨(wrap64 (x5_1 + 1)), (by first | rfl | (simp; done) | (simp [*]; done)), H', ⟨by have := HK1.out; omega⟩, by repeat (first | exact Drawn0.refl _ | apply Drawn0.step)⟩
        · rw [if_neg c4] at H
          exact absurd H (by simp)
      · rw [if_neg c3] at H
        have c3b0 : decide (x5_1 < (l0.length : Int)) = false := decide_eq_false c3
        clear c3
        obtain rfl := Option.some.inj H
        go_wp2
        go_ret
        exact ⟨by first | rfl | (simp; done) | (simp [*]; done), by repeat (first | exact Drawn0.refl _ | apply Drawn0.step)⟩

end Go.Proofs.Ytcnkmdonbpgjiaa.G
