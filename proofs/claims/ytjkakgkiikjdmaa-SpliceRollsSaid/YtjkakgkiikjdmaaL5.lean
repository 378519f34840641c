import Derived.Test.YtjkakgkiikjdmaaQ1
import Derived.Test.YtjkakgkiikjdmaaQ3
import Derived.WalkKit
import Derived.Shelf.Abstract
import Derived.RangeFuncRecord
import Derived.Deep.LoopGhost
namespace Go.Proofs.Ytjkakgkiikjdmaa.G
open Go.RowKit Go.Proofs.YtjkakgkiikjdmaaW.PrintWords Go.Proofs.YtjkakgkiikjdmaaW.PrintLast Go.Proofs.YtjkakgkiikjdmaaW.PrintMore
attribute [local go_sem] max2_int min2_int max_two min_two max_three min_three max_four min_four   -- for this text's walks alone
set_option linter.unusedVariables false
set_option linter.unusedSimpArgs false

def papermilllaw40_splices.l0 : Nat → Int → Int → List Int → Int → Int → Option (Int)
 | 0, _, _, _, _, _ => none
 | k + 1, x1, x2, x7, x9, x10 => if x10 < (x7.length : Int) then (if 0 ≤ x10 then (if x1 < (rd x7 x10) then (if (rd x7 x10) < (wrap64 (x1 + x2)) then (papermilllaw40_splices.l0 k x1 x2 x7 (wrap64 (x9 + 1)) (wrap64 (x10 + 1))) else (papermilllaw40_splices.l0 k x1 x2 x7 x9 (wrap64 (x10 + 1)))) else (papermilllaw40_splices.l0 k x1 x2 x7 x9 (wrap64 (x10 + 1)))) else (none)) else (some x9)
def papermilllaw40_splices.f (k : Nat) (l0 : List (S56)) (a1 : Int) (a2 : Int) : Option (Int) := (splice_Places.f k l0).bind fun bt32001 => (if bt32001.2 = 0 then (papermilllaw40_splices.l0 k a1 a2 bt32001.1 0 0) else (some (-1)))
theorem papermilllaw40_splices.mono_l : ∀ k, (∀ y0 y1 y2 y3 y4, LeO (papermilllaw40_splices.l0 k y0 y1 y2 y3 y4) (papermilllaw40_splices.l0 (k + 1) y0 y1 y2 y3 y4))
 | 0 => fun _ _ _ _ _ r h => by simp [papermilllaw40_splices.l0] at h
 | k + 1 => by
  have ih0 := papermilllaw40_splices.mono_l k
  ·intro y0 y1 y2 y3 y4
   unfold papermilllaw40_splices.l0
   repeat' first
   | (with_reducible exact ih0 _ _ _ _ _)
   | (with_reducible exact splice_Places.mono _ _)
   | (with_reducible exact LeO.refl _)
   | (with_reducible exact LeO.none _)
   | (with_reducible refine LeO.ite ?_ ?_)
   | (with_reducible refine LeO.bind ?_ (fun _ => ?_))
   | exact ih0 _ _ _ _ _
   | exact splice_Places.mono _ _
   | exact LeO.none _
   | refine LeO.ite ?_ ?_
   | refine LeO.bind ?_ (fun _ => ?_)
theorem papermilllaw40_splices.mono : ∀ a0 a1 a2 k, LeO (papermilllaw40_splices.f k a0 a1 a2) (papermilllaw40_splices.f (k + 1) a0 a1 a2) := by
 intro a0 a1 a2 k
 have ih0 := papermilllaw40_splices.mono_l k
 unfold papermilllaw40_splices.f
 repeat' first
   | (with_reducible exact ih0 _ _ _ _ _)
   | (with_reducible exact splice_Places.mono _ _)
   | (with_reducible exact LeO.refl _)
   | (with_reducible exact LeO.none _)
   | (with_reducible refine LeO.ite ?_ ?_)
   | (with_reducible refine LeO.bind ?_ (fun _ => ?_))
   | exact ih0 _ _ _ _ _
   | exact splice_Places.mono _ _
   | exact LeO.none _
   | refine LeO.ite ?_ ?_
   | refine LeO.bind ?_ (fun _ => ?_)
set_option maxHeartbeats 8000000 in
set_option maxRecDepth 100000 in
theorem papermilllaw40_splices.calls (k : Nat) (A0 : Option Addr) (c0 : Nat) (l0 : List (S56)) (a1 : Int) (a2 : Int) (r : Int) (w : World) (hr0 : Kd.C k56 w A0 l0.length l0) (hc0 : l0.length ≤ c0) (h : papermilllaw40_splices.f k l0 a1 a2 = some r) :
  Calls Try.prog 31 #[.slice A0 l0.length c0, .int .i64 a1, .int .i64 a2] w fun e w' => e = .returned (.int .i64 r) ∧ Below w.heap.size w w' := by
 have HR0 := Aside0.mk hr0
 have HC0 := Aside0.mk hc0
 clear hr0 hc0
 have HB := Aside0.mk (Below.refl w.heap.size w)
 have H : ((splice_Places.f k l0).bind fun bt32001 => (if bt32001.2 = 0 then (papermilllaw40_splices.l0 k a1 a2 bt32001.1 0 0) else (some (-1)))) = some r := h
 clear h
 replace H := Option.bind_eq_some_iff.mp H
 obtain ⟨⟨t32001, t32002⟩, A40, H⟩ := H
 replace H : (if t32002 = 0 then (papermilllaw40_splices.l0 k a1 a2 t32001 0 0) else (some (-1))) = some r := H
 have A4 := Aside0.mk A40
 clear A40
 by_cases c5 : t32002 = 0
 ·rw [if_pos c5] at H
  have c5b0 : (t32002 == 0) = true := beq_iff_eq.mpr c5
  have c5b1 : (t32002 != 0) = false := bne_eq_false_iff_eq.mpr c5
  clear c5
  have H' := Aside0.mk H
  clear H
  go_enter Try.func31, Try.ntmps31
  go_wp2_with (first | ((with_reducible refine gate_callee (f := 21) rfl ?_); refine goesL_ (some 13) rfl rfl Try.func21 (by kernel_rfl) rfl #[.slice A0 l0.length c0] rfl (by (try simp only [List.map_toArray, List.map_cons, List.map_nil]); first | done | rfl | (simp only [List.length_drop, List.length_take]; rfl)) ?_; (with_reducible refine (splice_Places.calls k _ _ l0 t32001 t32002 _ ?side1 ?side2 A4.out).mono ?_); (case side1 => exact HR0.out); (case side2 => exact HC0.out); rintro e w6 ⟨v32003, rfl, ho0, hb⟩; refine ⟨_, rfl, ?_⟩; have n0_ := Aside0.mk (Kd.R_lower ho0 (below_size (by repeat (first | exact HB.out | apply below_alloc | apply pw_below_drewN | apply below_drew1)))); have n1_ := Aside0.mk (below_step (by repeat (first | exact HB.out | apply below_alloc | apply pw_below_drewN | apply below_drew1)) hb); clear HB; have HO32004 := n0_; have HB := n1_; clear n0_ n1_; (try clear hb); (try clear hb2); (try clear hk); (try clear hi); (try clear ho0)))
  go_loopg [9, 10] k (fun kq v9 v10 w' => ∃ (x9_1 : Int) (x10_1 : Int), v9 = .int .i64 x9_1 ∧ v10 = .int .i64 x10_1 ∧ Aside0 (papermilllaw40_splices.l0 kq a1 a2 t32001 x9_1 x10_1 = some r) ∧ Aside0 (kq ≤ k) ∧ Aside0 (Kd.R (Kd.int .i64) 3 w' w.heap.size (fun _ => True) v32003 t32001) ∧ Aside0 (Below w.heap.size w w'))
  case atStart => exact ⟨(0), (0), (by first | rfl | (simp; done) | (simp [*]; done)), (by first | rfl | (simp; done) | (simp [*]; done)), H', ⟨Nat.le_refl _⟩, ⟨HO32004.out⟩, ⟨by repeat (first | exact HB.out | apply below_alloc | apply pw_below_drewN | apply below_drew1)⟩⟩
  case round =>
   clear H'
   try clear c2
   try clear p2
   try clear c3
   try clear c5
   try clear c5b0
   try clear c5b1
   obtain ⟨x9_1, x10_1, rfl, rfl, HA, HK1, HO_7, HB⟩ := hrel
   cases gk with
   | zero => exact absurd HA.out (by simp [papermilllaw40_splices.l0])
   | succ k1 =>
    have H := HA.out
    clear HA
    simp only [papermilllaw40_splices.l0] at H
    by_cases c7 : x10_1 < (t32001.length : Int)
    ·rw [if_pos c7] at H
     have c7b0 : decide (x10_1 < (t32001.length : Int)) = true := decide_eq_true c7
     clear c7
     by_cases c8 : 0 ≤ x10_1
     ·rw [if_pos c8] at H
      have c8b0 : decide (0 ≤ x10_1) = true := decide_eq_true c8
      clear c8
      by_cases c9 : a1 < (rd t32001 x10_1)
      ·rw [if_pos c9] at H
       have c9b0 : decide (a1 < (rd t32001 x10_1)) = true := decide_eq_true c9
       clear c9
       by_cases c10 : (rd t32001 x10_1) < (wrap64 (a1 + a2))
       ·rw [if_pos c10] at H
        have c10b0 : decide ((rd t32001 x10_1) < (wrap64 (a1 + a2))) = true := decide_eq_true c10
        clear c10
        have H' := Aside0.mk H
        clear H
        obtain ⟨Ao11, co11, eo11⟩ := Kd.R_slice HO_7.out
        subst eo11
        have p32005 : 0 ≤ (x10_1 : Int) := of_decide_eq_true (by assumption)
        have q32005 : x10_1 < (t32001.length : Int) := of_decide_eq_true (by assumption)
        obtain ⟨ad32005, e32005, hx32005_0⟩ := Kd.at_int (Kd.R_reads' HO_7.out).2.2 x10_1 p32005 q32005
        cases e32005
        replace p32005 := eq_true p32005
        replace q32005 := eq_true q32005
        have p32006 : 0 ≤ (x10_1 : Int) := of_decide_eq_true (by assumption)
        have q32006 : x10_1 < (t32001.length : Int) := of_decide_eq_true (by assumption)
        obtain ⟨ad32006, e32006, hx32006_0⟩ := Kd.at_int (Kd.R_reads' HO_7.out).2.2 x10_1 p32006 q32006
        obtain rfl : ad32005 = ad32006 := (by injection e32006)
        replace p32006 := eq_true p32006
        replace q32006 := eq_true q32006
        go_wp2
        go_roundg k1
        case measure => have := HK1.out; omega
        case rel => exact ⟨(wrap64 (x9_1 + 1)), (wrap64 (x10_1 + 1)), (by first | rfl | (simp; done) | (simp [*]; done)), (by first | rfl | (simp; done) | (simp [*]; done)), H', ⟨by have := HK1.out; omega⟩, ⟨HO_7.out⟩, ⟨by repeat (first | exact HB.out | apply below_alloc | apply pw_below_drewN | apply below_drew1)⟩⟩
       ·rw [if_neg c10] at H
        have c10b0 : decide ((rd t32001 x10_1) < (wrap64 (a1 + a2))) = false := decide_eq_false c10
        clear c10
        have H' := Aside0.mk H
        clear H
        obtain ⟨Ao12, co12, eo12⟩ := Kd.R_slice HO_7.out
        subst eo12
        have p32005 : 0 ≤ (x10_1 : Int) := of_decide_eq_true (by assumption)
        have q32005 : x10_1 < (t32001.length : Int) := of_decide_eq_true (by assumption)
        obtain ⟨ad32005, e32005, hx32005_0⟩ := Kd.at_int (Kd.R_reads' HO_7.out).2.2 x10_1 p32005 q32005
        cases e32005
        replace p32005 := eq_true p32005
        replace q32005 := eq_true q32005
        have p32006 : 0 ≤ (x10_1 : Int) := of_decide_eq_true (by assumption)
        have q32006 : x10_1 < (t32001.length : Int) := of_decide_eq_true (by assumption)
        obtain ⟨ad32006, e32006, hx32006_0⟩ := Kd.at_int (Kd.R_reads' HO_7.out).2.2 x10_1 p32006 q32006
        obtain rfl : ad32005 = ad32006 := (by injection e32006)
        replace p32006 := eq_true p32006
        replace q32006 := eq_true q32006
        go_wp2
        go_roundg k1
        case measure => have := HK1.out; omega
        case rel => exact ⟨(x9_1), (wrap64 (x10_1 + 1)), (by first | rfl | (simp; done) | (simp [*]; done)), (by first | rfl | (simp; done) | (simp [*]; done)), H', ⟨by have := HK1.out; omega⟩, ⟨HO_7.out⟩, ⟨by repeat (first | exact HB.out | apply below_alloc | apply pw_below_drewN | apply below_drew1)⟩⟩
      ·rw [if_neg c9] at H
       have c9b0 : decide (a1 < (rd t32001 x10_1)) = false := decide_eq_false c9
       clear c9
       have H' := Aside0.mk H
       clear H
       obtain ⟨Ao13, co13, eo13⟩ := Kd.R_slice HO_7.out
       subst eo13
       have p32005 : 0 ≤ (x10_1 : Int) := of_decide_eq_true (by assumption)
       have q32005 : x10_1 < (t32001.length : Int) := of_decide_eq_true (by assumption)
       obtain ⟨ad32005, e32005, hx32005_0⟩ := Kd.at_int (Kd.R_reads' HO_7.out).2.2 x10_1 p32005 q32005
       cases e32005
       replace p32005 := eq_true p32005
       replace q32005 := eq_true q32005
       go_wp2
       go_roundg k1
       case measure => have := HK1.out; omega
       case rel => exact ⟨(x9_1), (wrap64 (x10_1 + 1)), (by first | rfl | (simp; done) | (simp [*]; done)), (by first | rfl | (simp; done) | (simp [*]; done)), H', ⟨by have := HK1.out; omega⟩, ⟨HO_7.out⟩, ⟨by repeat (first | exact HB.out | apply below_alloc | apply pw_below_drewN | apply below_drew1)⟩⟩
     ·rw [if_neg c8] at H
      exact absurd H (by simp)
    ·rw [if_neg c7] at H
     have c7b0 : decide (x10_1 < (t32001.length : Int)) = false := decide_eq_false c7
     clear c7
     obtain rfl := Option.some.inj H
     obtain ⟨Ao14, co14, eo14⟩ := Kd.R_slice HO_7.out
     subst eo14
     go_wp2
     go_ret
     exact ⟨by first | rfl | (simp [errW_none, errW_some] <;> rfl) | (simp [*, errW_none, errW_some] <;> rfl), by repeat (first | exact HB.out | apply below_alloc | apply pw_below_drewN | apply below_drew1)⟩
 ·rw [if_neg c5] at H
  have c5b0 : (t32002 == 0) = false := beq_eq_false_iff_ne.mpr c5
  have c5b1 : (t32002 != 0) = true := bne_iff_ne.mpr c5
  obtain rfl := Option.some.inj H
  go_enter Try.func31, Try.ntmps31
  go_wp2_with (first | ((with_reducible refine gate_callee (f := 21) rfl ?_); refine goesL_ (some 13) rfl rfl Try.func21 (by kernel_rfl) rfl #[.slice A0 l0.length c0] rfl (by (try simp only [List.map_toArray, List.map_cons, List.map_nil]); first | done | rfl | (simp only [List.length_drop, List.length_take]; rfl)) ?_; (with_reducible refine (splice_Places.calls k _ _ l0 t32001 t32002 _ ?side1 ?side2 A4.out).mono ?_); (case side1 => exact HR0.out); (case side2 => exact HC0.out); rintro e w15 ⟨v32003, rfl, ho0, hb⟩; refine ⟨_, rfl, ?_⟩; have n0_ := Aside0.mk (Kd.R_lower ho0 (below_size (by repeat (first | exact HB.out | apply below_alloc | apply pw_below_drewN | apply below_drew1)))); have n1_ := Aside0.mk (below_step (by repeat (first | exact HB.out | apply below_alloc | apply pw_below_drewN | apply below_drew1)) hb); clear HB; have HO32004 := n0_; have HB := n1_; clear n0_ n1_; (try clear hb); (try clear hb2); (try clear hk); (try clear hi); (try clear ho0)))
  go_ret
  exact ⟨by first | rfl | (simp [errW_none, errW_some] <;> rfl) | (simp [*, errW_none, errW_some] <;> rfl), by repeat (first | exact HB.out | apply below_alloc | apply pw_below_drewN | apply below_drew1)⟩

end Go.Proofs.Ytjkakgkiikjdmaa.G

namespace Go.Proofs.Ytjkakgkiikjdmaa.G
open Go.RowKit Go.Proofs.YtjkakgkiikjdmaaW.PrintWords Go.Proofs.YtjkakgkiikjdmaaW.PrintLast Go.Proofs.YtjkakgkiikjdmaaW.PrintMore
attribute [local go_sem] max2_int min2_int max_two min_two max_three min_three max_four min_four   -- for this text's walks alone
set_option linter.unusedVariables false
set_option linter.unusedSimpArgs false
def revOf (l : List S56) : List S56 × Int := if check13 l = 0 then (nrm (sem l).reverse, 0) else ([], check13 l)
def partOf13 (l : List S56) (a b : Int) : List S56 × Int := if check13 l = 0 then (if a < 0 ∨ a > b ∨ b > tot13 l then ([], 1) else (nrm (((sem l).take b.toNat).drop a.toNat), 0)) else ([], check13 l)
def iso_Part.f (l0 : List S56) (a1_0 a1_1 : Int) : Option (List S56 × Int) := some (partOf13 l0 a1_0 a1_1)
set_option maxRecDepth 100000 in
set_option maxHeartbeats 16553600 in
theorem part_main (A0 : Option Addr) (c0 : Nat) (l : List S56) (a b : Int) (w : World) (hr : Kd.C k56 w A0 l.length l) (hc : l.length ≤ c0) :
  Calls Try.prog 30 #[.slice A0 l.length c0, .agg #[.int .i64 a, .int .i64 b]] w fun e w' => ∃ v, e = .returned (.tuple #[v, .int .i64 (partOf13 l a b).2]) ∧ Kd.R k56 56 w' w.heap.size (fun _ => True) v (partOf13 l a b).1 ∧ Below w.heap.size w w' := by
 have HBX := Aside0.mk ((Below.refl w.heap.size w).alloc (Nat.le_refl _) (.cells #[.int .i64 a, .int .i64 b] 49))
 have HR := Aside0.mk (Kd.C_below hr HBX.out)
 have HX0 := Aside0.mk (World.alloc_heap_new w (.cells #[.int .i64 a, .int .i64 b] 49))
 have HC := Aside0.mk hc
 clear hr hc
 obtain ⟨k1, hk1⟩ := (icheck_ends l).get
 unfold partOf13
 by_cases h0 : check13 l = 0
 ·obtain ⟨hl, hg, ht⟩ := check13_zero h0
  have hfit : ∀ r ∈ l, fitR r := fun r hr => fit_of (hg r hr)
  obtain ⟨k2, hk2⟩ := (ilength_ends l (by omega) (fun r hr => by have := hfit r hr; unfold fitR at this; omega)).get
  have HK2 := Aside0.mk hk2
  rw [h0] at hk1
  have HK1 := Aside0.mk hk1
  have HLL := Aside0.mk hl
  have HFI := Aside0.mk (show ∀ r ∈ l, 0 ≤ r.f0 ∧ r.f0 ≤ 17179869184 ∧ 1 ≤ r.f1 ∧ r.f1 ≤ 17179869184 from hfit)
  have HG := Aside0.mk hg
  have hT := Aside0.mk (show 0 ≤ tot13 l ∧ tot13 l ≤ 17179869184 by have := tot_nonneg h0; omega)
  have HE := Aside0.mk (part_fold l h0 a b)
  have HEL := Aside0.mk (show (([] ++ pieces l 0 a b).foldl addOf []).length ≤ 256 by have := part_len l a b; omega)
  rw [if_pos h0]
  clear hk1 hk2 h0 hl hg ht hfit
  generalize tot13 l = T at *
  obtain ⟨P, hP⟩ : ∃ P, (if a < 0 ∨ a > b ∨ b > T then (([], 1) : List S56 × Int) else (nrm (((sem l).take b.toNat).drop a.toNat), 0)) = P := ⟨_, rfl⟩
  rw [hP]
  have HP := Aside0.mk hP
  clear hP
  go_enter Try.func30, Try.ntmps30
  go_wp2_with (go_at_call 48; (with_reducible refine (iso_Check.calls k1 A0 c0 l 0 _ HR.out HC.out HK1.out).mono ?_); rintro e w1 ⟨rfl, hb⟩; have HB1 := Aside0.mk (HBX.out.trans (hb.mono HBX.out.size)); have HR1 := Aside0.mk (Kd.C_below HR.out hb); have HX := Aside0.mk (blk_below HX0.out hb); clear hb)
  have hxa := blk_cell HX.out 0
  have hxb := blk_cell HX.out 1
  by_cases ha : a < 0
  ·have hab : decide (a < 0) = true := by simpa using ha
   have e := HP.out.symm.trans (if_pos (.inl ha))
   clear ha
   go_quiet (fail)
   go_wp2
   refine bodyPost_ret (results_tmp2 rfl _ _ _) rfl ?_
   exact ⟨.slice none 0 0, by rw [e]; rfl, by rw [e]; exact Kd.R_nil _ _ _ _ _, pw_below_drewN HB1.out _⟩
  ·have hab : decide (a < 0) = false := by simpa using ha
   by_cases hb : b < a
   ·have hbb : decide (b < a) = true := by simpa using hb
    have e := HP.out.symm.trans (if_pos (.inr (.inl hb)))
    clear ha hb
    go_quiet (fail)
    go_wp2
    refine bodyPost_ret (results_tmp2 rfl _ _ _) rfl ?_
    exact ⟨.slice none 0 0, by rw [e]; rfl, by rw [e]; exact Kd.R_nil _ _ _ _ _, pw_below_drewN HB1.out _⟩
   have hbb : decide (b < a) = false := by simpa using hb
   clear hxa hxb
   generalize w.heap.size = gX at HX ⊢
   refine start_ (n := 17) (S := fun w' => w'.cell? ⟨gX, 0, none⟩ = some (.int .i64 a) ∧ w'.cell? ⟨gX, 1, none⟩ = some (.int .i64 b)) (ds := []) #[false, false, false, false, false, false, false, false, false, false, false, false, false, false, false, false, false] (by kernel_rfl) rfl rfl ⟨(blk_cell HX.out 0).trans rfl, (blk_cell HX.out 1).trans rfl⟩ (fun hHeld => ?_)
   generalize hwy_ : w1.drew = wy at hHeld ⊢
   have HBD := hwy_ ▸ below_drew (Below.refl w1.heap.size w1)
   replace HB1 := Aside0.mk (below_then HB1.out HB1.out.size HBD)
   replace HR1 := Aside0.mk (Kd.C_below HR1.out HBD)
   replace HX := Aside0.mk (blk_below HX.out HBD)
   clear HBD
   clear hwy_
   refine pure_ (i := 0) (N := some 13) (v := ?_) (a' := ?_) #[true, false, false, false, false, false, false, false, false, false, false, false, false, false, false, false, false] rfl rfl (by kernel_rfl) (fun _ _ _ h => h) (Or.inl ⟨by rfl, ?_⟩) ?_ ?_
   rotate_left
   ·intro w'
    go_simp
    with_reducible rfl
   rotate_left
   ·simp only [Act.put, List.setIfInBounds_toArray, List.set_cons_zero, List.set_cons_succ, i64_w, i32_w]
    rfl
   refine take_ (i := 1) (N := some 14) (v := ?_) (a' := ?_) #[true, true, false, false, false, false, false, false, false, false, false, false, false, false, false, false, false] rfl rfl (by kernel_rfl) (fun _ _ _ h => h) (Or.inl ⟨by rfl, ?_⟩) hHeld ?_ ?_
   rotate_left
   ·rintro w' ⟨s0, s1⟩
    go_simp
    with_reducible rfl
   rotate_left
   ·simp only [Act.put, List.setIfInBounds_toArray, List.set_cons_zero, List.set_cons_succ, i64_w, i32_w]
    rfl
   refine pure_ (i := 2) (N := some 15) (v := ?_) (a' := ?_) #[true, true, true, false, false, false, false, false, false, false, false, false, false, false, false, false, false] rfl rfl (by kernel_rfl) (fun _ _ _ h => h) (Or.inl ⟨by rfl, ?_⟩) ?_ ?_
   rotate_left
   ·intro w'
    go_simp
    with_reducible rfl
   rotate_left
   ·simp only [Act.put, List.setIfInBounds_toArray, List.set_cons_zero, List.set_cons_succ, i64_w, i32_w]
    rfl
   refine pure_ (i := 3) (N := some 16) (v := ?_) (a' := ?_) #[true, true, true, true, false, false, false, false, false, false, false, false, false, false, false, false, false] rfl rfl (by kernel_rfl) (fun _ _ _ h => h) (Or.inl ⟨by rfl, ?_⟩) ?_ ?_
   rotate_left
   ·intro w'
    go_simp
    with_reducible rfl
   rotate_left
   ·simp only [Act.put, List.setIfInBounds_toArray, List.set_cons_zero, List.set_cons_succ, i64_w, i32_w]
    rfl
   refine pure_ (i := 4) (N := some 17) (v := ?_) (a' := ?_) #[true, true, true, true, true, false, false, false, false, false, false, false, false, false, false, false, false] rfl rfl (by kernel_rfl) (fun _ _ _ h => h) (Or.inl ⟨by rfl, ?_⟩) ?_ ?_
   rotate_left
   ·intro w'
    go_simp
    with_reducible rfl
   rotate_left
   ·simp only [Act.put, List.setIfInBounds_toArray, List.set_cons_zero, List.set_cons_succ, i64_w, i32_w]
    rfl
   refine pure_ (i := 6) (N := some 19) (v := ?_) (a' := ?_) #[true, true, true, true, true, false, true, false, false, false, false, false, false, false, false, false, false] rfl rfl (by kernel_rfl) (fun _ _ _ h => h) (Or.inl ⟨by rfl, ?_⟩) ?_ ?_
   rotate_left
   ·intro w'
    go_simp
    with_reducible rfl
   rotate_left
   ·simp only [Act.put, List.setIfInBounds_toArray, List.set_cons_zero, List.set_cons_succ, i64_w, i32_w]
    rfl
   refine take_ (i := 5) (N := some 18) (v := ?_) (a' := ?_) #[true, true, true, true, true, true, true, false, false, false, false, false, false, false, false, false, false] rfl rfl (by kernel_rfl) (fun _ _ _ h => h) (Or.inl ⟨by rfl, ?_⟩) hHeld ?_ ?_
   rotate_left
   ·rintro w' ⟨s0, s1⟩
    go_simp
    with_reducible rfl
   rotate_left
   ·simp only [Act.put, List.setIfInBounds_toArray, List.set_cons_zero, List.set_cons_succ, i64_w, i32_w]
    rfl
   refine take_ (i := 7) (N := some 20) (v := ?_) (a' := ?_) #[true, true, true, true, true, true, true, true, false, false, false, false, false, false, false, false, false] rfl rfl (by kernel_rfl) (fun _ _ _ h => h) (Or.inl ⟨by rfl, ?_⟩) hHeld ?_ ?_
   rotate_left
   ·rintro w' ⟨s0, s1⟩
    go_simp
    with_reducible rfl
   rotate_left
   ·simp only [Act.put, List.setIfInBounds_toArray, List.set_cons_zero, List.set_cons_succ, i64_w, i32_w]
    rfl
   refine pure_ (i := 8) (N := some 21) (v := ?_) (a' := ?_) #[true, true, true, true, true, true, true, true, true, false, false, false, false, false, false, false, false] rfl rfl (by kernel_rfl) (fun _ _ _ h => h) (Or.inl ⟨by rfl, ?_⟩) ?_ ?_
   rotate_left
   ·intro w'
    go_simp
    with_reducible rfl
   rotate_left
   ·simp only [Act.put, List.setIfInBounds_toArray, List.set_cons_zero, List.set_cons_succ, i64_w, i32_w]
    rfl
   refine pure_ (i := 9) (N := some 22) (v := ?_) (a' := ?_) #[true, true, true, true, true, true, true, true, true, true, false, false, false, false, false, false, false] rfl rfl (by kernel_rfl) (fun _ _ _ h => h) (Or.inl ⟨by rfl, ?_⟩) ?_ ?_
   rotate_left
   ·intro w'
    go_simp
    with_reducible rfl
   rotate_left
   ·simp only [Act.put, List.setIfInBounds_toArray, List.set_cons_zero, List.set_cons_succ, i64_w, i32_w]
    rfl
   refine pure_ (i := 10) (N := some 23) (v := ?_) (a' := ?_) #[true, true, true, true, true, true, true, true, true, true, true, false, false, false, false, false, false] rfl rfl (by kernel_rfl) (fun _ _ _ h => h) (Or.inl ⟨by rfl, ?_⟩) ?_ ?_
   rotate_left
   ·intro w'
    go_simp
    with_reducible rfl
   rotate_left
   ·simp only [Act.put, List.setIfInBounds_toArray, List.set_cons_zero, List.set_cons_succ, i64_w, i32_w]
    rfl
   refine pure_ (i := 11) (N := some 24) (v := ?_) (a' := ?_) #[true, true, true, true, true, true, true, true, true, true, true, true, false, false, false, false, false] rfl rfl (by kernel_rfl) (fun _ _ _ h => h) (Or.inl ⟨by rfl, ?_⟩) ?_ ?_
   rotate_left
   ·intro w'
    go_simp
    with_reducible rfl
   rotate_left
   ·simp only [Act.put, List.setIfInBounds_toArray, List.set_cons_zero, List.set_cons_succ, i64_w, i32_w]
    rfl
   refine pure_ (i := 13) (N := some 26) (v := ?_) (a' := ?_) #[true, true, true, true, true, true, true, true, true, true, true, true, false, true, false, false, false] rfl rfl (by kernel_rfl) (fun _ _ _ h => h) (Or.inl ⟨by rfl, ?_⟩) ?_ ?_
   rotate_left
   ·intro w'
    go_simp
    with_reducible rfl
   rotate_left
   ·simp only [Act.put, List.setIfInBounds_toArray, List.set_cons_zero, List.set_cons_succ, i64_w, i32_w]
    rfl
   refine take_ (i := 12) (N := some 25) (v := ?_) (a' := ?_) #[true, true, true, true, true, true, true, true, true, true, true, true, true, true, false, false, false] rfl rfl (by kernel_rfl) (fun _ _ _ h => h) (Or.inl ⟨by rfl, ?_⟩) hHeld ?_ ?_
   rotate_left
   ·rintro w' ⟨s0, s1⟩
    go_simp
    with_reducible rfl
   rotate_left
   ·simp only [Act.put, List.setIfInBounds_toArray, List.set_cons_zero, List.set_cons_succ, i64_w, i32_w]
    rfl
   refine one_ (i := 14) (N := some 27) #[true, true, true, true, true, true, true, true, true, true, true, true, true, true, true, false, false] rfl rfl (by kernel_rfl) (by decide) (fun K hK => ?_)
   refine goes_ Try.func49 (by kernel_rfl) rfl #[.slice A0 l.length c0] (by rfl) rfl rfl (by simp only [List.map_toArray, List.map_cons, List.map_nil]; rfl) ?_
   with_reducible refine (iso_length.calls k2 A0 c0 l T _ HR1.out HC.out HK2.out).mono ?_
   rintro e w3 ⟨rfl, hb3⟩
   refine ⟨_, rfl, ?_⟩
   replace HB1 := Aside0.mk (below_then HB1.out HB1.out.size hb3)
   replace HR1 := Aside0.mk (Kd.C_below HR1.out hb3)
   replace HX := Aside0.mk (blk_below HX.out hb3)
   clear hb3
   refine hK.out _ _ ⟨(blk_cell HX.out 0).trans rfl, (blk_cell HX.out 1).trans rfl⟩ (fun hHeld => ?_)
   clear hK K
   refine norm_ (a' := ?_) ?_ ?_
   rotate_left
   ·show Act.put _ (some 27) _ = _
    simp only [Act.put, List.setIfInBounds_toArray, List.set_cons_zero, List.set_cons_succ, i64_w, i32_w]
    rfl
   refine pure_ (i := 15) (N := some 28) (v := ?_) (a' := ?_) #[true, true, true, true, true, true, true, true, true, true, true, true, true, true, true, true, false] rfl rfl (by kernel_rfl) (fun _ _ _ h => h) (Or.inl ⟨by rfl, ?_⟩) ?_ ?_
   rotate_left
   ·intro w'
    go_simp
    with_reducible rfl
   rotate_left
   ·simp only [Act.put, List.setIfInBounds_toArray, List.set_cons_zero, List.set_cons_succ, i64_w, i32_w]
    rfl
   refine pure_ (i := 16) (N := some 29) (v := ?_) (a' := ?_) #[true, true, true, true, true, true, true, true, true, true, true, true, true, true, true, true, true] rfl rfl (by kernel_rfl) (fun _ _ _ h => h) (Or.inl ⟨by rfl, ?_⟩) ?_ ?_
   rotate_left
   ·intro w'
    go_simp
    with_reducible rfl
   rotate_left
   ·simp only [Act.put, List.setIfInBounds_toArray, List.set_cons_zero, List.set_cons_succ, i64_w, i32_w]
    rfl
   refine done_ (by kernel_rfl) ?_
   by_cases hbT : T < b
   ·have hTb : decide (T < b) = true := by simpa using hbT
    have e := HP.out.symm.trans (if_pos (.inr (.inr hbT)))
    clear ha hb
    have hTb2 : decide (b ≤ T) = false := by simpa using hbT
    go_wp2
    refine bodyPost_ret (results_tmp2 rfl _ _ _) rfl ?_
    exact ⟨.slice none 0 0, by rw [e]; rfl, by rw [e]; exact Kd.R_nil _ _ _ _ _, HB1.out⟩
   ·have hTb : decide (T < b) = false := by simpa using hbT
    have e := HP.out.symm.trans (if_neg (by omega))
    have hx2 : (0 ≤ a ∧ a ≤ 1099511627776) ∧ 0 ≤ b ∧ b ≤ 1099511627776 := by have := hT.out; omega
    have hxa : ∀ o, (w3.alloc o).cell? ⟨gX, 0, none⟩ = some (.int .i64 a) := fun o => blk_cell (blk_alloc HX.out o) 0
    have hxb : ∀ o, (w3.alloc o).cell? ⟨gX, 1, none⟩ = some (.int .i64 b) := fun o => blk_cell (blk_alloc HX.out o) 1
    clear ha hb
    have hTb2 : decide (b ≤ T) = true := by simpa using hbT
    go_wp2_with (first | (go_at_call 50; (with_reducible refine (each_add w3.heap.size 65536 (BInv w3.heap.size) okPce (BDirty w3.heap.size) BInv.dirty BInv.mono BInv.step A0 c0 l a b [] w3 _ HR1.out HC.out (Nat.le_refl _) ((Below.refl _ _).alloc (Nat.le_refl _) _) (BInv.new w3) (by have := HLL.out; simp; omega) (by have := HLL.out; omega) HFI.out hx2.1 hx2.2 (fun r hr a n h1 h2 h3 => okPce_part (HG.out r hr) a n h1 h2 h3)).mono ?_); rintro e w4 ⟨rfl, hi, hb⟩; have HI4 := Aside0.mk hi; have HB4 := Aside0.mk hb; clear hi hb) | (go_at_call 52; (with_reducible refine (done_few w3.heap.size _ w4 HI4.out HEL.out).mono ?_); rintro e w5 ⟨v, rfl, ho, rfl⟩; have HO := Aside0.mk ho; clear ho))
    refine bodyPost_ret (results_tmp2 rfl _ _ _) rfl ?_
    exact ⟨v, by rw [e]; rfl, by rw [e, ← HE.out]; exact Kd.R_lower HO.out HB1.out.size, HB1.out.trans (HB4.out.mono HB1.out.size)⟩
 ·have HK1 := Aside0.mk hk1
  have hne : (check13 l == 0) = false := by simpa using h0
  have hne1 : (check13 l != 0) = true := by simpa using h0
  rw [if_neg h0]
  clear hk1 h0
  generalize check13 l = q at *
  go_enter Try.func30, Try.ntmps30
  go_wp2_with (go_at_call 48; (with_reducible refine (iso_Check.calls k1 A0 c0 l q _ HR.out HC.out HK1.out).mono ?_); rintro e w1 ⟨rfl, hb⟩; have HB1 := Aside0.mk (HBX.out.trans (hb.mono HBX.out.size)); clear hb)
  refine bodyPost_ret (results_tmp2 rfl _ _ _) rfl ?_
  exact ⟨_, rfl, Kd.R_nil _ _ _ _ _, HB1.out⟩
theorem iso_Part.calls (A0 : Option Addr) (c0 : Nat) (l0 : List (S56)) (a1_0 : Int) (a1_1 : Int) (r1 : List (S56)) (r2 : Int) (w : World) (hr0 : Kd.C k56 w A0 l0.length l0) (hc0 : l0.length ≤ c0) (h : iso_Part.f l0 a1_0 a1_1 = some (r1, r2)) :
  Calls Try.prog 30 #[.slice A0 l0.length c0, .agg #[.int .i64 a1_0, .int .i64 a1_1]] w fun e w' => ∃ v0_ : Value, e = .returned (.tuple #[v0_, .int .i64 r2]) ∧ Kd.R k56 56 w' w.heap.size (fun _ => True) v0_ r1 ∧ Below w.heap.size w w' := by
 have e : partOf13 l0 a1_0 a1_1 = (r1, r2) := Option.some.inj h
 have := part_main A0 c0 l0 a1_0 a1_1 w hr0 hc0
 rw [e] at this
 exact this
end Go.Proofs.Ytjkakgkiikjdmaa.G

namespace Go.Proofs.Ytjkakgkiikjdmaa.G
open Go.RowKit Go.Proofs.YtjkakgkiikjdmaaW.PrintWords Go.Proofs.YtjkakgkiikjdmaaW.PrintLast Go.Proofs.YtjkakgkiikjdmaaW.PrintMore
set_option linter.unusedVariables false
set_option linter.unusedSimpArgs false
def inS (s : S49) (x : Int) : Bool := decide (s.f0 ≤ x) && decide (x < s.f1)
theorem hasOf_inS (l : List S49) (x : Int) : hasOf l x = l.any fun s => inS s x := by
 unfold hasOf inS
 congr 1
 funext s
 rw [Bool.decide_and]
set_option maxRecDepth 100000 in
set_option maxHeartbeats 4000000 in
theorem has_closure (s : S49) (x : Int) (g : Nat) (w : World) (hx : w.cell? ⟨g, 0, none⟩ = some (.int .i64 x)) (hg : g < w.heap.size) :
  Calls Try.prog 47 #[.agg #[.int .i64 s.f0, .int .i64 s.f1], .pointer (some ⟨g, 0, none⟩)] w fun e w' => e = .returned (.bool (inS s x)) ∧ Below w.heap.size w w' := by
 have hq : ∀ o, (w.alloc o).cell? ⟨g, 0, none⟩ = some (.int .i64 x) := fun o => pw_cell_below ((Below.refl _ _).alloc (Nat.le_refl _) o) hx
 clear hx
 obtain ⟨a, b⟩ := s
 by_cases h1 : a ≤ x
 ·have h1b : decide (a ≤ x) = true := by simpa using h1
  have hv : inS ⟨a, b⟩ x = decide (x < b) := by unfold inS; simp [h1]
  rw [hv]
  clear hv
  go_enter Try.func47, Try.ntmps47
  go_wp2
  go_ret
  exact ⟨rfl, (Below.refl _ _).alloc (Nat.le_refl _) _⟩
 ·have h1b : decide (a ≤ x) = false := by simpa using h1
  have hv : inS ⟨a, b⟩ x = false := by unfold inS; simp [h1]
  rw [hv]
  clear hv
  go_enter Try.func47, Try.ntmps47
  go_wp2
  go_ret
  exact ⟨rfl, (Below.refl _ _).alloc (Nat.le_refl _) _⟩
set_option maxRecDepth 100000 in
set_option maxHeartbeats 8000000 in
theorem index_has (A0 : Option Addr) (c0 : Nat) (l : List S49) (x : Int) (g : Nat) (w : World) (hr : Kd.C k49 w A0 l.length l) (hc : l.length ≤ c0) (hl : l.length ≤ 1000000) (hx : w.cell? ⟨g, 0, none⟩ = some (.int .i64 x)) (hg : g < w.heap.size) :
  Calls Try.prog 64 #[.slice A0 l.length c0, .func (.func 47) #[] #[.pointer (some ⟨g, 0, none⟩)]] w fun e w' => ∃ i : Int, e = .returned (.int .i64 i) ∧ decide (0 ≤ i) = hasOf l x ∧ Below w.heap.size w w' := by
 have eg : ∀ args w, (callFunc 47 args).run Try.prog w = .ok (.enter 47 args) w := enters_of Try.func47 (by kernel_rfl) rfl
 have HR := Aside0.mk hr
 have HC := Aside0.mk hc
 have HX := Aside0.mk hx
 have HG := Aside0.mk hg
 clear hr hc hx hg
 go_enter Try.func64, Try.ntmps64
 go_wp2
 go_loopw [8] (fun i wr => ∃ kk : Nat, i = .int .i64 kk ∧ Aside0 (kk ≤ l.length) ∧ Aside0 (hasOf (l.take kk) x = false) ∧ Aside0 (Below w.heap.size w wr))
  (fun i _ => l.length - (intOf i).toNat)
 case atStart => exact ⟨0, rfl, ⟨Nat.zero_le _⟩, ⟨by simp [hasOf]⟩, ⟨Below.refl _ _⟩⟩
 case round =>
  obtain ⟨kk, rfl, HK, HN, HB⟩ := hrel
  by_cases hk : kk < l.length
  ·have hk1 : (kk : Int) < (l.length : Int) := by omega
   have hd0 : decide (kk < l.length) = true := by simpa using hk
   obtain ⟨ad, rfl, hz0, hz1⟩ := at_T49 (Kd.C_below HR.out HB.out) (kk : Int) (by omega) hk1
   simp only [Int.toNat_natCast] at hz0 hz1
   have hsn := Aside0.mk (show hasOf (l.take (kk + 1)) x = (hasOf (l.take kk) x || inS (rd_T49 l kk) x) by rw [List.take_succ_eq_append_getElem hk, hasOf_inS, hasOf_inS, List.any_append]; simp [rd_T49, List.getD_eq_getElem?_getD, List.getElem?_eq_getElem hk])
   have hmem := Aside0.mk (show inS (rd_T49 l kk) x = true → hasOf l x = true from fun h => by
    rw [hasOf_inS, List.any_eq_true]
    exact ⟨l[kk], List.getElem_mem hk, by rw [← h]; simp [rd_T49, List.getD_eq_getElem?_getD, List.getElem?_eq_getElem hk]⟩)
   have hxr := Aside0.mk (pw_cell_below HB.out HX.out)
   have hgr := Aside0.mk (Nat.lt_of_lt_of_le HG.out HB.out.size)
   generalize rd_T49 l kk = s at *
   cases hin : inS s x with
   | true =>
    go_wp2_with (go_at_call 47; (with_reducible refine (has_closure s x g _ hxr.out hgr.out).mono ?_); rintro e w1 ⟨rfl, hb⟩; have HB1 := Aside0.mk (below_then HB.out HB.out.size hb); clear hb)
    go_ret
    exact ⟨_, rfl, by rw [hmem.out hin]; simp, HB1.out⟩
   | false =>
    go_wp2_with (go_at_call 47; (with_reducible refine (has_closure s x g _ hxr.out hgr.out).mono ?_); rintro e w1 ⟨rfl, hb⟩; have HB1 := Aside0.mk (below_then HB.out HB.out.size hb); clear hb)
    go_roundw
    case rel => exact ⟨kk + 1, by go_num, ⟨by omega⟩, ⟨by rw [hsn.out, HN.out, hin]; rfl⟩, HB1⟩
    case measure => simp [intOf]; omega
  ·have hd0 : decide (kk < l.length) = false := by simpa using hk
   have hfin := Aside0.mk (show hasOf l x = false by have := HN.out; rwa [List.take_of_length_le (by omega)] at this)
   go_wp2
   go_ret
   exact ⟨_, rfl, by rw [hfin.out]; rfl, HB.out⟩
set_option maxRecDepth 100000 in
set_option maxHeartbeats 4000000 in
theorem has_main (A0 : Option Addr) (c0 : Nat) (l : List S49) (x : Int) (w : World) (hr : Kd.C k49 w A0 l.length l) (hc : l.length ≤ c0) (hl : l.length ≤ 1000000) :
  Calls Try.prog 28 #[.slice A0 l.length c0, .int .i64 x] w fun e w' => e = .returned (.bool (hasOf l x)) ∧ Below w.heap.size w w' := by
 have HR := Aside0.mk (Kd.C_alloc hr (.cells #[.int .i64 x] 3))
 have HC := Aside0.mk hc
 have HL := Aside0.mk hl
 have HX := Aside0.mk (blk_cell (World.alloc_heap_new w (.cells #[.int .i64 x] 3)) 0)
 have HZ := Aside0.mk (show w.heap.size < (w.alloc (.cells #[.int .i64 x] 3)).heap.size by simp)
 have HB0 := Aside0.mk ((Below.refl w.heap.size w).alloc (Nat.le_refl _) (.cells #[.int .i64 x] 3))
 clear hr hc hl
 have hcf : Calls Try.prog 46 #[.slice A0 l.length c0, .func (.func 47) #[] #[.pointer (some ⟨w.heap.size, 0, none⟩)]] (w.alloc (.cells #[.int .i64 x] 3)) fun e w' => e = .returned (.bool (hasOf l x)) ∧ Below w.heap.size w w' := by
  go_enter Try.func46, Try.ntmps46
  go_wp2_with (go_at_call 64; go_loud (refine (index_has A0 c0 l x w.heap.size _ HR.out HC.out HL.out HX.out HZ.out).mono ?_); rintro e w1 ⟨i, rfl, hi, hb⟩; have HB1 := Aside0.mk (HB0.out.trans (hb.mono (Nat.le_of_lt HZ.out))); have HI := Aside0.mk hi; clear hb hi)
  go_ret
  exact ⟨by rw [HI.out]; rfl, HB1.out⟩
 have HCF := Aside0.mk hcf
 clear hcf
 go_enter Try.func28, Try.ntmps28
 go_wp2_with (go_at_call 46; (with_reducible refine HCF.out.mono ?_); rintro e w1 ⟨rfl, hb⟩; have HB1 := Aside0.mk hb; clear hb)
 go_ret
 exact ⟨rfl, HB1.out⟩
def span_Has.f (l0 : List S49) (a1 : Int) : Option Bool := if l0.length ≤ 1000000 then some (hasOf l0 a1) else none
theorem span_Has.calls (A0 : Option Addr) (c0 : Nat) (l0 : List (S49)) (a1 : Int) (r : Bool) (w : World) (hr0 : Kd.C k49 w A0 l0.length l0) (hc0 : l0.length ≤ c0) (h : span_Has.f l0 a1 = some r) :
  Calls Try.prog 28 #[.slice A0 l0.length c0, .int .i64 a1] w fun e w' => e = .returned (.bool r) ∧ Below w.heap.size w w' := by
 unfold span_Has.f at h
 split at h
 case isFalse => cases h
 rename_i hl
 obtain rfl := Option.some.inj h
 exact has_main A0 c0 l0 a1 w hr0 hc0 hl
end Go.Proofs.Ytjkakgkiikjdmaa.G
