import Derived.Test.YtalpegglbfobiaaQ3
import Derived.Test.YtalpegglbfobiaaQ1
import Derived.Deep.Slices
import Derived.Deep.Fields
import Derived.ChangeSame
import Derived.ChangeArms
namespace Go.Proofs.Ytalpegglbfobiaa.G
open Go.RowKit Go.Proofs.YtalpegglbfobiaaW.PrintWords Go.Proofs.YtalpegglbfobiaaW.PrintLast Go.Proofs.YtalpegglbfobiaaW.PrintMore
attribute [local go_sem] max2_int min2_int max_two min_two max_three min_three max_four min_four   -- for this text's walks alone
set_option linter.unusedVariables false
set_option linter.unusedSimpArgs false
def compOf13 (a b : List S44) : List S44 × Int := if check13 a = 0 then (if check13 b = 0 then (if a.any (farR (tot13 b)) = true then ([], 21) else if (nrm ((sem a).map (lookOf (sem b)))).length > 256 then ([], 8) else (nrm ((sem a).map (lookOf (sem b))), 0)) else ([], check13 b)) else ([], check13 a)
def iso_Compose.f (l0 l1 : List S44) : Option (List S44 × Int) := some (compOf13 l0 l1)
theorem CInv.start {g g2 : Nat} {wr w2 w7 : World} {v2 : Value} {q ps : List S44} (h : BRun g wr ps w2) (hb : Below w2.heap.size w2 w7) (hp : PBld g2 v2 q w7) (h2 : w2.heap.size ≤ g2) : CInv g wr v2 q ps w7 := by
 have h3 := BRun.mono ps w2 w7 h hb
 obtain ⟨⟨h1, v, hB⟩, _⟩ := h
 refine ⟨h1, ⟨v, hB.below hb, fun k hk => ?_⟩, Kd.R_lower (Kd.R_mono (Kd.R_tight rfl hp.o) (fun k hk => hk.symm)) (Nat.zero_le _), h3.1.2⟩
 have hbase := Kd.R_base hp.o k hk
 have hlt := hB.lt
 exact ⟨fun e => by have := (hB.base e).2; omega, by omega⟩
set_option maxRecDepth 100000 in
set_option maxHeartbeats 32000000 in
theorem comp_far (a b : List S44) (A0 : Option Addr) (c0 : Nat) (A1 : Option Addr) (c1 : Nat) (w : World) (hr0 : Kd.C k44 w A0 a.length a) (hc0 : a.length ≤ c0) (hr1 : Kd.C k44 w A1 b.length b) (hc1 : b.length ≤ c1) (h0 : check13 a = 0) (h1 : check13 b = 0) :
  Calls Try.prog 61 #[.slice A0 a.length c0, .slice A1 b.length c1] w fun e w' => ∃ v, e = .returned (.tuple #[v, .int .i64 (compOf13 a b).2]) ∧ Kd.R k44 44 w' w.heap.size (fun _ => True) v (compOf13 a b).1 ∧ Below w.heap.size w w' := by
 have HR0 := Aside0.mk hr0
 have HC0 := Aside0.mk hc0
 have HR1 := Aside0.mk hr1
 have HC1 := Aside0.mk hc1
 clear hr0 hc0 hr1 hc1
 obtain ⟨k1, hk1⟩ := (icheck_ends a).get
 obtain ⟨k2, hk2⟩ := (icheck_ends b).get
 unfold compOf13
 obtain ⟨hla, hga, hta⟩ := check13_zero h0
 obtain ⟨hlb, hgb, htb⟩ := check13_zero h1
 have hfb : ∀ r ∈ b, fitR r := fun r hr => fit_of (hgb r hr)
 obtain ⟨k3, hk3⟩ := (ilength_ends b (by omega) (fun r hr => by have := hfb r hr; unfold fitR at this; omega)).get
 have HK3 := Aside0.mk hk3
 have HCF := Aside0.mk (comp_fold a b h1 hga)
 rw [h0] at hk1
 rw [h1] at hk2
 have HK1 := Aside0.mk hk1
 have HK2 := Aside0.mk hk2
 have HLA := Aside0.mk hla
 have HLB := Aside0.mk hlb
 have HGA := Aside0.mk hga
 have HGB := Aside0.mk hgb
 have HFB := Aside0.mk (show ∀ r ∈ b, 0 ≤ r.f0 ∧ r.f0 ≤ 17179869184 ∧ 1 ≤ r.f1 ∧ r.f1 ≤ 17179869184 from hfb)
 have hT := Aside0.mk (show 0 ≤ tot13 b ∧ tot13 b ≤ 17179869184 by have := tot_nonneg h1; omega)
 rw [if_pos h0, if_pos h1]
 clear hk1 hk2 hk3 h0 h1 hla hga hta hlb hgb htb hfb
 generalize tot13 b = T at *
 obtain ⟨P, hP⟩ : ∃ P, (if a.any (farR T) = true then (([], 21) : List S44 × Int) else if (nrm ((sem a).map (lookOf (sem b)))).length > 256 then ([], 8) else (nrm ((sem a).map (lookOf (sem b))), 0)) = P := ⟨_, rfl⟩
 rw [hP]
 have HP := Aside0.mk hP
 clear hP
 go_enter Try.func61, Try.ntmps61
 go_wp2_with (first | (go_at_call 39; (with_reducible refine (iso_Check.calls k1 A0 c0 a 0 _ HR0.out HC0.out HK1.out).mono ?_); rintro e w1 ⟨rfl, hb⟩; have HB1 := Aside0.mk hb; have HR1a := Aside0.mk (Kd.C_below HR1.out hb); clear hb) | (go_at_call 39; (with_reducible refine (iso_Check.calls k2 A1 c1 b 0 _ HR1a.out HC1.out HK2.out).mono ?_); rintro e w2 ⟨rfl, hb⟩; have HB2 := Aside0.mk (below_then HB1.out HB1.out.size hb); have HR1b := Aside0.mk (Kd.C_below HR1a.out hb); clear hb) | (go_at_call 64; (with_reducible refine (iso_length.calls k3 A1 c1 b T _ HR1b.out HC1.out HK3.out).mono ?_); rintro e w3 ⟨rfl, hb⟩; have HB3 := Aside0.mk (below_then HB2.out HB2.out.size hb); clear hb))
 go_loopw [29] (fun i wr => ∃ kk : Nat, i = .int .i64 kk ∧ Aside0 (kk ≤ a.length) ∧ Aside0 (∀ r ∈ a.take kk, farR T r = false) ∧ Aside0 (Below w.heap.size w wr))
  (fun i _ => a.length - (intOf i).toNat)
 case atStart => exact ⟨0, rfl, ⟨Nat.zero_le _⟩, ⟨by simp⟩, HB3⟩
 case round =>
  obtain ⟨kk, rfl, HK, HN, HB⟩ := hrel
  have hla2 : a.length ≤ 256 := HLA.out
  by_cases hk : kk < a.length
  ·have hk1 : (kk : Int) < (a.length : Int) := by omega
   have hd0 : decide (kk < a.length) = true := by simpa using hk
   obtain ⟨ad, rfl, hz0, hz1, hz2⟩ := at_T44 (Kd.C_below HR0.out HB.out) (kk : Int) (by omega) hk1
   simp only [Int.toNat_natCast] at hz0 hz1 hz2
   have hrm := Aside0.mk (show rd_T44 a kk ∈ a by simp [rd_T44, List.getD_eq_getElem?_getD, List.getElem?_eq_getElem hk])
   have hsn := Aside0.mk (show a.take (kk + 1) = a.take kk ++ [rd_T44 a kk] by rw [List.take_succ_eq_append_getElem hk]; simp [rd_T44, List.getD_eq_getElem?_getD, List.getElem?_eq_getElem hk])
   have hv := fit_of (HGA.out _ hrm.out)
   unfold fitR at hv
   generalize rd_T44 a kk = r at *
   have hnr : nearR r := ⟨by omega, by omega, by omega⟩
   have HIM := Aside0.mk (show ∀ W, Calls Try.prog 69 #[.agg #[.int .i64 r.f0, .int .i64 r.f1, .bool r.f2], .int .i64 (wrap64 (r.f1 - 1))] W fun e w' => e = .returned (.int .i64 (img r (r.f1 - 1))) ∧ Below W.heap.size W w' from fun W => by
    have e : wrap64 (r.f1 - 1) = r.f1 - 1 := by unfold wrap64; omega
    rw [e]
    exact iso_image.calls _ _ _ _ _ W (image_is r (r.f1 - 1) hnr (by omega) (by omega)))
   have HX := Aside0.mk (World.alloc_heap_new wr (.cells #[.int .i64 r.f0, .int .i64 r.f1, .bool r.f2] 44))
   have HBY := Aside0.mk (HB.out.alloc HB.out.size (.cells #[.int .i64 r.f0, .int .i64 r.f1, .bool r.f2] 44))
   go_wp2
   clear hz0 hz1 hz2
   generalize wr.alloc _ = wx at *
   generalize wr.heap.size = gX at *
   refine start_ (n := 10) (S := fun w' => w'.cell? ⟨gX, 0, none⟩ = some (.int .i64 r.f0) ∧ w'.cell? ⟨gX, 1, none⟩ = some (.int .i64 r.f1) ∧ w'.cell? ⟨gX, 2, none⟩ = some (.bool r.f2)) (ds := []) #[false, false, false, false, false, false, false, false, false, false] (by kernel_rfl) rfl rfl ⟨(blk_cell HX.out 0).trans rfl, (blk_cell HX.out 1).trans rfl, (blk_cell HX.out 2).trans rfl⟩ (fun hHeld => ?_)
   generalize hwy_ : wx.drew = wy at hHeld ⊢
   have HBD := hwy_ ▸ below_drew (Below.refl wx.heap.size wx)
   replace HBY := Aside0.mk (below_then HBY.out HBY.out.size HBD)
   replace HX := Aside0.mk (blk_below HX.out HBD)
   clear HBD
   clear hwy_
   refine pv_ 0 (some 33) ?_
   refine pv_ 3 (some 36) ?_
   refine pv_ 8 (some 41) ?_
   refine tv_ 1 (some 34) hHeld ?_ (hy := .inl ⟨by rfl, by rintro w' ⟨s0, s1, s2⟩; go_simp; with_reducible rfl⟩)
   refine tv_ 2 (some 35) hHeld ?_ (hy := .inl ⟨by rfl, by rintro w' ⟨s0, s1, s2⟩; go_simp; with_reducible rfl⟩)
   refine tv_ 4 (some 37) hHeld ?_ (hy := .inl ⟨by rfl, by rintro w' ⟨s0, s1, s2⟩; go_simp; with_reducible rfl⟩)
   refine pv_ 5 (some 38) ?_
   refine one_ (i := 6) (N := some 39) #[true, true, true, true, true, true, true, false, true, false] rfl rfl (by kernel_rfl) (by decide) (fun K hK => ?_)
   refine goes_ Try.func69 (by kernel_rfl) rfl #[.agg #[.int .i64 r.f0, .int .i64 r.f1, .bool r.f2], .int .i64 (wrap64 (r.f1 - 1))] (by rfl) rfl rfl (by simp only [List.map_toArray, List.map_cons, List.map_nil]; rfl) ?_
   with_reducible refine (HIM.out _).mono ?_
   rintro e w5 ⟨rfl, hb5⟩
   refine ⟨_, rfl, ?_⟩
   replace HBY := Aside0.mk (below_then HBY.out HBY.out.size hb5)
   replace HX := Aside0.mk (blk_below HX.out hb5)
   clear hb5
   refine hK.out _ _ ⟨(blk_cell HX.out 0).trans rfl, (blk_cell HX.out 1).trans rfl, (blk_cell HX.out 2).trans rfl⟩ (fun hHeld => ?_)
   clear hK K
   refine norm_ (a' := ?_) ?_ ?_
   rotate_left
   ·show Act.put _ (some 39) _ = _
    simp only [Act.put, List.setIfInBounds_toArray, List.set_cons_zero, List.set_cons_succ, i64_w, i32_w]
    rfl
   refine pv_ 7 (some 40) ?_
   refine pv_ 9 (some 42) ?_
   refine done_ (by kernel_rfl) ?_
   have e1 : (if r.f0 < img r (r.f1 - 1) then img r (r.f1 - 1) else r.f0) = max r.f0 (img r (r.f1 - 1)) := by split <;> omega
   have hfr : farR T r = decide (T ≤ max r.f0 (img r (r.f1 - 1))) := rfl
   rw [e1]
   generalize max r.f0 (img r (r.f1 - 1)) = M at *
   by_cases hM : T ≤ M
   ·have hMb : decide (T ≤ M) = true := by simpa using hM
    have e := HP.out.symm.trans (if_pos (List.any_eq_true.mpr ⟨r, hrm.out, by rw [hfr]; exact hMb⟩))
    go_wp2
    refine bodyPost_ret (results_tmp2 rfl _ _ _) rfl ?_
    exact ⟨.slice none 0 0, by rw [e]; rfl, by rw [e]; exact Kd.R_nil _ _ _ _ _, HBY.out⟩
   ·have hMb : decide (T ≤ M) = false := by simpa using hM
    go_wp2
    go_roundw
    case rel => exact ⟨kk + 1, by go_num, ⟨by omega⟩, ⟨by
     intro x hx
     rw [hsn.out, List.mem_append] at hx
     rcases hx with hx | hx
     ·exact HN.out x hx
     ·rw [List.mem_singleton.mp hx, hfr]; exact hMb⟩, HBY⟩
    case measure => simp [intOf]; omega
  ·have hd0 : decide (kk < a.length) = false := by simpa using hk
   have hnf : ∀ r ∈ a, farR T r = false := by have := HN.out; rwa [List.take_of_length_le (by omega)] at this
   have HE := Aside0.mk (HCF.out hnf)
   have e0 := HP.out.symm.trans (if_neg (by intro h; obtain ⟨r, hr, h2⟩ := List.any_eq_true.mp h; rw [hnf r hr] at h2; cases h2))
   have HE0 := Aside0.mk e0
   clear HP e0 HCF
   have HRA := Aside0.mk (Kd.C_below HR0.out HB.out)
   have HRB := Aside0.mk (Kd.C_below HR1.out HB.out)
   have HNF := Aside0.mk hnf
   clear hnf HN
   generalize wr = wb at *
   go_wp2
   go_loopw [46] (fun i W => ∃ kk : Nat, i = .int .i64 kk ∧ Aside0 (kk ≤ a.length) ∧ Aside0 (BRun wb.heap.size wb (psOf b (a.take kk)) W))
    (fun i _ => a.length - (intOf i).toNat)
   case atStart => exact ⟨0, rfl, ⟨Nat.zero_le _⟩, ⟨by simpa [psOf] using (show BRun wb.heap.size wb [] _ from ⟨BInv.new wb, (Below.refl _ _).alloc (Nat.le_refl _) _⟩)⟩⟩
   case round =>
    obtain ⟨kk2, rfl, HK2', HI⟩ := hrel
    by_cases hk2 : kk2 < a.length
    ·have hk1 : (kk2 : Int) < (a.length : Int) := by omega
     have hd1 : decide (kk2 < a.length) = true := by simpa using hk2
     obtain ⟨ad, rfl, hz0, hz1, hz2⟩ := at_T44 (Kd.C_below HRA.out HI.out.2) (kk2 : Int) (by omega) hk1
     simp only [Int.toNat_natCast] at hz0 hz1 hz2
     have hrm := Aside0.mk (show rd_T44 a kk2 ∈ a by simp [rd_T44, List.getD_eq_getElem?_getD, List.getElem?_eq_getElem hk2])
     have hsn := Aside0.mk (show a.take (kk2 + 1) = a.take kk2 ++ [rd_T44 a kk2] by rw [List.take_succ_eq_append_getElem hk2]; simp [rd_T44, List.getD_eq_getElem?_getD, List.getElem?_eq_getElem hk2])
     have hv := fit_of (HGA.out _ hrm.out)
     unfold fitR at hv
     have hpl := psOf_len b (a.take kk2)
     have HPL := Aside0.mk (show (psOf b (a.take kk2)).length + b.length ≤ 65536 by
      rw [List.length_take, Nat.min_eq_left (by omega)] at hpl
      have h2 : kk2 * b.length + b.length ≤ 256 * 256 := by
       rw [← Nat.succ_mul]; exact Nat.mul_le_mul (by omega) HLB.out
      omega)
     clear hpl
     generalize rd_T44 a kk2 = r at *
     have hw1 : wrap64 (r.f0 + r.f1) = r.f0 + r.f1 := by unfold wrap64; omega
     have hw2 : wrap64 (r.f0 - r.f1) = r.f0 - r.f1 := by unfold wrap64; omega
     have hw3 : wrap64 (r.f0 - r.f1 + 1) = r.f0 - r.f1 + 1 := by unfold wrap64; omega
     have hw4 : wrap64 (r.f0 + 1) = r.f0 + 1 := by unfold wrap64; omega
     have hvb := HGA.out _ hrm.out
     have HX := Aside0.mk (World.alloc_heap_new wr (.cells #[.int .i64 r.f0, .int .i64 r.f1, .bool r.f2] 44))
     have HBX := Aside0.mk ((Below.refl wr.heap.size wr).alloc (Nat.le_refl _) (.cells #[.int .i64 r.f0, .int .i64 r.f1, .bool r.f2] 44))
     have HRI := Aside0.mk (BRun.mono _ _ _ HI.out HBX.out).1
     obtain ⟨ra, rn, rb⟩ := r
     dsimp only at *
     cases rb with
     | false =>
      go_wp2_with (go_at_call 65; (refine (each_add wb.heap.size 65536 (BInv wb.heap.size) okPce (BDirty wb.heap.size) BInv.dirty BInv.mono BInv.step A1 c1 b ra (ra + rn) (psOf b (a.take kk2)) wb _ HRB.out HC1.out (Nat.le_refl _) HRI.out.2 HRI.out.1 HPL.out (by have := HLB.out; omega) HFB.out (by omega) (by omega) (fun r hr x n h1 h2 h3 => okPce_part (HGB.out r hr) x n h1 h2 h3)).mono ?_); rintro e w7 ⟨rfl, hi, hb⟩; have HI7 := Aside0.mk (show BRun wb.heap.size wb _ w7 from ⟨hi, hb⟩); clear hi hb)
      go_roundw
      case rel => exact ⟨kk2 + 1, by go_num, ⟨by omega⟩, ⟨by rw [hsn.out, psOf_snoc]; exact HI7.out⟩⟩
      case measure => simp [intOf]; omega
     | true =>
      have HP0 := Aside0.mk (show PInv (wr.heap.size + 1) [] ((wr.alloc (.cells #[.int .i64 ra, .int .i64 rn, .bool true] 44)).alloc (.cells #[.slice none 0 0] 22)) from by have := PInv.new (wr.alloc (.cells #[.int .i64 ra, .int .i64 rn, .bool true] 44)); rwa [World.size_alloc] at this)
      have HCb := Aside0.mk (Kd.C_below HRB.out HRI.out.2)
      have hxa : ∀ o, ((wr.alloc (.cells #[.int .i64 ra, .int .i64 rn, .bool true] 44)).alloc o).cell? ⟨wr.heap.size, 0, none⟩ = some (.int .i64 ra) := fun o => blk_cell (blk_alloc HX.out o) 0
      have hxb : ∀ o, ((wr.alloc (.cells #[.int .i64 ra, .int .i64 rn, .bool true] 44)).alloc o).cell? ⟨wr.heap.size, 1, none⟩ = some (.int .i64 rn) := fun o => blk_cell (blk_alloc HX.out o) 1
      have hxs : (wr.alloc (.cells #[.int .i64 ra, .int .i64 rn, .bool true] 44)).heap.size = wr.heap.size + 1 := World.size_alloc _ _
      have HQL := Aside0.mk (show ([] ++ pieces b 0 (ra - rn + 1) (ra + 1)).length ≤ b.length from pieces_len b _ _ _)
      have HQM := Aside0.mk (show ∀ p ∈ [] ++ pieces b 0 (ra - rn + 1) (ra + 1), (0 ≤ p.f0 ∧ p.f0 ≤ 17179869184 ∧ 1 ≤ p.f1 ∧ p.f1 ≤ 17179869184) ∧ okPce (revR p) from fun p hp => by
       obtain ⟨r, hr, x, n, rfl, h1, h2, h3⟩ := pieces_mem b _ _ _ p hp
       exact piece_fit (HGB.out r hr) x n h1 h2 h3)
      unfold badR at hvb
      simp at hvb
      go_wp2_with (first | (go_at_call 65; (refine (each_app (wr.heap.size + 1) 65536 (PInv (wr.heap.size + 1)) (fun _ => True) (BDirty (wr.heap.size + 1)) PInv.dirty PInv.mono PInv.step A1 c1 b (ra - rn + 1) (ra + 1) [] (wr.alloc (.cells #[.int .i64 ra, .int .i64 rn, .bool true] 44)) _ HCb.out HC1.out (by omega) ((Below.refl _ _).alloc (Nat.le_refl _) _) HP0.out (by have := HLB.out; simp; omega) (by have := HLB.out; omega) HFB.out (by omega) (by omega) (fun r hr x n h1 h2 h3 => trivial)).mono ?_); rintro e w8 ⟨rfl, ⟨v2, hp⟩, hb⟩; have HB8 := Aside0.mk (HBX.out.trans (hb.mono (by omega))); have HCI := Aside0.mk (CInv.start HI.out HB8.out hp (by omega)); clear hb; obtain ⟨A2, c2, e2, hc2, hr2⟩ := Kd.R_reads hp.o; subst e2; have hcp := hp.cell; have HC2 := Aside0.mk hc2; clear hp hr2 hc2) | (go_at_call 55; (refine (reversed_add wb.heap.size 65536 wb.heap.size (CInv wb.heap.size wb (.slice A2 ([] ++ pieces b 0 (ra - rn + 1) (ra + 1)).length c2) ([] ++ pieces b 0 (ra - rn + 1) (ra + 1))) okPce (BDirty wb.heap.size) CInv.dirty CInv.mono CInv.step A2 c2 ([] ++ pieces b 0 (ra - rn + 1) (ra + 1)) (psOf b (a.take kk2)) w8 (fun ps W h => (Kd.R_reads' h.2.2.1).2.2) HC2.out (Nat.le_trans HI.out.2.size HB8.out.size) HCI.out (by have := HQL.out; have := HPL.out; omega) (by have := HQL.out; have := HLB.out; omega) (fun p hp => (HQM.out p hp).1) (fun p hp => (HQM.out p hp).2)).mono ?_); rintro e w9 ⟨rfl, hi, _⟩; have HI9 := Aside0.mk hi.run; clear hi))
      go_roundw
      case rel => exact ⟨kk2 + 1, by go_num, ⟨by omega⟩, ⟨by rw [hsn.out, psOf_snoc]; exact HI9.out⟩⟩
      case measure => simp [intOf]; omega
    ·have hd1 : decide (kk2 < a.length) = false := by simpa using hk2
     have HI2 := Aside0.mk (show BRun wb.heap.size wb (psOf b a) wr from by have := HI.out; rwa [List.take_of_length_le (by omega)] at this)
     have hpl := psOf_len b a
     have hpl2 := addAll_len (psOf b a) []
     have hab : a.length * b.length ≤ 256 * 256 := Nat.mul_le_mul HLA.out HLB.out
     have hmil : ((psOf b a).foldl addOf []).length ≤ 1000000 := by simp at hpl2; omega
     obtain ⟨⟨_, v, hB⟩, hbb⟩ := HI2.out
     have HDN := done_calls wb.heap.size v _ wr hB hmil
     have hO := HE.out
     have hP := HE0.out
     rw [← hO] at hP
     have HVO := Aside0.mk (Kd.R_lower (Kd.R_mono hB.o (fun _ _ => trivial)) HB.out.size : Kd.R k44 44 wr w.heap.size (fun _ => True) v ((psOf b a).foldl addOf []))
     have HBB := Aside0.mk (HB.out.trans (hbb.mono HB.out.size))
     clear hpl hpl2 hab hmil hB hbb hO
     generalize (psOf b a).foldl addOf [] = L at *
     by_cases hL : L.length > 256
     ·rw [if_pos hL] at HDN hP
      have HD := Aside0.mk HDN
      clear HDN
      go_wp2_with (go_at_call 57; (with_reducible refine HD.out.mono ?_); rintro e w9 ⟨rfl, hw9⟩)
      refine bodyPost_ret (results_tmp2 rfl _ _ _) rfl ?_
      subst hw9
      exact ⟨.slice none 0 0, by rw [hP]; rfl, by rw [hP]; exact Kd.R_nil _ _ _ _ _, HBB.out⟩
     ·rw [if_neg hL] at HDN hP
      have HD := Aside0.mk HDN
      clear HDN
      go_wp2_with (go_at_call 57; (with_reducible refine HD.out.mono ?_); rintro e w9 ⟨rfl, hw9⟩)
      refine bodyPost_ret (results_tmp2 rfl _ _ _) rfl ?_
      subst hw9
      exact ⟨v, by rw [hP]; rfl, by rw [hP]; exact HVO.out, HBB.out⟩
set_option maxRecDepth 100000 in
set_option maxHeartbeats 8000000 in
theorem comp_main (a b : List S44) (A0 : Option Addr) (c0 : Nat) (A1 : Option Addr) (c1 : Nat) (w : World) (hr0 : Kd.C k44 w A0 a.length a) (hc0 : a.length ≤ c0) (hr1 : Kd.C k44 w A1 b.length b) (hc1 : b.length ≤ c1) :
  Calls Try.prog 61 #[.slice A0 a.length c0, .slice A1 b.length c1] w fun e w' => ∃ v, e = .returned (.tuple #[v, .int .i64 (compOf13 a b).2]) ∧ Kd.R k44 44 w' w.heap.size (fun _ => True) v (compOf13 a b).1 ∧ Below w.heap.size w w' := by
 by_cases h0 : check13 a = 0
 ·by_cases h1 : check13 b = 0
  ·exact comp_far a b A0 c0 A1 c1 w hr0 hc0 hr1 hc1 h0 h1
  ·have HR0 := Aside0.mk hr0
   have HC0 := Aside0.mk hc0
   have HR1 := Aside0.mk hr1
   have HC1 := Aside0.mk hc1
   obtain ⟨k1, hk1⟩ := (icheck_ends a).get
   obtain ⟨k2, hk2⟩ := (icheck_ends b).get
   unfold compOf13
   rw [h0] at hk1
   have HK1 := Aside0.mk hk1
   have HK2 := Aside0.mk hk2
   have hne : (check13 b == 0) = false := by simpa using h1
   have hne1 : (check13 b != 0) = true := by simpa using h1
   rw [if_pos h0, if_neg h1]
   clear hk1 hk2 h0 h1 hr0 hc0 hr1 hc1
   generalize check13 b = q at *
   go_enter Try.func61, Try.ntmps61
   go_wp2_with (first | (go_at_call 39; (with_reducible refine (iso_Check.calls k1 A0 c0 a 0 _ HR0.out HC0.out HK1.out).mono ?_); rintro e w1 ⟨rfl, hb⟩; have HB1 := Aside0.mk hb; have HR1a := Aside0.mk (Kd.C_below HR1.out hb); clear hb) | (go_at_call 39; (with_reducible refine (iso_Check.calls k2 A1 c1 b q _ HR1a.out HC1.out HK2.out).mono ?_); rintro e w2 ⟨rfl, hb⟩; have HB2 := Aside0.mk (below_then HB1.out HB1.out.size hb); clear hb))
   refine bodyPost_ret (results_tmp2 rfl _ _ _) rfl ?_
   exact ⟨_, rfl, Kd.R_nil _ _ _ _ _, HB2.out⟩
 ·have HR0 := Aside0.mk hr0
  have HC0 := Aside0.mk hc0
  have HR1 := Aside0.mk hr1
  obtain ⟨k1, hk1⟩ := (icheck_ends a).get
  unfold compOf13
  have HK1 := Aside0.mk hk1
  have hne : (check13 a == 0) = false := by simpa using h0
  have hne1 : (check13 a != 0) = true := by simpa using h0
  rw [if_neg h0]
  clear hk1 h0 hr0 hc0 hr1 hc1
  generalize check13 a = q at *
  go_enter Try.func61, Try.ntmps61
  go_wp2_with (go_at_call 39; (with_reducible refine (iso_Check.calls k1 A0 c0 a q _ HR0.out HC0.out HK1.out).mono ?_); rintro e w1 ⟨rfl, hb⟩; have HB1 := Aside0.mk hb; clear hb)
  refine bodyPost_ret (results_tmp2 rfl _ _ _) rfl ?_
  exact ⟨_, rfl, Kd.R_nil _ _ _ _ _, HB1.out⟩
theorem iso_Compose.calls (A0 : Option Addr) (c0 : Nat) (l0 : List (S44)) (A1 : Option Addr) (c1 : Nat) (l1 : List (S44)) (r1 : List (S44)) (r2 : Int) (w : World) (hr0 : Kd.C k44 w A0 l0.length l0) (hc0 : l0.length ≤ c0) (hr1 : Kd.C k44 w A1 l1.length l1) (hc1 : l1.length ≤ c1) (h : iso_Compose.f l0 l1 = some (r1, r2)) :
  Calls Try.prog 61 #[.slice A0 l0.length c0, .slice A1 l1.length c1] w fun e w' => ∃ v0_ : Value, e = .returned (.tuple #[v0_, .int .i64 r2]) ∧ Kd.R k44 44 w' w.heap.size (fun _ => True) v0_ r1 ∧ Below w.heap.size w w' := by
 have e : compOf13 l0 l1 = (r1, r2) := Option.some.inj h
 have := comp_main l0 l1 A0 c0 A1 c1 w hr0 hc0 hr1 hc1
 rw [e] at this
 exact this
end Go.Proofs.Ytalpegglbfobiaa.G

namespace Go.Proofs.Ytalpegglbfobiaa.G
open Go.RowKit Go.Proofs.YtalpegglbfobiaaW.PrintWords Go.Proofs.YtalpegglbfobiaaW.PrintLast Go.Proofs.YtalpegglbfobiaaW.PrintMore
set_option linter.unusedVariables false
set_option linter.unusedSimpArgs false
def cmp (a b : List S44) : List Int := (sem a).map (lookOf (sem b))
theorem comp_ok {a b : List S44} (h : (compOf13 a b).2 = 0) : check13 a = 0 ∧ check13 b = 0 ∧ (∀ r ∈ a, farR (tot13 b) r = false) ∧ (compOf13 a b).1 = nrm (cmp a b) ∧ (nrm (cmp a b)).length ≤ 256 := by
 unfold compOf13 at h ⊢
 by_cases h0 : check13 a = 0
 ·rw [if_pos h0] at h ⊢
  by_cases h1 : check13 b = 0
  ·rw [if_pos h1] at h ⊢
   by_cases h2 : a.any (farR (tot13 b)) = true
   ·rw [if_pos h2] at h; cases h
   ·rw [if_neg h2] at h ⊢
    by_cases h3 : (nrm ((sem a).map (lookOf (sem b)))).length > 256
    ·rw [if_pos h3] at h; cases h
    ·rw [if_neg h3]
     refine ⟨h0, h1, fun r hr => ?_, rfl, by unfold cmp; omega⟩
     cases hf : farR (tot13 b) r with
     | false => rfl
     | true => exact absurd (List.any_eq_true.mpr ⟨r, hr, hf⟩) h2
  ·rw [if_neg h1] at h; exact absurd h h1
 ·rw [if_neg h0] at h; exact absurd h h0
theorem comp_is {a b : List S44} (h0 : check13 a = 0) (h1 : check13 b = 0) (h2 : ∀ r ∈ a, farR (tot13 b) r = false) : compOf13 a b = if (nrm (cmp a b)).length > 256 then ([], 8) else (nrm (cmp a b), 0) := by
 unfold compOf13
 rw [if_pos h0, if_pos h1, if_neg]
 ·rfl
 ·intro h
  obtain ⟨r, hr, hf⟩ := List.any_eq_true.mp h
  rw [h2 r hr] at hf
  cases hf
theorem far_sem {n : Int} {a : List S44} (hg : ∀ r ∈ a, ¬ badR r) (h : ∀ r ∈ a, farR n r = false) : ∀ y ∈ sem a, 0 ≤ y ∧ y < n := by
 intro y hy
 refine ⟨(sem_fit hg y hy).1, ?_⟩
 obtain ⟨r, hr, hy⟩ := List.mem_flatMap.mp hy
 simp only [imgs, List.mem_map, List.mem_range] at hy
 obtain ⟨i, hi, rfl⟩ := hy
 have := h r hr
 unfold farR at this
 simp only [decide_eq_false_iff_not, Int.not_le] at this
 unfold img at this ⊢
 cases hb : r.f2 <;> simp [hb] at this ⊢ <;> omega
theorem far_nrm {n : Int} {xs : List Int} (h : ∀ y ∈ xs, y < n) : ∀ t ∈ nrm xs, farR n t = false := by
 intro t ht
 have h1 := (nrm_ok xs t ht).1
 have m0 := mem_sem ht 0 (by omega)
 have m1 := mem_sem ht (t.f1 - 1).toNat (by omega)
 rw [sem_nrm] at m0 m1
 have b0 := h _ m0
 have b1 := h _ m1
 rw [show (((t.f1 - 1).toNat : Nat) : Int) = t.f1 - 1 by omega] at b1
 have e0 : img t ((0 : Nat) : Int) = t.f0 := by unfold img; split <;> simp
 rw [e0] at b0
 unfold farR
 simp only [decide_eq_false_iff_not, Int.not_le]
 omega
theorem look_mem {b : List Int} {y : Int} (h0 : 0 ≤ y) (h1 : y < b.length) : lookOf b y ∈ b := by
 have : y.toNat < b.length := by omega
 unfold lookOf
 rw [List.getD_eq_getElem?_getD, List.getElem?_eq_getElem this]
 exact List.getElem_mem _
theorem look_map {b : List Int} {y : Int} (g : Int → Int) (h0 : 0 ≤ y) (h1 : y < b.length) : lookOf (b.map g) y = g (lookOf b y) := by
 have : y.toNat < b.length := by omega
 unfold lookOf
 rw [List.getD_eq_getElem?_getD, List.getD_eq_getElem?_getD, List.getElem?_map, List.getElem?_eq_getElem this]
 rfl
theorem cmp_mem {a b : List S44} (h0 : check13 a = 0) (h1 : check13 b = 0) (h2 : ∀ r ∈ a, farR (tot13 b) r = false) : ∀ x ∈ cmp a b, x ∈ sem b := by
 intro x hx
 obtain ⟨y, hy, rfl⟩ := List.mem_map.mp hx
 have h := far_sem (check13_zero h0).2.1 h2 y hy
 exact look_mem h.1 (by rw [sem_tot h1]; exact h.2)
theorem cmp_fair {a b : List S44} (h : (compOf13 a b).2 = 0) : check13 (nrm (cmp a b)) = 0 := by
 obtain ⟨h0, h1, h2, _, h4⟩ := comp_ok h
 refine check_nrm _ (fun x hx => sem_fit (check13_zero h1).2.1 x (cmp_mem h0 h1 h2 x hx)) ?_ h4
 unfold cmp
 rw [List.length_map]
 exact sem_small h0
theorem cmp_assoc {a b c : List S44} (h : (compOf13 a b).2 = 0) (k : (compOf13 b c).2 = 0) : compOf13 (compOf13 a b).1 c = compOf13 a (compOf13 b c).1 ∧ ((compOf13 a (compOf13 b c).1).2 = 0 ∨ (compOf13 a (compOf13 b c).1).2 = 8) := by
 obtain ⟨h0, h1, h2, h3, h4⟩ := comp_ok h
 obtain ⟨_, k1, k2, k3, k4⟩ := comp_ok k
 rw [h3, k3]
 have hb := far_sem (check13_zero h1).2.1 k2
 have e1 := comp_is (a := nrm (cmp a b)) (b := c) (cmp_fair h) k1 (far_nrm (fun y hy => (hb y (cmp_mem h0 h1 h2 y hy)).2))
 have htot : tot13 (nrm (cmp b c)) = tot13 b := by rw [tot_nrm, ← sem_tot h1]; simp [cmp]
 have e2 := comp_is (a := a) (b := nrm (cmp b c)) h0 (cmp_fair k) (fun r hr => by rw [htot]; exact h2 r hr)
 have e3 : cmp (nrm (cmp a b)) c = cmp a (nrm (cmp b c)) := by
  unfold cmp
  rw [sem_nrm, sem_nrm, List.map_map]
  refine List.map_congr_left fun y hy => ?_
  have hy2 := far_sem (check13_zero h0).2.1 h2 y hy
  exact (look_map (lookOf (sem c)) hy2.1 (by rw [sem_tot h1]; exact hy2.2)).symm
 rw [e1, e2, e3]
 refine ⟨rfl, ?_⟩
 split
 ·exact .inr rfl
 ·exact .inl rfl
end Go.Proofs.Ytalpegglbfobiaa.G

namespace Go.Proofs.Ytalpegglbfobiaa.G
open Go.RowKit Go.Proofs.YtalpegglbfobiaaW.PrintWords Go.Proofs.YtalpegglbfobiaaW.PrintLast Go.Proofs.YtalpegglbfobiaaW.PrintMore
set_option linter.unusedVariables false
set_option linter.unusedSimpArgs false
theorem rd36 (l : List S55) (i : Nat) (h : i < l.length) : rd_T55 l i = l[i] := by simp [rd_T55, List.getD_eq_getElem?_getD, List.getElem?_eq_getElem h]
theorem drop36 (l : List S55) (i : Nat) (h : i < l.length) : l.drop i = rd_T55 l i :: l.drop (i + 1) := by rw [rd36 l i h]; exact List.drop_eq_getElem_cons h
theorem dropI (l : List Int) (i : Nat) (h : i < l.length) : l.drop i = rd l i :: l.drop (i + 1) := by rw [rdI l i h]; exact List.drop_eq_getElem_cons h

def badS (s : S55) : Prop := s.f0 < 0 ∨ s.f0 > s.f1 ∨ s.f1 > 17179869184
instance (s : S55) : Decidable (badS s) := by unfold badS; infer_instance
def check04 (l : List S55) : Int := if l.length > 256 then 8 else if ∃ s ∈ l, badS s then 1 else 0
theorem check04_zero {l : List S55} (h : check04 l = 0) : l.length ≤ 256 ∧ ∀ s ∈ l, ¬ badS s := by
 unfold check04 at h
 split at h
 ·cases h
 ·split at h
  ·cases h
  ·rename_i h1 h2; exact ⟨by omega, fun s hs k => h2 ⟨s, hs, k⟩⟩
def bothOf (a b : List S55) (w : Int) : List S55 × Int := if check04 a = 0 then (if check04 b = 0 then (if (combOf a b w).length > 256 then ([], 8) else (combOf a b w, 0)) else ([], check04 b)) else ([], check04 a)
theorem getLast_rd (out : List S55) (h : out.length ≠ 0) : out.getLast? = some (rd_T55 out ((out.length - 1 : Nat) : Int)) := by
 rw [List.getLast?_eq_getElem?, rd36 _ _ (by omega), List.getElem?_eq_getElem (by omega)]
theorem dropLast_set (out : List S55) (h : out.length ≠ 0) (y : S55) : out.set (out.length - 1) y = out.dropLast ++ [y] := by
 obtain ⟨d, x, rfl⟩ : ∃ d x, out = d ++ [x] := ⟨out.dropLast, out.getLast (fun e => h (by rw [e]; rfl)), (List.dropLast_concat_getLast _).symm⟩
 rw [List.dropLast_concat, List.length_append]
 simp
end Go.Proofs.Ytalpegglbfobiaa.G

namespace Go.Proofs.Ytalpegglbfobiaa.G
open Go.RowKit Go.Proofs.YtalpegglbfobiaaW.PrintWords Go.Proofs.YtalpegglbfobiaaW.PrintLast Go.Proofs.YtalpegglbfobiaaW.PrintMore
attribute [local go_sem] max2_int min2_int max_two min_two max_three min_three max_four min_four   -- for this text's walks alone
set_option linter.unusedVariables false
set_option linter.unusedSimpArgs false

def span_Norm_1.f (a0 : Bool) (a1 : Bool) : Option (Bool) := some a0
set_option maxHeartbeats 8000000 in
set_option maxRecDepth 100000 in
theorem span_Norm_1.calls (a0 : Bool) (a1 : Bool) (r : Bool) (w : World) (h : span_Norm_1.f a0 a1 = some r) :
  Calls Try.prog 68 #[.bool a0, .bool a1] w fun e w' => e = .returned (.bool r) ∧ Drawn0 w w' := by
 have H : (some a0) = some r := h
 clear h
 obtain rfl := Option.some.inj H
 go_enter Try.func68, Try.ntmps68
 go_wp2
 go_ret
 exact ⟨by first | rfl | (simp; done) | (simp [*]; done), by repeat (first | exact Drawn0.refl _ | apply Drawn0.step)⟩

end Go.Proofs.Ytalpegglbfobiaa.G

namespace Go.Proofs.Ytalpegglbfobiaa.G
open Go.RowKit Go.Proofs.YtalpegglbfobiaaW.PrintWords Go.Proofs.YtalpegglbfobiaaW.PrintLast Go.Proofs.YtalpegglbfobiaaW.PrintMore
attribute [local go_sem] max2_int min2_int max_two min_two max_three min_three max_four min_four   -- for this text's walks alone
set_option linter.unusedVariables false
set_option linter.unusedSimpArgs false

attribute [local go_sem high] eqA55
def slices_Equal_api_Span_api_Span.l0 : Nat → List (S55) → List (S55) → Int → Int → Option (Bool)
 | 0, _, _, _, _ => none
 | k + 1, x0, x1, x12, x13 => if x13 < x12 then (if 0 ≤ x13 then (if x13 < (x0.length : Int) then (if x13 < (x1.length : Int) then (if (!(((rd_T55 x0 x13).f0) == ((rd_T55 x1 x13).f0)) || (!(((rd_T55 x0 x13).f1) == ((rd_T55 x1 x13).f1)))) = true then (some false) else (slices_Equal_api_Span_api_Span.l0 k x0 x1 x12 (wrap64 (x13 + 1)))) else (none)) else (none)) else (none)) else (some true)
def slices_Equal_api_Span_api_Span.f (k : Nat) (l0 : List (S55)) (l1 : List (S55)) : Option (Bool) := if (l0.length : Int) = (l1.length : Int) then (slices_Equal_api_Span_api_Span.l0 k l0 l1 (l0.length : Int) 0) else (some false)
set_option maxHeartbeats 8000000 in
set_option maxRecDepth 100000 in
theorem slices_Equal_api_Span_api_Span.calls (k : Nat) (A0 : Option Addr) (c0 : Nat) (l0 : List (S55)) (A1 : Option Addr) (c1 : Nat) (l1 : List (S55)) (r : Bool) (w : World) (hr0 : Kd.C k55 w A0 l0.length l0) (hc0 : l0.length ≤ c0) (hr1 : Kd.C k55 w A1 l1.length l1) (hc1 : l1.length ≤ c1) (h : slices_Equal_api_Span_api_Span.f k l0 l1 = some r) :
  Calls Try.prog 53 #[.slice A0 l0.length c0, .slice A1 l1.length c1] w fun e w' => e = .returned (.bool r) ∧ Drawn0 w w' := by
 have hu55 := Try.underlying55
 have HR0 := Aside0.mk hr0
 have HC0 := Aside0.mk hc0
 clear hr0 hc0
 have HR1 := Aside0.mk hr1
 have HC1 := Aside0.mk hc1
 clear hr1 hc1
 have H : (if (l0.length : Int) = (l1.length : Int) then (slices_Equal_api_Span_api_Span.l0 k l0 l1 (l0.length : Int) 0) else (some false)) = some r := h
 clear h
 by_cases c3 : (l0.length : Int) = (l1.length : Int)
 ·rw [if_pos c3] at H
  have c3b0 : ((l0.length : Int) == (l1.length : Int)) = true := beq_iff_eq.mpr c3
  have c3b1 : ((l0.length : Int) != (l1.length : Int)) = false := bne_eq_false_iff_eq.mpr c3
  have c3b2 : (l0.length == l1.length) = true := by first | simpa using c3 | (simp at c3 ⊢; omega)
  clear c3
  have H' := Aside0.mk H
  clear H
  go_enter Try.func53, Try.ntmps53
  go_wp2
  repeat (go_quiet (fail); try go_wp2)
  go_loopg [13] k (fun kq v13 w' => ∃ (x13_1 : Int), v13 = .int .i64 x13_1 ∧ Aside0 (slices_Equal_api_Span_api_Span.l0 kq l0 l1 (l0.length : Int) x13_1 = some r) ∧ Aside0 (kq ≤ k) ∧ Drawn0 w w')
  case atStart => exact ⟨(0), (by first | rfl | (simp; done) | (simp [*]; done)), H', ⟨Nat.le_refl _⟩, by repeat (first | exact Drawn0.refl _ | apply Drawn0.step)⟩
  case round =>
   clear H'
   try clear c1
   try clear p2
   try clear c3
   try clear c3b0
   try clear c3b1
   try clear c3b2
   obtain ⟨x13_1, rfl, HA, HK1, ⟨m1, rfl⟩⟩ := hrel
   cases gk with
   | zero => exact absurd HA.out (by simp [slices_Equal_api_Span_api_Span.l0])
   | succ k1 =>
    have H := HA.out
    clear HA
    simp only [slices_Equal_api_Span_api_Span.l0] at H
    by_cases c4 : x13_1 < (l0.length : Int)
    ·rw [if_pos c4] at H
     have c4b0 : decide (x13_1 < (l0.length : Int)) = true := decide_eq_true c4
     clear c4
     by_cases c5 : 0 ≤ x13_1
     ·rw [if_pos c5] at H
      have c5b0 : decide (0 ≤ x13_1) = true := decide_eq_true c5
      clear c5
      by_cases c6 : x13_1 < (l0.length : Int)
      ·rw [if_pos c6] at H
       have c6b0 : decide (x13_1 < (l0.length : Int)) = true := decide_eq_true c6
       clear c6
       by_cases c7 : x13_1 < (l1.length : Int)
       ·rw [if_pos c7] at H
        have c7b0 : decide (x13_1 < (l1.length : Int)) = true := decide_eq_true c7
        clear c7
        by_cases c8 : (!(((rd_T55 l0 x13_1).f0) == ((rd_T55 l1 x13_1).f0)) || (!(((rd_T55 l0 x13_1).f1) == ((rd_T55 l1 x13_1).f1)))) = true
        ·rw [if_pos c8] at H
         have c8b0 : (!(((rd_T55 l0 x13_1).f0) == ((rd_T55 l1 x13_1).f0)) || (!(((rd_T55 l0 x13_1).f1) == ((rd_T55 l1 x13_1).f1)))) = true := c8
         clear c8
         obtain rfl := Option.some.inj H
         have p54001 : 0 ≤ (x13_1 : Int) := of_decide_eq_true (by assumption)
         have q54001 : x13_1 < (l0.length : Int) := of_decide_eq_true (by assumption)
         obtain ⟨ad54001, e54001, hx54001_0, hx54001_1⟩ := at_T55 HR0.out x13_1 p54001 q54001
         cases e54001
         replace p54001 := eq_true p54001
         replace q54001 := eq_true q54001
         have p54002 : 0 ≤ (x13_1 : Int) := of_decide_eq_true (by assumption)
         have q54002 : x13_1 < (l1.length : Int) := of_decide_eq_true (by assumption)
         obtain ⟨ad54002, e54002, hx54002_0, hx54002_1⟩ := at_T55 HR1.out x13_1 p54002 q54002
         cases e54002
         replace p54002 := eq_true p54002
         replace q54002 := eq_true q54002
         go_wp2
         repeat (go_quiet (fail); try go_wp2)
         go_ret
         exact ⟨by first | rfl | (simp; done) | (simp [*]; done), by repeat (first | exact Drawn0.refl _ | apply Drawn0.step)⟩
        ·rw [if_neg c8] at H
         have c8b0 : (!(((rd_T55 l0 x13_1).f0) == ((rd_T55 l1 x13_1).f0)) || (!(((rd_T55 l0 x13_1).f1) == ((rd_T55 l1 x13_1).f1)))) = false := by simpa using c8
         clear c8
         have H' := Aside0.mk H
         clear H
         have p54001 : 0 ≤ (x13_1 : Int) := of_decide_eq_true (by assumption)
         have q54001 : x13_1 < (l0.length : Int) := of_decide_eq_true (by assumption)
         obtain ⟨ad54001, e54001, hx54001_0, hx54001_1⟩ := at_T55 HR0.out x13_1 p54001 q54001
         cases e54001
         replace p54001 := eq_true p54001
         replace q54001 := eq_true q54001
         have p54002 : 0 ≤ (x13_1 : Int) := of_decide_eq_true (by assumption)
         have q54002 : x13_1 < (l1.length : Int) := of_decide_eq_true (by assumption)
         obtain ⟨ad54002, e54002, hx54002_0, hx54002_1⟩ := at_T55 HR1.out x13_1 p54002 q54002
         cases e54002
         replace p54002 := eq_true p54002
         replace q54002 := eq_true q54002
         go_wp2
         repeat (go_quiet (fail); try go_wp2)
         go_roundg k1
         case measure => have := HK1.out; omega
         case rel => exact ⟨(wrap64 (x13_1 + 1)), (by first | rfl | (simp; done) | (simp [*]; done)), H', ⟨by have := HK1.out; omega⟩, by repeat (first | exact Drawn0.refl _ | apply Drawn0.step)⟩
       ·rw [if_neg c7] at H
        exact absurd H (by simp)
      ·rw [if_neg c6] at H
       exact absurd H (by simp)
     ·rw [if_neg c5] at H
      exact absurd H (by simp)
    ·rw [if_neg c4] at H
     have c4b0 : decide (x13_1 < (l0.length : Int)) = false := decide_eq_false c4
     clear c4
     obtain rfl := Option.some.inj H
     go_wp2
     repeat (go_quiet (fail); try go_wp2)
     go_ret
     exact ⟨by first | rfl | (simp; done) | (simp [*]; done), by repeat (first | exact Drawn0.refl _ | apply Drawn0.step)⟩
 ·rw [if_neg c3] at H
  have c3b0 : ((l0.length : Int) == (l1.length : Int)) = false := beq_eq_false_iff_ne.mpr c3
  have c3b1 : ((l0.length : Int) != (l1.length : Int)) = true := bne_iff_ne.mpr c3
  have c3b2 : (l0.length == l1.length) = false := by first | simpa using c3 | (simp at c3 ⊢; omega)
  obtain rfl := Option.some.inj H
  go_enter Try.func53, Try.ntmps53
  go_wp2
  repeat (go_quiet (fail); try go_wp2)
  go_ret
  exact ⟨by first | rfl | (simp; done) | (simp [*]; done), by repeat (first | exact Drawn0.refl _ | apply Drawn0.step)⟩

end Go.Proofs.Ytalpegglbfobiaa.G

namespace Go.Proofs.Ytalpegglbfobiaa.G
open Go.RowKit Go.Proofs.YtalpegglbfobiaaW.PrintWords Go.Proofs.YtalpegglbfobiaaW.PrintLast Go.Proofs.YtalpegglbfobiaaW.PrintMore
attribute [local go_sem] max2_int min2_int max_two min_two max_three min_three max_four min_four   -- for this text's walks alone
set_option linter.unusedVariables false
set_option linter.unusedSimpArgs false

def rewind_long.f (a0 : Int) : Option (Bool) := if a0 ≥ 1 then (some (decide (a0 ≤ 17179869184))) else (some false)
set_option maxHeartbeats 8000000 in
set_option maxRecDepth 100000 in
theorem rewind_long.calls (a0 : Int) (r : Bool) (w : World) (h : rewind_long.f a0 = some r) :
  Calls Try.prog 30 #[.int .i64 a0] w fun e w' => e = .returned (.bool r) ∧ Drawn0 w w' := by
 have H : (if a0 ≥ 1 then (some (decide (a0 ≤ 17179869184))) else (some false)) = some r := h
 clear h
 by_cases c2 : a0 ≥ 1
 ·rw [if_pos c2] at H
  have c2b0 : decide (1 ≤ a0) = true := decide_eq_true c2
  clear c2
  obtain rfl := Option.some.inj H
  go_enter Try.func30, Try.ntmps30
  go_wp2
  go_ret
  exact ⟨by first | rfl | (simp; done) | (simp [*]; done), by repeat (first | exact Drawn0.refl _ | apply Drawn0.step)⟩
 ·rw [if_neg c2] at H
  have c2b0 : decide (1 ≤ a0) = false := decide_eq_false c2
  clear c2
  obtain rfl := Option.some.inj H
  go_enter Try.func30, Try.ntmps30
  go_wp2
  go_ret
  exact ⟨by first | rfl | (simp; done) | (simp [*]; done), by repeat (first | exact Drawn0.refl _ | apply Drawn0.step)⟩

end Go.Proofs.Ytalpegglbfobiaa.G

namespace Go.Proofs.Ytalpegglbfobiaa.G
open Go.RowKit Go.Proofs.YtalpegglbfobiaaW.PrintWords Go.Proofs.YtalpegglbfobiaaW.PrintLast Go.Proofs.YtalpegglbfobiaaW.PrintMore
attribute [local go_sem] max2_int min2_int max_two min_two max_three min_three max_four min_four   -- for this text's walks alone
set_option linter.unusedVariables false
set_option linter.unusedSimpArgs false

def rewind_back.f (a0 : Int) (a1 : Int) : Option ((List (S44))) := some (([(⟨a0, a1, decide (a1 > 1)⟩ : S44)] : List (S44)))
set_option maxHeartbeats 8000000 in
set_option maxRecDepth 100000 in
theorem rewind_back.calls (a0 : Int) (a1 : Int) (r : List (S44)) (w : World) (h : rewind_back.f a0 a1 = some r) :
  Calls Try.prog 31 #[.int .i64 a0, .int .i64 a1] w fun e w' => ∃ v0_ : Value, e = .returned (v0_) ∧ Kd.R k44 44 w' w.heap.size (fun _ => True) v0_ r ∧ Below w.heap.size w w' := by
 have hu44 := Try.underlying44
 have HB := Aside0.mk (Below.refl w.heap.size w)
 have H : (some (([(⟨a0, a1, decide (a1 > 1)⟩ : S44)] : List (S44)))) = some r := h
 clear h
 obtain ⟨y32001, hy32001⟩ : ∃ y_ : List (S44), y_ = (([(⟨a0, a1, decide (a1 > 1)⟩ : S44)] : List (S44))) := ⟨_, rfl⟩
 replace H : (some y32001) = some r := by first | (rw [hy32001]; with_reducible exact H) | (have H2_ := (Option.bind_some _ _).symm.trans H; rw [hy32001]; with_reducible exact H2_) | (have H2_ := (Option.bind_some _ _).symm.trans H; with_reducible exact H2_) | with_reducible exact H | (rw [hy32001]; exact H) | exact H
 have Ny32001 := Aside0.mk hy32001
 clear hy32001
 obtain rfl := Option.some.inj H
 go_enter Try.func31, Try.ntmps31
 go_wp2_with (first | ((with_reducible refine gate_dst (N := 10) rfl ?_); refine Kd.R_lit k44 _ 44 ?hg (N := 10) ?hd (xs := ([(⟨a0, a1, decide (a1 > 1)⟩ : S44)] : List (S44))) (inner := [.int .i64 a0, .int .i64 a1, .bool (decide (a1 > 1))]) (ok := fun _ => True) (okp := fun _ => True) ?hr ?hp (fun _ hk => hk) trivial (Below.refl _ _) (Nat.le_refl _) (by simp) ?_; (case hd => rfl); (case hg => rfl); (case hr => first | (go_simp; done) | (go_simp; rfl)); (case hp => exact (Reps.c3 (show Kd.M k44 _ _ _ (⟨a0, a1, decide (a1 > 1)⟩ : S44) [.int .i64 a0, .int .i64 a1, .bool (decide (a1 > 1))] from (k44_mkM _ _ _ (⟨a0, a1, decide (a1 > 1)⟩ : S44) )) (Reps.none _ _))); intro v32002 w3 ho4 hb hg_ hnew_; clear hg_ hnew_; (first | rw [← Ny32001.out] at ho4 | (simp only [Int.reduceToNat] at ho4; rw [← Ny32001.out] at ho4)); have HO32003 := Aside0.mk (Kd.R_lower ho4 (below_size (by repeat (first | exact HB.out | apply below_alloc | apply pw_below_drewN | apply below_drew1)))); replace HB := Aside0.mk (below_step (by repeat (first | exact HB.out | apply below_alloc | apply pw_below_drewN | apply below_drew1)) hb); clear hb ho4))
 go_ret
 exact ⟨_, by first | rfl | (simp [errW_none, errW_some] <;> rfl) | (simp [*, errW_none, errW_some] <;> rfl), by exact HO32003.out, by repeat (first | exact HB.out | apply below_alloc | apply pw_below_drewN | apply below_drew1)⟩

end Go.Proofs.Ytalpegglbfobiaa.G

namespace Go.Proofs.Ytalpegglbfobiaa.G
open Go.RowKit Go.Proofs.YtalpegglbfobiaaW.PrintWords Go.Proofs.YtalpegglbfobiaaW.PrintLast Go.Proofs.YtalpegglbfobiaaW.PrintMore
attribute [local go_sem] max2_int min2_int max_two min_two max_three min_three max_four min_four   -- for this text's walks alone
set_option linter.unusedVariables false
set_option linter.unusedSimpArgs false

def rewind_Whole.f (a0 : Int) : Option ((List (S44)) × Int) := (rewind_long.f a0).bind fun t12001 => (if t12001 = true then ((rewind_back.f (wrap64 (a0 - 1)) a0).bind fun t12002 => (some (t12002, 0))) else (some (([] : List (S44)), 1)))
set_option maxHeartbeats 8000000 in
set_option maxRecDepth 100000 in
theorem rewind_Whole.calls (a0 : Int) (r1 : List (S44)) (r2 : Int) (w : World) (h : rewind_Whole.f a0 = some (r1, r2)) :
  Calls Try.prog 11 #[.int .i64 a0] w fun e w' => ∃ v0_ : Value, e = .returned (.tuple #[v0_, .int .i64 r2]) ∧ Kd.R k44 44 w' w.heap.size (fun _ => True) v0_ r1 ∧ Below w.heap.size w w' := by
 have HB := Aside0.mk (Below.refl w.heap.size w)
 have H : ((rewind_long.f a0).bind fun t12001 => (if t12001 = true then ((rewind_back.f (wrap64 (a0 - 1)) a0).bind fun t12002 => (some (t12002, 0))) else (some (([] : List (S44)), 1)))) = some (r1, r2) := h
 clear h
 replace H := Option.bind_eq_some_iff.mp H
 obtain ⟨t12001, A20, H⟩ := H
 have A2 := Aside0.mk A20
 clear A20
 by_cases c3 : t12001 = true
 ·subst c3
  rw [if_pos rfl] at H
  replace H := Option.bind_eq_some_iff.mp H
  obtain ⟨t12002, A40, H⟩ := H
  have A4 := Aside0.mk A40
  clear A40
  simp only [Option.some.injEq, Prod.mk.injEq] at H
  obtain ⟨rfl, rfl⟩ := H
  go_enter Try.func11, Try.ntmps11
  go_wp2_with (first | ((with_reducible refine gate_callee (f := 30) rfl ?_); refine goesL_ (some 5) rfl rfl Try.func30 (by kernel_rfl) rfl #[.int .i64 a0] rfl (by (try simp only [List.map_toArray, List.map_cons, List.map_nil]); first | done | rfl | (simp only [List.length_drop, List.length_take]; rfl)) ?_; (with_reducible refine (rewind_long.calls a0 true _ A2.out).mono ?_); rintro e w' ⟨rfl, ⟨nd, rfl⟩⟩; refine ⟨_, rfl, ?_⟩) | ((with_reducible refine gate_callee (f := 31) rfl ?_); refine goesL_ (some 10) rfl rfl Try.func31 (by kernel_rfl) rfl #[.int .i64 (wrap64 (a0 - 1)), .int .i64 a0] rfl (by (try simp only [List.map_toArray, List.map_cons, List.map_nil]); first | done | rfl | (simp only [List.length_drop, List.length_take]; rfl)) ?_; (with_reducible refine (rewind_back.calls (wrap64 (a0 - 1)) a0 t12002 _ A4.out).mono ?_); rintro e w5 ⟨v12003, rfl, ho0, hb⟩; refine ⟨_, rfl, ?_⟩; have HO12004 := Aside0.mk (Kd.R_lower ho0 (below_size (by repeat (first | exact HB.out | apply below_alloc | apply pw_below_drewN | apply below_drew1)))); replace HB := Aside0.mk (below_step (by repeat (first | exact HB.out | apply below_alloc | apply pw_below_drewN | apply below_drew1)) hb); (try clear hb); (try clear hb2); (try clear hk); (try clear hi); (try clear ho0)))
  go_ret2
  exact ⟨_, by first | rfl | (simp [errW_none, errW_some] <;> rfl) | (simp [*, errW_none, errW_some] <;> rfl), by exact HO12004.out, by repeat (first | exact HB.out | apply below_alloc | apply pw_below_drewN | apply below_drew1)⟩
 ·replace c3 := Bool.eq_false_iff.mpr c3
  subst c3
  have H1 : (some (([] : List (S44)), 1)) = some (r1, r2) := by rw [if_neg (show ¬ (false = true) by decide)] at H; first | exact H | simpa using H
  clear H
  have H := H1
  clear H1
  simp only [Option.some.injEq, Prod.mk.injEq] at H
  obtain ⟨rfl, rfl⟩ := H
  go_enter Try.func11, Try.ntmps11
  go_wp2_with (first | ((with_reducible refine gate_callee (f := 30) rfl ?_); refine goesL_ (some 5) rfl rfl Try.func30 (by kernel_rfl) rfl #[.int .i64 a0] rfl (by (try simp only [List.map_toArray, List.map_cons, List.map_nil]); first | done | rfl | (simp only [List.length_drop, List.length_take]; rfl)) ?_; (with_reducible refine (rewind_long.calls a0 false _ A2.out).mono ?_); rintro e w' ⟨rfl, ⟨nd, rfl⟩⟩; refine ⟨_, rfl, ?_⟩))
  go_ret2
  exact ⟨_, by first | rfl | (simp [errW_none, errW_some] <;> rfl) | (simp [*, errW_none, errW_some] <;> rfl), by first | exact Kd.R_nil _ _ _ _ _ | exact Kd.N_nil _ _ _ _ _ | exact Kd.V_nil _ _ _ _ _ | exact Kd.Q_nil _ _ _ _ _ | exact Kd.S_nil _ _ _ _ _, by repeat (first | exact HB.out | apply below_alloc | apply pw_below_drewN | apply below_drew1)⟩

end Go.Proofs.Ytalpegglbfobiaa.G

namespace Go.Proofs.Ytalpegglbfobiaa.G
open Go.RowKit Go.Proofs.YtalpegglbfobiaaW.PrintWords Go.Proofs.YtalpegglbfobiaaW.PrintLast Go.Proofs.YtalpegglbfobiaaW.PrintMore
attribute [local go_sem] max2_int min2_int max_two min_two max_three min_three max_four min_four   -- for this text's walks alone
set_option linter.unusedVariables false
set_option linter.unusedSimpArgs false

mutual
def rewind_Split.l0 : Nat → Int → List Int → List Int → Int → Int → Option ((List (List (S44))) × Int)
 | 0, _, _, _, _, _ => none
 | k + 1, x0, x1, x21, x22, x23 => if x23 < x22 then (if 0 ≤ x23 then (if x23 < (x21.length : Int) then ((rewind_long.f (rd x21 x23)).bind fun t18003 => (if t18003 = true then (rewind_Split.l0 k x0 x1 x21 x22 (wrap64 (x23 + 1))) else (some (([] : List (List (S44))), 1)))) else (none)) else (none)) else (rewind_Split.l1 k ([] : List (List (S44))) x0 x1 (x1.length : Int) 0)
def rewind_Split.l1 : Nat → List (List (S44)) → Int → List Int → Int → Int → Option ((List (List (S44))) × Int)
 | 0, _, _, _, _, _ => none
 | k + 1, x8, x9, x32, x33, x34 => if x34 < x33 then (if 0 ≤ x34 then (if x34 < (x32.length : Int) then (if (rd x32 x34) > x9 then (some (([] : List (List (S44))), 21)) else ((rewind_back.f (wrap64 (x9 - 1)) (rd x32 x34)).bind fun t18005 => (if x8.length < 5864062014805 then (rewind_Split.l1 k (x8 ++ [t18005]) (wrap64 (x9 - (rd x32 x34))) x32 x33 (wrap64 (x34 + 1))) else (none)))) else (none)) else (none)) else (some (x8, 0))
end
def rewind_Split.f (k : Nat) (a0 : Int) (l1 : List Int) : Option ((List (List (S44))) × Int) := (rewind_long.f a0).bind fun t18001 => (if t18001 = true then (if (l1.length : Int) = 0 then (some (([] : List (List (S44))), 10)) else (if (l1.length : Int) > 512 then (some (([] : List (List (S44))), 8)) else (rewind_Split.l0 k a0 l1 l1 (l1.length : Int) 0))) else (some (([] : List (List (S44))), 1)))
set_option maxHeartbeats 8000000 in
set_option maxRecDepth 100000 in
theorem rewind_Split.calls (k : Nat) (a0 : Int) (A1 : Option Addr) (c1 : Nat) (l1 : List Int) (r1 : List (List (S44))) (r2 : Int) (w : World) (hr1 : Kd.C (Kd.int .i64) w A1 l1.length l1) (hc1 : l1.length ≤ c1) (h : rewind_Split.f k a0 l1 = some (r1, r2)) :
  Calls Try.prog 17 #[.int .i64 a0, .slice A1 l1.length c1] w fun e w' => ∃ v0_ : Value, e = .returned (.tuple #[v0_, .int .i64 r2]) ∧ Kd.S (Kd.slice 44 k44) 22 w' w.heap.size (fun _ => True) v0_ r1 ∧ Below w.heap.size w w' := by
 have HR1 := Aside0.mk hr1
 have HC1 := Aside0.mk hc1
 clear hr1 hc1
 have HB := Aside0.mk (Below.refl w.heap.size w)
 have H : ((rewind_long.f a0).bind fun t18001 => (if t18001 = true then (if (l1.length : Int) = 0 then (some (([] : List (List (S44))), 10)) else (if (l1.length : Int) > 512 then (some (([] : List (List (S44))), 8)) else (rewind_Split.l0 k a0 l1 l1 (l1.length : Int) 0))) else (some (([] : List (List (S44))), 1)))) = some (r1, r2) := h
 clear h
 replace H := Option.bind_eq_some_iff.mp H
 obtain ⟨t18001, A30, H⟩ := H
 have A3 := Aside0.mk A30
 clear A30
 by_cases c4 : t18001 = true
 ·subst c4
  rw [if_pos rfl] at H
  by_cases c5 : (l1.length : Int) = 0
  ·rw [if_pos c5] at H
   have c5b0 : ((l1.length : Int) == 0) = true := beq_iff_eq.mpr c5
   have c5b1 : ((l1.length : Int) != 0) = false := bne_eq_false_iff_eq.mpr c5
   clear c5
   simp only [Option.some.injEq, Prod.mk.injEq] at H
   obtain ⟨rfl, rfl⟩ := H
   go_enter Try.func17, Try.ntmps17
   go_wp2_with (first | ((with_reducible refine gate_callee (f := 30) rfl ?_); refine goesL_ (some 13) rfl rfl Try.func30 (by kernel_rfl) rfl #[.int .i64 a0] rfl (by (try simp only [List.map_toArray, List.map_cons, List.map_nil]); first | done | rfl | (simp only [List.length_drop, List.length_take]; rfl)) ?_; (with_reducible refine (rewind_long.calls a0 true _ A3.out).mono ?_); rintro e w' ⟨rfl, ⟨nd, rfl⟩⟩; refine ⟨_, rfl, ?_⟩))
   go_ret2
   exact ⟨_, by first | rfl | (simp [errW_none, errW_some] <;> rfl) | (simp [*, errW_none, errW_some] <;> rfl), by first | exact Kd.S_nil _ _ _ _ _ | exact Kd.N_nil _ _ _ _ _ | exact Kd.V_nil _ _ _ _ _ | exact Kd.Q_nil _ _ _ _ _ | exact Kd.R_nil _ _ _ _ _, by repeat (first | exact HB.out | apply below_alloc | apply pw_below_drewN | apply below_drew1)⟩
  ·rw [if_neg c5] at H
   have c5b0 : ((l1.length : Int) == 0) = false := beq_eq_false_iff_ne.mpr c5
   have c5b1 : ((l1.length : Int) != 0) = true := bne_iff_ne.mpr c5
   have c5b2 : ¬ (l1 = []) := fun h_ => c5 (by rw [h_]; rfl)
   by_cases c6 : (l1.length : Int) > 512
   ·rw [if_pos c6] at H
    have c6b0 : decide (512 < (l1.length : Int)) = true := decide_eq_true c6
    have c6b1 : decide (512 < l1.length) = true := decide_eq_true (by omega)
    clear c6
    simp only [Option.some.injEq, Prod.mk.injEq] at H
    obtain ⟨rfl, rfl⟩ := H
    go_enter Try.func17, Try.ntmps17
    go_wp2_with (first | ((with_reducible refine gate_callee (f := 30) rfl ?_); refine goesL_ (some 13) rfl rfl Try.func30 (by kernel_rfl) rfl #[.int .i64 a0] rfl (by (try simp only [List.map_toArray, List.map_cons, List.map_nil]); first | done | rfl | (simp only [List.length_drop, List.length_take]; rfl)) ?_; (with_reducible refine (rewind_long.calls a0 true _ A3.out).mono ?_); rintro e w' ⟨rfl, ⟨nd, rfl⟩⟩; refine ⟨_, rfl, ?_⟩))
    go_ret2
    exact ⟨_, by first | rfl | (simp [errW_none, errW_some] <;> rfl) | (simp [*, errW_none, errW_some] <;> rfl), by first | exact Kd.S_nil _ _ _ _ _ | exact Kd.N_nil _ _ _ _ _ | exact Kd.V_nil _ _ _ _ _ | exact Kd.Q_nil _ _ _ _ _ | exact Kd.R_nil _ _ _ _ _, by repeat (first | exact HB.out | apply below_alloc | apply pw_below_drewN | apply below_drew1)⟩
   ·rw [if_neg c6] at H
    have c6b0 : decide (512 < (l1.length : Int)) = false := decide_eq_false c6
    have c6b1 : decide (512 < l1.length) = false := decide_eq_false (by omega)
    clear c6
    have H' := Aside0.mk H
    clear H
    go_enter Try.func17, Try.ntmps17
    go_wp2_with (first | ((with_reducible refine gate_callee (f := 30) rfl ?_); refine goesL_ (some 13) rfl rfl Try.func30 (by kernel_rfl) rfl #[.int .i64 a0] rfl (by (try simp only [List.map_toArray, List.map_cons, List.map_nil]); first | done | rfl | (simp only [List.length_drop, List.length_take]; rfl)) ?_; (with_reducible refine (rewind_long.calls a0 true _ A3.out).mono ?_); rintro e w' ⟨rfl, ⟨nd, rfl⟩⟩; refine ⟨_, rfl, ?_⟩))
    go_loopg [23] k (fun kq v23 w' => ∃ (x23_1 : Int), v23 = .int .i64 x23_1 ∧ Aside0 (rewind_Split.l0 kq a0 l1 l1 (l1.length : Int) x23_1 = some (r1, r2)) ∧ Aside0 (kq ≤ k) ∧ Aside0 (Below w.heap.size w w'))
    case atStart => exact ⟨(0), (by first | rfl | (simp; done) | (simp [*]; done)), H', ⟨Nat.le_refl _⟩, ⟨by repeat (first | exact HB.out | apply below_alloc | apply pw_below_drewN | apply below_drew1)⟩⟩
    case round =>
     clear H'
     try clear c1
     try clear p2
     try clear c3
     try clear c4
     try clear c5
     try clear c5b0
     try clear c5b1
     try clear c5b2
     try clear c6
     try clear c6b0
     try clear c6b1
     obtain ⟨x23_1, rfl, HA, HK1, HB⟩ := hrel
     cases gk with
     | zero => exact absurd HA.out (by simp [rewind_Split.l0])
     | succ k1 =>
      have H := HA.out
      clear HA
      simp only [rewind_Split.l0] at H
      by_cases c7 : x23_1 < (l1.length : Int)
      ·rw [if_pos c7] at H
       have c7b0 : decide (x23_1 < (l1.length : Int)) = true := decide_eq_true c7
       clear c7
       by_cases c8 : 0 ≤ x23_1
       ·rw [if_pos c8] at H
        have c8b0 : decide (0 ≤ x23_1) = true := decide_eq_true c8
        clear c8
        by_cases c9 : x23_1 < (l1.length : Int)
        ·rw [if_pos c9] at H
         have c9b0 : decide (x23_1 < (l1.length : Int)) = true := decide_eq_true c9
         clear c9
         replace H := Option.bind_eq_some_iff.mp H
         obtain ⟨t18003, A100, H⟩ := H
         have A10 := Aside0.mk A100
         clear A100
         by_cases c11 : t18003 = true
         ·subst c11
          rw [if_pos rfl] at H
          have H' := Aside0.mk H
          clear H
          have p18002 : 0 ≤ (x23_1 : Int) := of_decide_eq_true (by assumption)
          have q18002 : x23_1 < (l1.length : Int) := of_decide_eq_true (by assumption)
          obtain ⟨ad18002, e18002, hx18002_0⟩ := Kd.at_int HR1.out x23_1 p18002 q18002
          cases e18002
          replace hx18002_0 := (HB.out.cell (World.block_lt_of_cell? w _ hx18002_0)).trans hx18002_0
          replace p18002 := eq_true p18002
          replace q18002 := eq_true q18002
          go_wp2_with (first | ((with_reducible refine gate_callee (f := 30) rfl ?_); refine goesL_ (some 28) rfl rfl Try.func30 (by kernel_rfl) rfl #[.int .i64 (rd l1 x23_1)] rfl (by (try simp only [List.map_toArray, List.map_cons, List.map_nil]); first | done | rfl | (simp only [List.length_drop, List.length_take]; rfl)) ?_; (with_reducible refine (rewind_long.calls (rd l1 x23_1) true _ A10.out).mono ?_); rintro e w' ⟨rfl, ⟨nd, rfl⟩⟩; refine ⟨_, rfl, ?_⟩))
          go_roundg k1
          case measure => have := HK1.out; omega
          case rel => exact ⟨(wrap64 (x23_1 + 1)), (by first | rfl | (simp; done) | (simp [*]; done)), H', ⟨by have := HK1.out; omega⟩, ⟨by repeat (first | exact HB.out | apply below_alloc | apply pw_below_drewN | apply below_drew1)⟩⟩
         ·replace c11 := Bool.eq_false_iff.mpr c11
          subst c11
          have H1 : (some (([] : List (List (S44))), 1)) = some (r1, r2) := by rw [if_neg (show ¬ (false = true) by decide)] at H; first | exact H | simpa using H
          clear H
          have H := H1
          clear H1
          simp only [Option.some.injEq, Prod.mk.injEq] at H
          obtain ⟨rfl, rfl⟩ := H
          have p18002 : 0 ≤ (x23_1 : Int) := of_decide_eq_true (by assumption)
          have q18002 : x23_1 < (l1.length : Int) := of_decide_eq_true (by assumption)
          obtain ⟨ad18002, e18002, hx18002_0⟩ := Kd.at_int HR1.out x23_1 p18002 q18002
          cases e18002
          replace hx18002_0 := (HB.out.cell (World.block_lt_of_cell? w _ hx18002_0)).trans hx18002_0
          replace p18002 := eq_true p18002
          replace q18002 := eq_true q18002
          go_wp2_with (first | ((with_reducible refine gate_callee (f := 30) rfl ?_); refine goesL_ (some 28) rfl rfl Try.func30 (by kernel_rfl) rfl #[.int .i64 (rd l1 x23_1)] rfl (by (try simp only [List.map_toArray, List.map_cons, List.map_nil]); first | done | rfl | (simp only [List.length_drop, List.length_take]; rfl)) ?_; (with_reducible refine (rewind_long.calls (rd l1 x23_1) false _ A10.out).mono ?_); rintro e w' ⟨rfl, ⟨nd, rfl⟩⟩; refine ⟨_, rfl, ?_⟩))
          go_ret2
          exact ⟨_, by first | rfl | (simp [errW_none, errW_some] <;> rfl) | (simp [*, errW_none, errW_some] <;> rfl), by first | exact Kd.S_nil _ _ _ _ _ | exact Kd.N_nil _ _ _ _ _ | exact Kd.V_nil _ _ _ _ _ | exact Kd.Q_nil _ _ _ _ _ | exact Kd.R_nil _ _ _ _ _, by repeat (first | exact HB.out | apply below_alloc | apply pw_below_drewN | apply below_drew1)⟩
        ·rw [if_neg c9] at H
         exact absurd H (by simp)
       ·rw [if_neg c8] at H
        exact absurd H (by simp)
      ·rw [if_neg c7] at H
       have c7b0 : decide (x23_1 < (l1.length : Int)) = false := decide_eq_false c7
       clear c7
       have H' := Aside0.mk H
       clear H
       go_wp2
       go_loopg [8, 9, 34] k1 (fun kq v8 v9 v34 w' => ∃ (x8_2 : List (List (S44))) (x9_2 : Int) (x34_2 : Int), v9 = .int .i64 x9_2 ∧ v34 = .int .i64 x34_2 ∧ Aside0 (rewind_Split.l1 kq x8_2 x9_2 l1 (l1.length : Int) x34_2 = some (r1, r2)) ∧ Aside0 (kq ≤ k1) ∧ Aside0 (Kd.S (Kd.slice 44 k44) 22 w' w.heap.size (fun _ => True) v8 x8_2) ∧ Aside0 (Below w.heap.size w w'))
       case atStart => exact ⟨(([] : List (List (S44)))), (a0), (0), (by first | rfl | (simp; done) | (simp [*]; done)), (by first | rfl | (simp; done) | (simp [*]; done)), H', ⟨Nat.le_refl _⟩, ⟨by first | exact Kd.S_nil _ _ _ _ _ | exact Kd.N_nil _ _ _ _ _ | exact Kd.V_nil _ _ _ _ _ | exact Kd.Q_nil _ _ _ _ _ | exact Kd.R_nil _ _ _ _ _⟩, ⟨by repeat (first | exact HB.out | apply below_alloc | apply pw_below_drewN | apply below_drew1)⟩⟩
       case round =>
        clear H'
        try clear c1
        try clear p1
        try clear q1
        try clear hx1
        try clear p2
        try clear c3
        try clear c4
        try clear c5
        try clear c5b0
        try clear c5b1
        try clear c5b2
        try clear c6
        try clear c6b0
        try clear c6b1
        try clear p6
        try clear c7
        try clear c7b0
        try clear c8
        try clear c8b0
        try clear c9
        try clear c9b0
        try clear c11
        try clear hx18002_0
        try clear p18002
        try clear p2
        try clear q18002
        obtain ⟨x8_2, x9_2, x34_2, rfl, rfl, HA, HK2, HO_8, HB⟩ := hrel
        cases gk with
        | zero => exact absurd HA.out (by simp [rewind_Split.l1])
        | succ k2 =>
         have H := HA.out
         clear HA
         simp only [rewind_Split.l1] at H
         by_cases c12 : x34_2 < (l1.length : Int)
         ·rw [if_pos c12] at H
          have c12b0 : decide (x34_2 < (l1.length : Int)) = true := decide_eq_true c12
          clear c12
          by_cases c13 : 0 ≤ x34_2
          ·rw [if_pos c13] at H
           have c13b0 : decide (0 ≤ x34_2) = true := decide_eq_true c13
           clear c13
           by_cases c14 : x34_2 < (l1.length : Int)
           ·rw [if_pos c14] at H
            have c14b0 : decide (x34_2 < (l1.length : Int)) = true := decide_eq_true c14
            clear c14
            by_cases c15 : (rd l1 x34_2) > x9_2
            ·rw [if_pos c15] at H
             have c15b0 : decide (x9_2 < (rd l1 x34_2)) = true := decide_eq_true c15
             clear c15
             simp only [Option.some.injEq, Prod.mk.injEq] at H
             obtain ⟨rfl, rfl⟩ := H
             have p18004 : 0 ≤ (x34_2 : Int) := of_decide_eq_true (by assumption)
             have q18004 : x34_2 < (l1.length : Int) := of_decide_eq_true (by assumption)
             obtain ⟨ad18004, e18004, hx18004_0⟩ := Kd.at_int HR1.out x34_2 p18004 q18004
             cases e18004
             replace hx18004_0 := (HB.out.cell (World.block_lt_of_cell? w _ hx18004_0)).trans hx18004_0
             replace p18004 := eq_true p18004
             replace q18004 := eq_true q18004
             go_wp2
             go_ret2
             exact ⟨_, by first | rfl | (simp [errW_none, errW_some] <;> rfl) | (simp [*, errW_none, errW_some] <;> rfl), by first | exact Kd.S_nil _ _ _ _ _ | exact Kd.N_nil _ _ _ _ _ | exact Kd.V_nil _ _ _ _ _ | exact Kd.Q_nil _ _ _ _ _ | exact Kd.R_nil _ _ _ _ _, by repeat (first | exact HB.out | apply below_alloc | apply pw_below_drewN | apply below_drew1)⟩
            ·rw [if_neg c15] at H
             have c15b0 : decide (x9_2 < (rd l1 x34_2)) = false := decide_eq_false c15
             clear c15
             replace H := Option.bind_eq_some_iff.mp H
             obtain ⟨t18005, A160, H⟩ := H
             have A16 := Aside0.mk A160
             clear A160
             by_cases c17 : x8_2.length < 5864062014805
             ·rw [if_pos c17] at H
              have LMc17 := Aside0.mk c17
              clear c17
              obtain ⟨y18008, hy18008⟩ : ∃ y_ : List (List (S44)), y_ = (x8_2 ++ [t18005]) := ⟨_, rfl⟩
              replace H : (rewind_Split.l1 k2 y18008 (wrap64 (x9_2 - (rd l1 x34_2))) l1 (l1.length : Int) (wrap64 (x34_2 + 1))) = some (r1, r2) := by first | (rw [hy18008]; with_reducible exact H) | (have H2_ := (Option.bind_some _ _).symm.trans H; rw [hy18008]; with_reducible exact H2_) | (have H2_ := (Option.bind_some _ _).symm.trans H; with_reducible exact H2_) | with_reducible exact H | (rw [hy18008]; exact H) | exact H
              have Ny18008 := Aside0.mk hy18008
              clear hy18008
              have H' := Aside0.mk H
              clear H
              have p18004 : 0 ≤ (x34_2 : Int) := of_decide_eq_true (by assumption)
              have q18004 : x34_2 < (l1.length : Int) := of_decide_eq_true (by assumption)
              obtain ⟨ad18004, e18004, hx18004_0⟩ := Kd.at_int HR1.out x34_2 p18004 q18004
              cases e18004
              replace hx18004_0 := (HB.out.cell (World.block_lt_of_cell? w _ hx18004_0)).trans hx18004_0
              replace p18004 := eq_true p18004
              replace q18004 := eq_true q18004
              go_wp2_with (first | ((with_reducible refine gate_callee (f := 31) rfl ?_); refine goesL_ (some 45) rfl rfl Try.func31 (by kernel_rfl) rfl #[.int .i64 (wrap64 (x9_2 - 1)), .int .i64 (rd l1 x34_2)] rfl (by (try simp only [List.map_toArray, List.map_cons, List.map_nil]); first | done | rfl | (simp only [List.length_drop, List.length_take]; rfl)) ?_; (with_reducible refine (rewind_back.calls (wrap64 (x9_2 - 1)) (rd l1 x34_2) t18005 _ A16.out).mono ?_); rintro e w18 ⟨v18006, rfl, ho0, hb⟩; refine ⟨_, rfl, ?_⟩; replace HO_8 := Aside0.mk (Kd.S_elder' (by (with_reducible repeat (first | apply Kd.S_alloc | apply Kd.S_drewN | apply Kd.S_drew)); exact HO_8.out) (Kd.R_base ho0) hb); have HO18007 := Aside0.mk (Kd.R_lower ho0 (below_size (by repeat (first | exact HB.out | apply below_alloc | apply pw_below_drewN | apply below_drew1)))); replace HB := Aside0.mk (below_step (by repeat (first | exact HB.out | apply below_alloc | apply pw_below_drewN | apply below_drew1)) hb); (try clear hb); (try clear hb2); (try clear hk); (try clear hi); (try clear ho0); obtain ⟨Ao20, co20, eo20⟩ := Kd.R_slice HO18007.out; subst eo20) | ((with_reducible refine gate_builtin (b := .append) (xs := #[.tmp 41, .tmp 46]) rfl ?_); at_builtin; refine Kd.S_append (Kd.slice 44 k44) (w0 := w) w.heap.size rfl (.tmp 41) (.tmp 46) 33 22 (.slice none 0 0) 24 rfl Try.underlying33 info22 rfl (by decide) (by omega) u8 x8_2 t18005 [.slice Ao20 t18005.length co20] (fun _ => True) (fun k_ => some k_ = (.slice Ao20 t18005.length co20 : Value).ownBlock) rfl rfl ?aP (fun k_ hk_ => ((Kd.R_mono (ok' := fun k_ => ((fun _ => True)) k_ ∧ some k_ ≠ (u8 : Value).ownBlock) (Kd.R_apart' (HO18007.out) (Kd.S_typed HO_8.out) (by decide)) (fun k_ hk => ⟨trivial, hk.2⟩))).1 k_ hk_.symm) ?aF ?aO ?aB ?aS ?aL ?_; (case aP => exact Kd.M_row (Kd.R_mono (Kd.R_tight rfl (Kd.R_mono (ok' := fun k_ => ((fun _ => True)) k_ ∧ some k_ ≠ (u8 : Value).ownBlock) (Kd.R_apart' (HO18007.out) (Kd.S_typed HO_8.out) (by decide)) (fun k_ hk => ⟨trivial, hk.2⟩))) (fun _ h_ => h_))); (case aB => exact (by repeat (first | exact HB.out | apply below_alloc | apply pw_below_drewN | apply below_drew1))); (case aF => exact (fun _ _ => trivial)); (case aO => exact (by (with_reducible repeat (first | apply Kd.S_alloc | apply Kd.S_drewN | apply Kd.S_drew)); exact Kd.S_mono HO_8.out (fun k_ hk => ⟨trivial, fun e_ => hk.2 e_⟩))); (case aS => exact (below_size (by repeat (first | exact HB.out | apply below_alloc | apply pw_below_drewN | apply below_drew1)))); (case aL => have := LMc17.out; omega); intro v18009 w19 ho hb hg hat; rw [← Ny18008.out] at ho; replace HB := Aside0.mk (hb); have HO18010 := Aside0.mk (ho); clear HO_8 HO18007; clear ho hb hg hat))
              go_roundg k2
              case measure => have := HK1.out; have := HK2.out; omega
              case rel => exact ⟨(y18008), (wrap64 (x9_2 - (rd l1 x34_2))), (wrap64 (x34_2 + 1)), (by first | rfl | (simp; done) | (simp [*]; done)), (by first | rfl | (simp; done) | (simp [*]; done)), H', ⟨by have := HK1.out; have := HK2.out; omega⟩, ⟨by (with_reducible repeat (first | apply Kd.S_alloc | apply Kd.S_drewN | apply Kd.S_drew)); exact HO18010.out⟩, ⟨by repeat (first | exact HB.out | apply below_alloc | apply pw_below_drewN | apply below_drew1)⟩⟩
             ·rw [if_neg c17] at H
              exact absurd H (by simp)
           ·rw [if_neg c14] at H
            exact absurd H (by simp)
          ·rw [if_neg c13] at H
           exact absurd H (by simp)
         ·rw [if_neg c12] at H
          have c12b0 : decide (x34_2 < (l1.length : Int)) = false := decide_eq_false c12
          clear c12
          simp only [Option.some.injEq, Prod.mk.injEq] at H
          obtain ⟨rfl, rfl⟩ := H
          go_wp2
          go_ret2
          exact ⟨_, by first | rfl | (simp [errW_none, errW_some] <;> rfl) | (simp [*, errW_none, errW_some] <;> rfl), by (with_reducible repeat (first | apply Kd.S_alloc | apply Kd.S_drewN | apply Kd.S_drew)); exact HO_8.out, by repeat (first | exact HB.out | apply below_alloc | apply pw_below_drewN | apply below_drew1)⟩
 ·replace c4 := Bool.eq_false_iff.mpr c4
  subst c4
  have H1 : (some (([] : List (List (S44))), 1)) = some (r1, r2) := by rw [if_neg (show ¬ (false = true) by decide)] at H; first | exact H | simpa using H
  clear H
  have H := H1
  clear H1
  simp only [Option.some.injEq, Prod.mk.injEq] at H
  obtain ⟨rfl, rfl⟩ := H
  go_enter Try.func17, Try.ntmps17
  go_wp2_with (first | ((with_reducible refine gate_callee (f := 30) rfl ?_); refine goesL_ (some 13) rfl rfl Try.func30 (by kernel_rfl) rfl #[.int .i64 a0] rfl (by (try simp only [List.map_toArray, List.map_cons, List.map_nil]); first | done | rfl | (simp only [List.length_drop, List.length_take]; rfl)) ?_; (with_reducible refine (rewind_long.calls a0 false _ A3.out).mono ?_); rintro e w' ⟨rfl, ⟨nd, rfl⟩⟩; refine ⟨_, rfl, ?_⟩))
  go_ret2
  exact ⟨_, by first | rfl | (simp [errW_none, errW_some] <;> rfl) | (simp [*, errW_none, errW_some] <;> rfl), by first | exact Kd.S_nil _ _ _ _ _ | exact Kd.N_nil _ _ _ _ _ | exact Kd.V_nil _ _ _ _ _ | exact Kd.Q_nil _ _ _ _ _ | exact Kd.R_nil _ _ _ _ _, by repeat (first | exact HB.out | apply below_alloc | apply pw_below_drewN | apply below_drew1)⟩

end Go.Proofs.Ytalpegglbfobiaa.G

namespace Go.Proofs.Ytalpegglbfobiaa.G
open Go.RowKit Go.Proofs.YtalpegglbfobiaaW.PrintWords Go.Proofs.YtalpegglbfobiaaW.PrintLast Go.Proofs.YtalpegglbfobiaaW.PrintMore
attribute [local go_sem] max2_int min2_int max_two min_two max_three min_three max_four min_four   -- for this text's walks alone
set_option linter.unusedVariables false
set_option linter.unusedSimpArgs false

def rewind_composed.l0 : Nat → List (List (S44)) → List (S44) → Int → Int → Option ((List (S44)) × Int)
 | 0, _, _, _, _ => none
 | k + 1, x0, x5, x6, x7 => if x7 ≥ 0 then (if x6 = 0 then (if 0 ≤ x7 then (if x7 < (x0.length : Int) then ((iso_Compose.f x5 (rd_L6 x0 x7)).bind fun bt41007 => (rewind_composed.l0 k x0 bt41007.1 bt41007.2 (wrap64 (x7 - 1)))) else (none)) else (none)) else (some (([] : List (S44)), x6))) else (if x6 = 0 then (some (x5, 0)) else (some (([] : List (S44)), x6)))
def rewind_composed.f (k : Nat) (l0 : List (List (S44))) : Option ((List (S44)) × Int) := if 0 ≤ (wrap64 ((l0.length : Int) - 1)) then (if (wrap64 ((l0.length : Int) - 1)) < (l0.length : Int) then ((iso_Norm.f (rd_L6 l0 (wrap64 ((l0.length : Int) - 1)))).bind fun bt41002 => (rewind_composed.l0 k l0 bt41002.1 bt41002.2 (wrap64 ((wrap64 ((l0.length : Int) - 1)) - 1)))) else (none)) else (none)
set_option maxHeartbeats 8000000 in
set_option maxRecDepth 100000 in
theorem rewind_composed.calls (k : Nat) (A0 : Option Addr) (c0 : Nat) (l0 : List (List (S44))) (r1 : List (S44)) (r2 : Int) (w : World) (hr0 : Kd.C (Kd.slice 44 k44) w A0 l0.length l0) (hc0 : l0.length ≤ c0) (h : rewind_composed.f k l0 = some (r1, r2)) :
  Calls Try.prog 40 #[.slice A0 l0.length c0] w fun e w' => ∃ v0_ : Value, e = .returned (.tuple #[v0_, .int .i64 r2]) ∧ Kd.R k44 44 w' w.heap.size (fun _ => True) v0_ r1 ∧ Below w.heap.size w w' := by
 have HR0 := Aside0.mk hr0
 have HC0 := Aside0.mk hc0
 clear hr0 hc0
 have HB := Aside0.mk (Below.refl w.heap.size w)
 have H : (if 0 ≤ (wrap64 ((l0.length : Int) - 1)) then (if (wrap64 ((l0.length : Int) - 1)) < (l0.length : Int) then ((iso_Norm.f (rd_L6 l0 (wrap64 ((l0.length : Int) - 1)))).bind fun bt41002 => (rewind_composed.l0 k l0 bt41002.1 bt41002.2 (wrap64 ((wrap64 ((l0.length : Int) - 1)) - 1)))) else (none)) else (none)) = some (r1, r2) := h
 clear h
 obtain ⟨ji2, hji2⟩ : ∃ j_ : Int, (wrap64 ((l0.length : Int) - 1)) = j_ := ⟨_, rfl⟩
 replace H : (if 0 ≤ (ji2) then (if (ji2) < (l0.length : Int) then ((iso_Norm.f (rd_L6 l0 (ji2))).bind fun bt41002 => (rewind_composed.l0 k l0 bt41002.1 bt41002.2 (wrap64 ((ji2) - 1)))) else (none)) else (none)) = some (r1, r2) := by first | (rw [hji2] at H; exact H) | (simp only [hji2] at H ⊢; exact H)
 have hji2w : (IntKind.i64.wrap ((l0.length : Int) - 1)) = ji2 := (i64_w _).trans hji2
 by_cases c3 : 0 ≤ (ji2)
 ·rw [if_pos c3] at H
  have c3b0 : decide (0 ≤ (ji2)) = true := decide_eq_true c3
  clear c3
  by_cases c4 : (ji2) < (l0.length : Int)
  ·rw [if_pos c4] at H
   have c4b0 : decide ((ji2) < (l0.length : Int)) = true := decide_eq_true c4
   clear c4
   replace H := Option.bind_eq_some_iff.mp H
   obtain ⟨⟨t41002, t41003⟩, A50, H⟩ := H
   try dsimp only at H
   have A5 := Aside0.mk A50
   clear A50
   have H' := Aside0.mk H
   clear H
   have p41001 : 0 ≤ ((ji2) : Int) := of_decide_eq_true (by assumption)
   have q41001 : (ji2) < (l0.length : Int) := of_decide_eq_true (by assumption)
   obtain ⟨ad41001, A41001_0, c41001_0, e41001, hx41001_0, hl41001_0, hi41001_0⟩ := at_L6 HR0.out (ji2) p41001 q41001
   cases e41001
   have HR41001_0 := Aside0.mk hi41001_0
   have HC41001_0 := Aside0.mk hl41001_0
   clear hi41001_0 hl41001_0
   replace p41001 := eq_true p41001
   replace q41001 := eq_true q41001
   go_enter Try.func40, Try.ntmps40
   go_wp2_with (first | ((with_reducible refine gate_callee (f := 54) rfl ?_); refine goesL_ (some 16) rfl rfl Try.func54 (by kernel_rfl) rfl #[.slice A41001_0 (rd_L6 l0 (ji2)).length c41001_0] rfl (by (try simp only [List.map_toArray, List.map_cons, List.map_nil]); first | done | (simp only [hji2]; rfl) | rfl | (simp only [List.length_drop, List.length_take]; rfl)) ?_; (with_reducible refine (iso_Norm.calls _ _ (rd_L6 l0 (ji2)) t41002 t41003 _ ?side1 ?side2 A5.out).mono ?_); (case side1 => exact HR41001_0.out); (case side2 => exact HC41001_0.out); rintro e w6 ⟨v41004, rfl, ho0, hb⟩; refine ⟨_, rfl, ?_⟩; have HO41005 := Aside0.mk (Kd.R_lower ho0 (below_size (by repeat (first | exact HB.out | apply below_alloc | apply pw_below_drewN | apply below_drew1)))); replace HB := Aside0.mk (below_step (by repeat (first | exact HB.out | apply below_alloc | apply pw_below_drewN | apply below_drew1)) hb); (try clear hb); (try clear hb2); (try clear hk); (try clear hi); (try clear ho0)))
   go_loopg [5, 6, 7] k (fun kq v5 v6 v7 w' => ∃ (x5_1 : List (S44)) (x6_1 : Int) (x7_1 : Int), v6 = .int .i64 x6_1 ∧ v7 = .int .i64 x7_1 ∧ Aside0 (rewind_composed.l0 kq l0 x5_1 x6_1 x7_1 = some (r1, r2)) ∧ Aside0 (kq ≤ k) ∧ Aside0 (Kd.R k44 44 w' w.heap.size (fun _ => True) v5 x5_1) ∧ Aside0 (Below w.heap.size w w'))
   case atStart => exact ⟨(t41002), (t41003), (wrap64 ((ji2) - 1)), (by first | rfl | (simp; done) | (simp [*]; done)), (by first | rfl | (simp; done) | (simp only [← hji2] <;> (first | rfl | (simp; done))) | (simp [*]; done)), H', ⟨Nat.le_refl _⟩, ⟨HO41005.out⟩, ⟨by repeat (first | exact HB.out | apply below_alloc | apply pw_below_drewN | apply below_drew1)⟩⟩
   case round =>
    clear H'
    try clear p2
    try clear c3
    try clear c3b0
    try clear c4
    try clear c4b0
    try clear p4
    try clear q4
    try clear hx4
    try clear c5
    try clear p6
    try clear hx41001_0
    try clear p41001
    try clear q41001
    obtain ⟨x5_1, x6_1, x7_1, rfl, rfl, HA, HK1, HO_5, HB⟩ := hrel
    cases gk with
    | zero => exact absurd HA.out (by simp [rewind_composed.l0])
    | succ k1 =>
     have H := HA.out
     clear HA
     simp only [rewind_composed.l0] at H
     by_cases c7 : x7_1 ≥ 0
     ·rw [if_pos c7] at H
      have c7b0 : decide (0 ≤ x7_1) = true := decide_eq_true c7
      clear c7
      by_cases c8 : x6_1 = 0
      ·rw [if_pos c8] at H
       have c8b0 : (x6_1 == 0) = true := beq_iff_eq.mpr c8
       have c8b1 : (x6_1 != 0) = false := bne_eq_false_iff_eq.mpr c8
       clear c8
       by_cases c9 : 0 ≤ x7_1
       ·rw [if_pos c9] at H
        have c9b0 : decide (0 ≤ x7_1) = true := decide_eq_true c9
        clear c9
        by_cases c10 : x7_1 < (l0.length : Int)
        ·rw [if_pos c10] at H
         have c10b0 : decide (x7_1 < (l0.length : Int)) = true := decide_eq_true c10
         clear c10
         replace H := Option.bind_eq_some_iff.mp H
         obtain ⟨⟨t41007, t41008⟩, A110, H⟩ := H
         try dsimp only at H
         have A11 := Aside0.mk A110
         clear A110
         have H' := Aside0.mk H
         clear H
         have p41006 : 0 ≤ (x7_1 : Int) := of_decide_eq_true (by assumption)
         have q41006 : x7_1 < (l0.length : Int) := of_decide_eq_true (by assumption)
         obtain ⟨ad41006, A41006_0, c41006_0, e41006, hx41006_0, hl41006_0, hi41006_0⟩ := at_L6 HR0.out x7_1 p41006 q41006
         obtain rfl : ad41001 = ad41006 := (by injection e41006)
         replace hx41006_0 := (HB.out.cell (World.block_lt_of_cell? w _ hx41006_0)).trans hx41006_0
         have HR41006_0 := Aside0.mk hi41006_0
         have HC41006_0 := Aside0.mk hl41006_0
         clear hi41006_0 hl41006_0
         replace p41006 := eq_true p41006
         replace q41006 := eq_true q41006
         obtain ⟨Ao12, co12, eo12⟩ := Kd.R_slice HO_5.out
         subst eo12
         go_wp2_with (first | ((with_reducible refine gate_callee (f := 61) rfl ?_); refine goesL_ (some 35) rfl rfl Try.func61 (by kernel_rfl) rfl #[.slice Ao12 x5_1.length co12, .slice A41006_0 (rd_L6 l0 x7_1).length c41006_0] rfl (by (try simp only [List.map_toArray, List.map_cons, List.map_nil]); first | done | rfl | (simp only [List.length_drop, List.length_take]; rfl)) ?_; (with_reducible refine (iso_Compose.calls _ _ x5_1 _ _ (rd_L6 l0 x7_1) t41007 t41008 _ ?side1 ?side2 ?side3 ?side4 A11.out).mono ?_); (case side1 => exact (Kd.R_reads' HO_5.out).2.2); (case side2 => exact (Kd.R_reads' HO_5.out).2.1); (case side3 => exact (Kd.C_below HR41006_0.out HB.out)); (case side4 => exact HC41006_0.out); rintro e w13 ⟨v41009, rfl, ho0, hb⟩; refine ⟨_, rfl, ?_⟩; have HO41010 := Aside0.mk (Kd.R_lower (Kd.R_new' ho0 (Kd.R_lt (HO_5.out))) (below_size (by repeat (first | exact HB.out | apply below_alloc | apply pw_below_drewN | apply below_drew1)))); replace HO_5 := Aside0.mk (Kd.R_elder' (HO_5.out) (Kd.R_base ho0) hb); replace HB := Aside0.mk (below_step (by repeat (first | exact HB.out | apply below_alloc | apply pw_below_drewN | apply below_drew1)) hb); (try clear hb); (try clear hb2); (try clear hk); (try clear hi); (try clear ho0)))
         go_roundg k1
         case measure => have := HK1.out; omega
         case rel => exact ⟨(t41007), (t41008), (wrap64 (x7_1 - 1)), (by first | rfl | (simp; done) | (simp [*]; done)), (by first | rfl | (simp; done) | (simp [*]; done)), H', ⟨by have := HK1.out; omega⟩, ⟨by exact Kd.R_mono HO41010.out (fun _ hk => trivial)⟩, ⟨by repeat (first | exact HB.out | apply below_alloc | apply pw_below_drewN | apply below_drew1)⟩⟩
        ·rw [if_neg c10] at H
         exact absurd H (by simp)
       ·rw [if_neg c9] at H
        exact absurd H (by simp)
      ·rw [if_neg c8] at H
       have c8b0 : (x6_1 == 0) = false := beq_eq_false_iff_ne.mpr c8
       have c8b1 : (x6_1 != 0) = true := bne_iff_ne.mpr c8
       simp only [Option.some.injEq, Prod.mk.injEq] at H
       obtain ⟨rfl, rfl⟩ := H
       go_wp2
       go_ret2
       exact ⟨_, by first | rfl | (simp [errW_none, errW_some] <;> rfl) | (simp only [← hji2]; first | rfl | (simp [errW_none, errW_some] <;> rfl)) | (simp [*, errW_none, errW_some] <;> rfl), by first | exact Kd.R_nil _ _ _ _ _ | exact Kd.N_nil _ _ _ _ _ | exact Kd.V_nil _ _ _ _ _ | exact Kd.Q_nil _ _ _ _ _ | exact Kd.S_nil _ _ _ _ _, by repeat (first | exact HB.out | apply below_alloc | apply pw_below_drewN | apply below_drew1)⟩
     ·rw [if_neg c7] at H
      have c7b0 : decide (0 ≤ x7_1) = false := decide_eq_false c7
      clear c7
      by_cases c14 : x6_1 = 0
      ·rw [if_pos c14] at H
       have c14b0 : (x6_1 == 0) = true := beq_iff_eq.mpr c14
       have c14b1 : (x6_1 != 0) = false := bne_eq_false_iff_eq.mpr c14
       clear c14
       simp only [Option.some.injEq, Prod.mk.injEq] at H
       obtain ⟨rfl, rfl⟩ := H
       go_wp2
       go_ret2
       exact ⟨_, by first | rfl | (simp [errW_none, errW_some] <;> rfl) | (simp only [← hji2]; first | rfl | (simp [errW_none, errW_some] <;> rfl)) | (simp [*, errW_none, errW_some] <;> rfl), by exact HO_5.out, by repeat (first | exact HB.out | apply below_alloc | apply pw_below_drewN | apply below_drew1)⟩
      ·rw [if_neg c14] at H
       have c14b0 : (x6_1 == 0) = false := beq_eq_false_iff_ne.mpr c14
       have c14b1 : (x6_1 != 0) = true := bne_iff_ne.mpr c14
       simp only [Option.some.injEq, Prod.mk.injEq] at H
       obtain ⟨rfl, rfl⟩ := H
       go_wp2
       go_ret2
       exact ⟨_, by first | rfl | (simp [errW_none, errW_some] <;> rfl) | (simp only [← hji2]; first | rfl | (simp [errW_none, errW_some] <;> rfl)) | (simp [*, errW_none, errW_some] <;> rfl), by first | exact Kd.R_nil _ _ _ _ _ | exact Kd.N_nil _ _ _ _ _ | exact Kd.V_nil _ _ _ _ _ | exact Kd.Q_nil _ _ _ _ _ | exact Kd.S_nil _ _ _ _ _, by repeat (first | exact HB.out | apply below_alloc | apply pw_below_drewN | apply below_drew1)⟩
  ·rw [if_neg c4] at H
   exact absurd H (by simp)
 ·rw [if_neg c3] at H
  exact absurd H (by simp)

end Go.Proofs.Ytalpegglbfobiaa.G

namespace Go.Proofs.Ytalpegglbfobiaa.G
open Go.RowKit Go.Proofs.YtalpegglbfobiaaW.PrintWords Go.Proofs.YtalpegglbfobiaaW.PrintLast Go.Proofs.YtalpegglbfobiaaW.PrintMore
attribute [local go_sem] max2_int min2_int max_two min_two max_three min_three max_four min_four   -- for this text's walks alone
set_option linter.unusedVariables false
set_option linter.unusedSimpArgs false

def rewind_After.l0 : Nat → List (List (S44)) → List (List (S44)) → Int → Int → Option ((List (S44)) × Int)
 | 0, _, _, _, _ => none
 | k + 1, x0, x10, x11, x12 => if x12 < x11 then (if 0 ≤ x12 then (if x12 < (x10.length : Int) then ((iso_Check.f k (rd_L6 x10 x12)).bind fun t22002 => (if t22002 = 0 then (rewind_After.l0 k x0 x10 x11 (wrap64 (x12 + 1))) else (some (([] : List (S44)), t22002)))) else (none)) else (none)) else (if (x0.length : Int) = 0 then (some (([] : List (S44)), 0)) else ((rewind_composed.f k x0).bind fun bt22003 => (some (bt22003.1, bt22003.2))))
def rewind_After.f (k : Nat) (l0 : List (List (S44))) : Option ((List (S44)) × Int) := if (l0.length : Int) > 16 then (some (([] : List (S44)), 8)) else (rewind_After.l0 k l0 l0 (l0.length : Int) 0)
set_option maxHeartbeats 8000000 in
set_option maxRecDepth 100000 in
theorem rewind_After.calls (k : Nat) (A0 : Option Addr) (c0 : Nat) (l0 : List (List (S44))) (r1 : List (S44)) (r2 : Int) (w : World) (hr0 : Kd.C (Kd.slice 44 k44) w A0 l0.length l0) (hc0 : l0.length ≤ c0) (h : rewind_After.f k l0 = some (r1, r2)) :
  Calls Try.prog 21 #[.slice A0 l0.length c0] w fun e w' => ∃ v0_ : Value, e = .returned (.tuple #[v0_, .int .i64 r2]) ∧ Kd.R k44 44 w' w.heap.size (fun _ => True) v0_ r1 ∧ Below w.heap.size w w' := by
 have HR0 := Aside0.mk hr0
 have HC0 := Aside0.mk hc0
 clear hr0 hc0
 have HB := Aside0.mk (Below.refl w.heap.size w)
 have H : (if (l0.length : Int) > 16 then (some (([] : List (S44)), 8)) else (rewind_After.l0 k l0 l0 (l0.length : Int) 0)) = some (r1, r2) := h
 clear h
 by_cases c2 : (l0.length : Int) > 16
 ·rw [if_pos c2] at H
  have c2b0 : decide (16 < (l0.length : Int)) = true := decide_eq_true c2
  have c2b1 : decide (16 < l0.length) = true := decide_eq_true (by omega)
  clear c2
  simp only [Option.some.injEq, Prod.mk.injEq] at H
  obtain ⟨rfl, rfl⟩ := H
  go_enter Try.func21, Try.ntmps21
  go_wp2
  go_ret2
  exact ⟨_, by first | rfl | (simp [errW_none, errW_some] <;> rfl) | (simp [*, errW_none, errW_some] <;> rfl), by first | exact Kd.R_nil _ _ _ _ _ | exact Kd.N_nil _ _ _ _ _ | exact Kd.V_nil _ _ _ _ _ | exact Kd.Q_nil _ _ _ _ _ | exact Kd.S_nil _ _ _ _ _, by repeat (first | exact HB.out | apply below_alloc | apply pw_below_drewN | apply below_drew1)⟩
 ·rw [if_neg c2] at H
  have c2b0 : decide (16 < (l0.length : Int)) = false := decide_eq_false c2
  have c2b1 : decide (16 < l0.length) = false := decide_eq_false (by omega)
  clear c2
  have H' := Aside0.mk H
  clear H
  go_enter Try.func21, Try.ntmps21
  go_wp2
  go_loopg [12] k (fun kq v12 w' => ∃ (x12_1 : Int), v12 = .int .i64 x12_1 ∧ Aside0 (rewind_After.l0 kq l0 l0 (l0.length : Int) x12_1 = some (r1, r2)) ∧ Aside0 (kq ≤ k) ∧ Aside0 (Below w.heap.size w w'))
  case atStart => exact ⟨(0), (by first | rfl | (simp; done) | (simp [*]; done)), H', ⟨Nat.le_refl _⟩, ⟨by repeat (first | exact HB.out | apply below_alloc | apply pw_below_drewN | apply below_drew1)⟩⟩
  case round =>
   clear H'
   try clear c2
   try clear c2b0
   try clear c2b1
   try clear p2
   obtain ⟨x12_1, rfl, HA, HK1, HB⟩ := hrel
   cases gk with
   | zero => exact absurd HA.out (by simp [rewind_After.l0])
   | succ k1 =>
    have H := HA.out
    clear HA
    simp only [rewind_After.l0] at H
    by_cases c3 : x12_1 < (l0.length : Int)
    ·rw [if_pos c3] at H
     have c3b0 : decide (x12_1 < (l0.length : Int)) = true := decide_eq_true c3
     clear c3
     by_cases c4 : 0 ≤ x12_1
     ·rw [if_pos c4] at H
      have c4b0 : decide (0 ≤ x12_1) = true := decide_eq_true c4
      clear c4
      by_cases c5 : x12_1 < (l0.length : Int)
      ·rw [if_pos c5] at H
       have c5b0 : decide (x12_1 < (l0.length : Int)) = true := decide_eq_true c5
       clear c5
       replace H := Option.bind_eq_some_iff.mp H
       obtain ⟨t22002, A60, H⟩ := H
       have A6 := Aside0.mk A60
       clear A60
       by_cases c7 : t22002 = 0
       ·rw [if_pos c7] at H
        have c7b0 : (t22002 == 0) = true := beq_iff_eq.mpr c7
        have c7b1 : (t22002 != 0) = false := bne_eq_false_iff_eq.mpr c7
        clear c7
        have H' := Aside0.mk H
        clear H
        have p22001 : 0 ≤ (x12_1 : Int) := of_decide_eq_true (by assumption)
        have q22001 : x12_1 < (l0.length : Int) := of_decide_eq_true (by assumption)
        obtain ⟨ad22001, A22001_0, c22001_0, e22001, hx22001_0, hl22001_0, hi22001_0⟩ := at_L6 HR0.out x12_1 p22001 q22001
        cases e22001
        replace hx22001_0 := (HB.out.cell (World.block_lt_of_cell? w _ hx22001_0)).trans hx22001_0
        have HR22001_0 := Aside0.mk hi22001_0
        have HC22001_0 := Aside0.mk hl22001_0
        clear hi22001_0 hl22001_0
        replace p22001 := eq_true p22001
        replace q22001 := eq_true q22001
        go_wp2_with (first | ((with_reducible refine gate_callee (f := 39) rfl ?_); refine goesL_ (some 17) rfl rfl Try.func39 (by kernel_rfl) rfl #[.slice A22001_0 (rd_L6 l0 x12_1).length c22001_0] rfl (by (try simp only [List.map_toArray, List.map_cons, List.map_nil]); first | done | rfl | (simp only [List.length_drop, List.length_take]; rfl)) ?_; (with_reducible refine (iso_Check.calls k1 _ _ (rd_L6 l0 x12_1) t22002 _ ?side1 ?side2 A6.out).mono ?_); (case side1 => exact (Kd.C_below HR22001_0.out HB.out)); (case side2 => exact HC22001_0.out); rintro e w8 ⟨rfl, hb⟩; refine ⟨_, rfl, ?_⟩; replace HB := Aside0.mk (below_step (by repeat (first | exact HB.out | apply below_alloc | apply pw_below_drewN | apply below_drew1)) hb); (try clear hb); (try clear hb2); (try clear hk); (try clear hi)))
        go_roundg k1
        case measure => have := HK1.out; omega
        case rel => exact ⟨(wrap64 (x12_1 + 1)), (by first | rfl | (simp; done) | (simp [*]; done)), H', ⟨by have := HK1.out; omega⟩, ⟨by repeat (first | exact HB.out | apply below_alloc | apply pw_below_drewN | apply below_drew1)⟩⟩
       ·rw [if_neg c7] at H
        have c7b0 : (t22002 == 0) = false := beq_eq_false_iff_ne.mpr c7
        have c7b1 : (t22002 != 0) = true := bne_iff_ne.mpr c7
        simp only [Option.some.injEq, Prod.mk.injEq] at H
        obtain ⟨rfl, rfl⟩ := H
        have p22001 : 0 ≤ (x12_1 : Int) := of_decide_eq_true (by assumption)
        have q22001 : x12_1 < (l0.length : Int) := of_decide_eq_true (by assumption)
        obtain ⟨ad22001, A22001_0, c22001_0, e22001, hx22001_0, hl22001_0, hi22001_0⟩ := at_L6 HR0.out x12_1 p22001 q22001
        cases e22001
        replace hx22001_0 := (HB.out.cell (World.block_lt_of_cell? w _ hx22001_0)).trans hx22001_0
        have HR22001_0 := Aside0.mk hi22001_0
        have HC22001_0 := Aside0.mk hl22001_0
        clear hi22001_0 hl22001_0
        replace p22001 := eq_true p22001
        replace q22001 := eq_true q22001
        go_wp2_with (first | ((with_reducible refine gate_callee (f := 39) rfl ?_); refine goesL_ (some 17) rfl rfl Try.func39 (by kernel_rfl) rfl #[.slice A22001_0 (rd_L6 l0 x12_1).length c22001_0] rfl (by (try simp only [List.map_toArray, List.map_cons, List.map_nil]); first | done | rfl | (simp only [List.length_drop, List.length_take]; rfl)) ?_; (with_reducible refine (iso_Check.calls k1 _ _ (rd_L6 l0 x12_1) t22002 _ ?side1 ?side2 A6.out).mono ?_); (case side1 => exact (Kd.C_below HR22001_0.out HB.out)); (case side2 => exact HC22001_0.out); rintro e w9 ⟨rfl, hb⟩; refine ⟨_, rfl, ?_⟩; replace HB := Aside0.mk (below_step (by repeat (first | exact HB.out | apply below_alloc | apply pw_below_drewN | apply below_drew1)) hb); (try clear hb); (try clear hb2); (try clear hk); (try clear hi)))
        go_ret2
        exact ⟨_, by first | rfl | (simp [errW_none, errW_some] <;> rfl) | (simp [*, errW_none, errW_some] <;> rfl), by first | exact Kd.R_nil _ _ _ _ _ | exact Kd.N_nil _ _ _ _ _ | exact Kd.V_nil _ _ _ _ _ | exact Kd.Q_nil _ _ _ _ _ | exact Kd.S_nil _ _ _ _ _, by repeat (first | exact HB.out | apply below_alloc | apply pw_below_drewN | apply below_drew1)⟩
      ·rw [if_neg c5] at H
       exact absurd H (by simp)
     ·rw [if_neg c4] at H
      exact absurd H (by simp)
    ·rw [if_neg c3] at H
     have c3b0 : decide (x12_1 < (l0.length : Int)) = false := decide_eq_false c3
     clear c3
     by_cases c10 : (l0.length : Int) = 0
     ·rw [if_pos c10] at H
      have c10b0 : ((l0.length : Int) == 0) = true := beq_iff_eq.mpr c10
      have c10b1 : ((l0.length : Int) != 0) = false := bne_eq_false_iff_eq.mpr c10
      clear c10
      simp only [Option.some.injEq, Prod.mk.injEq] at H
      obtain ⟨rfl, rfl⟩ := H
      go_wp2
      go_ret2
      exact ⟨_, by first | rfl | (simp [errW_none, errW_some] <;> rfl) | (simp [*, errW_none, errW_some] <;> rfl), by first | exact Kd.R_nil _ _ _ _ _ | exact Kd.N_nil _ _ _ _ _ | exact Kd.V_nil _ _ _ _ _ | exact Kd.Q_nil _ _ _ _ _ | exact Kd.S_nil _ _ _ _ _, by repeat (first | exact HB.out | apply below_alloc | apply pw_below_drewN | apply below_drew1)⟩
     ·rw [if_neg c10] at H
      have c10b0 : ((l0.length : Int) == 0) = false := beq_eq_false_iff_ne.mpr c10
      have c10b1 : ((l0.length : Int) != 0) = true := bne_iff_ne.mpr c10
      have c10b2 : ¬ (l0 = []) := fun h_ => c10 (by rw [h_]; rfl)
      replace H := Option.bind_eq_some_iff.mp H
      obtain ⟨⟨t22003, t22004⟩, A110, H⟩ := H
      try dsimp only at H
      have A11 := Aside0.mk A110
      clear A110
      simp only [Option.some.injEq, Prod.mk.injEq] at H
      obtain ⟨rfl, rfl⟩ := H
      go_wp2_with (first | ((with_reducible refine gate_callee (f := 40) rfl ?_); refine goesL_ (some 26) rfl rfl Try.func40 (by kernel_rfl) rfl #[.slice A0 l0.length c0] rfl (by (try simp only [List.map_toArray, List.map_cons, List.map_nil]); first | done | rfl | (simp only [List.length_drop, List.length_take]; rfl)) ?_; (with_reducible refine (rewind_composed.calls k1 _ _ l0 t22003 t22004 _ ?side1 ?side2 A11.out).mono ?_); (case side1 => exact (Kd.C_below HR0.out HB.out)); (case side2 => exact HC0.out); rintro e w12 ⟨v22005, rfl, ho0, hb⟩; refine ⟨_, rfl, ?_⟩; have HO22006 := Aside0.mk (Kd.R_lower ho0 (below_size (by repeat (first | exact HB.out | apply below_alloc | apply pw_below_drewN | apply below_drew1)))); replace HB := Aside0.mk (below_step (by repeat (first | exact HB.out | apply below_alloc | apply pw_below_drewN | apply below_drew1)) hb); (try clear hb); (try clear hb2); (try clear hk); (try clear hi); (try clear ho0)))
      go_ret2
      exact ⟨_, by first | rfl | (simp [errW_none, errW_some] <;> rfl) | (simp [*, errW_none, errW_some] <;> rfl), by exact HO22006.out, by repeat (first | exact HB.out | apply below_alloc | apply pw_below_drewN | apply below_drew1)⟩

end Go.Proofs.Ytalpegglbfobiaa.G

namespace Go.Proofs.Ytalpegglbfobiaa.G
open Go.RowKit Go.Proofs.YtalpegglbfobiaaW.PrintWords Go.Proofs.YtalpegglbfobiaaW.PrintLast Go.Proofs.YtalpegglbfobiaaW.PrintMore
attribute [local go_sem] max2_int min2_int max_two min_two max_three min_three max_four min_four   -- for this text's walks alone
set_option linter.unusedVariables false
set_option linter.unusedSimpArgs false

def iso_Length.f (k : Nat) (l0 : List (S44)) : Option (Int × Int) := (iso_Check.f k l0).bind fun t44001 => (if t44001 = 0 then ((iso_length.f k l0).bind fun t44002 => (some (t44002, 0))) else (some (0, t44001)))
set_option maxHeartbeats 8000000 in
set_option maxRecDepth 100000 in
theorem iso_Length.calls (k : Nat) (A0 : Option Addr) (c0 : Nat) (l0 : List (S44)) (r1 : Int) (r2 : Int) (w : World) (hr0 : Kd.C k44 w A0 l0.length l0) (hc0 : l0.length ≤ c0) (h : iso_Length.f k l0 = some (r1, r2)) :
  Calls Try.prog 43 #[.slice A0 l0.length c0] w fun e w' => e = .returned (.tuple #[.int .i64 r1, .int .i64 r2]) ∧ Below w.heap.size w w' := by
 have HR0 := Aside0.mk hr0
 have HC0 := Aside0.mk hc0
 clear hr0 hc0
 have HB := Aside0.mk (Below.refl w.heap.size w)
 have H : ((iso_Check.f k l0).bind fun t44001 => (if t44001 = 0 then ((iso_length.f k l0).bind fun t44002 => (some (t44002, 0))) else (some (0, t44001)))) = some (r1, r2) := h
 clear h
 replace H := Option.bind_eq_some_iff.mp H
 obtain ⟨t44001, A20, H⟩ := H
 have A2 := Aside0.mk A20
 clear A20
 by_cases c3 : t44001 = 0
 ·rw [if_pos c3] at H
  have c3b0 : (t44001 == 0) = true := beq_iff_eq.mpr c3
  have c3b1 : (t44001 != 0) = false := bne_eq_false_iff_eq.mpr c3
  clear c3
  replace H := Option.bind_eq_some_iff.mp H
  obtain ⟨t44002, A40, H⟩ := H
  have A4 := Aside0.mk A40
  clear A40
  simp only [Option.some.injEq, Prod.mk.injEq] at H
  obtain ⟨rfl, rfl⟩ := H
  go_enter Try.func43, Try.ntmps43
  go_wp2_with (first | ((with_reducible refine gate_callee (f := 39) rfl ?_); refine goesL_ (some 6) rfl rfl Try.func39 (by kernel_rfl) rfl #[.slice A0 l0.length c0] rfl (by (try simp only [List.map_toArray, List.map_cons, List.map_nil]); first | done | rfl | (simp only [List.length_drop, List.length_take]; rfl)) ?_; (with_reducible refine (iso_Check.calls k _ _ l0 t44001 _ ?side1 ?side2 A2.out).mono ?_); (case side1 => exact HR0.out); (case side2 => exact HC0.out); rintro e w5 ⟨rfl, hb⟩; refine ⟨_, rfl, ?_⟩; replace HB := Aside0.mk (below_step (by repeat (first | exact HB.out | apply below_alloc | apply pw_below_drewN | apply below_drew1)) hb); (try clear hb); (try clear hb2); (try clear hk); (try clear hi)) | ((with_reducible refine gate_callee (f := 64) rfl ?_); refine goesL_ (some 11) rfl rfl Try.func64 (by kernel_rfl) rfl #[.slice A0 l0.length c0] rfl (by (try simp only [List.map_toArray, List.map_cons, List.map_nil]); first | done | rfl | (simp only [List.length_drop, List.length_take]; rfl)) ?_; (with_reducible refine (iso_length.calls k _ _ l0 t44002 _ ?side1 ?side2 A4.out).mono ?_); (case side1 => exact (Kd.C_below HR0.out HB.out)); (case side2 => exact HC0.out); rintro e w6 ⟨rfl, hb⟩; refine ⟨_, rfl, ?_⟩; replace HB := Aside0.mk (below_step (by repeat (first | exact HB.out | apply below_alloc | apply pw_below_drewN | apply below_drew1)) hb); (try clear hb); (try clear hb2); (try clear hk); (try clear hi)))
  go_ret2
  exact ⟨by first | rfl | (simp [errW_none, errW_some] <;> rfl) | (simp [*, errW_none, errW_some] <;> rfl), by repeat (first | exact HB.out | apply below_alloc | apply pw_below_drewN | apply below_drew1)⟩
 ·rw [if_neg c3] at H
  have c3b0 : (t44001 == 0) = false := beq_eq_false_iff_ne.mpr c3
  have c3b1 : (t44001 != 0) = true := bne_iff_ne.mpr c3
  simp only [Option.some.injEq, Prod.mk.injEq] at H
  obtain ⟨rfl, rfl⟩ := H
  go_enter Try.func43, Try.ntmps43
  go_wp2_with (first | ((with_reducible refine gate_callee (f := 39) rfl ?_); refine goesL_ (some 6) rfl rfl Try.func39 (by kernel_rfl) rfl #[.slice A0 l0.length c0] rfl (by (try simp only [List.map_toArray, List.map_cons, List.map_nil]); first | done | rfl | (simp only [List.length_drop, List.length_take]; rfl)) ?_; (with_reducible refine (iso_Check.calls k _ _ l0 t44001 _ ?side1 ?side2 A2.out).mono ?_); (case side1 => exact HR0.out); (case side2 => exact HC0.out); rintro e w7 ⟨rfl, hb⟩; refine ⟨_, rfl, ?_⟩; replace HB := Aside0.mk (below_step (by repeat (first | exact HB.out | apply below_alloc | apply pw_below_drewN | apply below_drew1)) hb); (try clear hb); (try clear hb2); (try clear hk); (try clear hi)))
  go_ret2
  exact ⟨by first | rfl | (simp [errW_none, errW_some] <;> rfl) | (simp [*, errW_none, errW_some] <;> rfl), by repeat (first | exact HB.out | apply below_alloc | apply pw_below_drewN | apply below_drew1)⟩

end Go.Proofs.Ytalpegglbfobiaa.G

namespace Go.Proofs.Ytalpegglbfobiaa.G
open Go.RowKit Go.Proofs.YtalpegglbfobiaaW.PrintWords Go.Proofs.YtalpegglbfobiaaW.PrintLast Go.Proofs.YtalpegglbfobiaaW.PrintMore
attribute [local go_sem] max2_int min2_int max_two min_two max_three min_three max_four min_four   -- for this text's walks alone
set_option linter.unusedVariables false
set_option linter.unusedSimpArgs false

def rewind_Backwards.f (k : Nat) (l0 : List (S44)) : Option (Bool × Int) := (iso_Length.f k l0).bind fun bt24001 => (if bt24001.2 = 0 then (if (l0.length : Int) = 0 then (some (false, 10)) else ((iso_At.f l0 0).bind fun bt24003 => ((iso_At.f l0 (wrap64 (bt24001.1 - 1))).bind fun bt24005 => (some (decide (bt24003.1 > bt24005.1), 0))))) else (some (false, bt24001.2)))
set_option maxHeartbeats 8000000 in
set_option maxRecDepth 100000 in
theorem rewind_Backwards.calls (k : Nat) (A0 : Option Addr) (c0 : Nat) (l0 : List (S44)) (r1 : Bool) (r2 : Int) (w : World) (hr0 : Kd.C k44 w A0 l0.length l0) (hc0 : l0.length ≤ c0) (h : rewind_Backwards.f k l0 = some (r1, r2)) :
  Calls Try.prog 23 #[.slice A0 l0.length c0] w fun e w' => e = .returned (.tuple #[.bool r1, .int .i64 r2]) ∧ Below w.heap.size w w' := by
 have HR0 := Aside0.mk hr0
 have HC0 := Aside0.mk hc0
 clear hr0 hc0
 have HB := Aside0.mk (Below.refl w.heap.size w)
 have H : ((iso_Length.f k l0).bind fun bt24001 => (if bt24001.2 = 0 then (if (l0.length : Int) = 0 then (some (false, 10)) else ((iso_At.f l0 0).bind fun bt24003 => ((iso_At.f l0 (wrap64 (bt24001.1 - 1))).bind fun bt24005 => (some (decide (bt24003.1 > bt24005.1), 0))))) else (some (false, bt24001.2)))) = some (r1, r2) := h
 clear h
 replace H := Option.bind_eq_some_iff.mp H
 obtain ⟨⟨t24001, t24002⟩, A20, H⟩ := H
 try dsimp only at H
 have A2 := Aside0.mk A20
 clear A20
 by_cases c3 : t24002 = 0
 ·rw [if_pos c3] at H
  have c3b0 : (t24002 == 0) = true := beq_iff_eq.mpr c3
  have c3b1 : (t24002 != 0) = false := bne_eq_false_iff_eq.mpr c3
  clear c3
  by_cases c4 : (l0.length : Int) = 0
  ·rw [if_pos c4] at H
   have c4b0 : ((l0.length : Int) == 0) = true := beq_iff_eq.mpr c4
   have c4b1 : ((l0.length : Int) != 0) = false := bne_eq_false_iff_eq.mpr c4
   clear c4
   simp only [Option.some.injEq, Prod.mk.injEq] at H
   obtain ⟨rfl, rfl⟩ := H
   go_enter Try.func23, Try.ntmps23
   go_wp2_with (first | ((with_reducible refine gate_callee (f := 43) rfl ?_); refine goesL_ (some 12) rfl rfl Try.func43 (by kernel_rfl) rfl #[.slice A0 l0.length c0] rfl (by (try simp only [List.map_toArray, List.map_cons, List.map_nil]); first | done | rfl | (simp only [List.length_drop, List.length_take]; rfl)) ?_; (with_reducible refine (iso_Length.calls k _ _ l0 t24001 t24002 _ ?side1 ?side2 A2.out).mono ?_); (case side1 => exact HR0.out); (case side2 => exact HC0.out); rintro e w5 ⟨rfl, hb⟩; refine ⟨_, rfl, ?_⟩; replace HB := Aside0.mk (below_step (by repeat (first | exact HB.out | apply below_alloc | apply pw_below_drewN | apply below_drew1)) hb); (try clear hb); (try clear hb2); (try clear hk); (try clear hi)))
   go_ret2
   exact ⟨by first | rfl | (simp [errW_none, errW_some] <;> rfl) | (simp [*, errW_none, errW_some] <;> rfl), by repeat (first | exact HB.out | apply below_alloc | apply pw_below_drewN | apply below_drew1)⟩
  ·rw [if_neg c4] at H
   have c4b0 : ((l0.length : Int) == 0) = false := beq_eq_false_iff_ne.mpr c4
   have c4b1 : ((l0.length : Int) != 0) = true := bne_iff_ne.mpr c4
   have c4b2 : ¬ (l0 = []) := fun h_ => c4 (by rw [h_]; rfl)
   replace H := Option.bind_eq_some_iff.mp H
   obtain ⟨⟨t24003, t24004⟩, A60, H⟩ := H
   try dsimp only at H
   have A6 := Aside0.mk A60
   clear A60
   replace H := Option.bind_eq_some_iff.mp H
   obtain ⟨⟨t24005, t24006⟩, A70, H⟩ := H
   try dsimp only at H
   have A7 := Aside0.mk A70
   clear A70
   simp only [Option.some.injEq, Prod.mk.injEq] at H
   obtain ⟨rfl, rfl⟩ := H
   go_enter Try.func23, Try.ntmps23
   go_wp2_with (first | ((with_reducible refine gate_callee (f := 43) rfl ?_); refine goesL_ (some 12) rfl rfl Try.func43 (by kernel_rfl) rfl #[.slice A0 l0.length c0] rfl (by (try simp only [List.map_toArray, List.map_cons, List.map_nil]); first | done | rfl | (simp only [List.length_drop, List.length_take]; rfl)) ?_; (with_reducible refine (iso_Length.calls k _ _ l0 t24001 t24002 _ ?side1 ?side2 A2.out).mono ?_); (case side1 => exact HR0.out); (case side2 => exact HC0.out); rintro e w8 ⟨rfl, hb⟩; refine ⟨_, rfl, ?_⟩; replace HB := Aside0.mk (below_step (by repeat (first | exact HB.out | apply below_alloc | apply pw_below_drewN | apply below_drew1)) hb); (try clear hb); (try clear hb2); (try clear hk); (try clear hi)) | ((with_reducible refine gate_callee (f := 44) rfl ?_); refine goesL_ (some 23) rfl rfl Try.func44 (by kernel_rfl) rfl #[.slice A0 l0.length c0, .int .i64 0] rfl (by (try simp only [List.map_toArray, List.map_cons, List.map_nil]); first | done | rfl | (simp only [List.length_drop, List.length_take]; rfl)) ?_; (with_reducible refine (iso_At.calls _ _ l0 0 t24003 t24004 _ ?side1 ?side2 A6.out).mono ?_); (case side1 => exact (Kd.C_below HR0.out HB.out)); (case side2 => exact HC0.out); rintro e w9 ⟨rfl, hb⟩; refine ⟨_, rfl, ?_⟩; replace HB := Aside0.mk (below_step (by repeat (first | exact HB.out | apply below_alloc | apply pw_below_drewN | apply below_drew1)) hb); (try clear hb); (try clear hb2); (try clear hk); (try clear hi)) | ((with_reducible refine gate_callee (f := 44) rfl ?_); refine goesL_ (some 30) rfl rfl Try.func44 (by kernel_rfl) rfl #[.slice A0 l0.length c0, .int .i64 (wrap64 (t24001 - 1))] rfl (by (try simp only [List.map_toArray, List.map_cons, List.map_nil]); first | done | rfl | (simp only [List.length_drop, List.length_take]; rfl)) ?_; (with_reducible refine (iso_At.calls _ _ l0 (wrap64 (t24001 - 1)) t24005 t24006 _ ?side1 ?side2 A7.out).mono ?_); (case side1 => exact (Kd.C_below HR0.out HB.out)); (case side2 => exact HC0.out); rintro e w10 ⟨rfl, hb⟩; refine ⟨_, rfl, ?_⟩; replace HB := Aside0.mk (below_step (by repeat (first | exact HB.out | apply below_alloc | apply pw_below_drewN | apply below_drew1)) hb); (try clear hb); (try clear hb2); (try clear hk); (try clear hi)))
   go_ret2
   exact ⟨by first | rfl | (simp [errW_none, errW_some] <;> rfl) | (simp [*, errW_none, errW_some] <;> rfl), by repeat (first | exact HB.out | apply below_alloc | apply pw_below_drewN | apply below_drew1)⟩
 ·rw [if_neg c3] at H
  have c3b0 : (t24002 == 0) = false := beq_eq_false_iff_ne.mpr c3
  have c3b1 : (t24002 != 0) = true := bne_iff_ne.mpr c3
  simp only [Option.some.injEq, Prod.mk.injEq] at H
  obtain ⟨rfl, rfl⟩ := H
  go_enter Try.func23, Try.ntmps23
  go_wp2_with (first | ((with_reducible refine gate_callee (f := 43) rfl ?_); refine goesL_ (some 12) rfl rfl Try.func43 (by kernel_rfl) rfl #[.slice A0 l0.length c0] rfl (by (try simp only [List.map_toArray, List.map_cons, List.map_nil]); first | done | rfl | (simp only [List.length_drop, List.length_take]; rfl)) ?_; (with_reducible refine (iso_Length.calls k _ _ l0 t24001 t24002 _ ?side1 ?side2 A2.out).mono ?_); (case side1 => exact HR0.out); (case side2 => exact HC0.out); rintro e w11 ⟨rfl, hb⟩; refine ⟨_, rfl, ?_⟩; replace HB := Aside0.mk (below_step (by repeat (first | exact HB.out | apply below_alloc | apply pw_below_drewN | apply below_drew1)) hb); (try clear hb); (try clear hb2); (try clear hk); (try clear hi)))
  go_ret2
  exact ⟨by first | rfl | (simp [errW_none, errW_some] <;> rfl) | (simp [*, errW_none, errW_some] <;> rfl), by repeat (first | exact HB.out | apply below_alloc | apply pw_below_drewN | apply below_drew1)⟩

end Go.Proofs.Ytalpegglbfobiaa.G

namespace Go.Proofs.Ytalpegglbfobiaa.G
open Go.RowKit Go.Proofs.YtalpegglbfobiaaW.PrintWords Go.Proofs.YtalpegglbfobiaaW.PrintLast Go.Proofs.YtalpegglbfobiaaW.PrintMore
attribute [local go_sem] max2_int min2_int max_two min_two max_three min_three max_four min_four   -- for this text's walks alone
set_option linter.unusedVariables false
set_option linter.unusedSimpArgs false

theorem eqA44 (d : Nat) (w : World) (x0 y0 : Int) (x1 y1 : Int) (x2 y2 : Bool) :
  (Op.equalIn (d + 2) 44 (.agg #[.int .i64 x0, .int .i64 x1, .bool x2]) (.agg #[.int .i64 y0, .int .i64 y1, .bool y2])).run Try.prog w = .ok (x0 == y0 && (x1 == y1 && (x2 == y2))) w := by
 refine eqA_of Try.underlying44 (by kernel_rfl) ?_
 refine eqf_cons (by rfl) (by go_simp; rfl) (by go_simp; rfl) (by go_simp) ?_
 refine eqf_cons (by rfl) (by go_simp; rfl) (by go_simp; rfl) (by go_simp) ?_
 exact eqf_last (by rfl) (by go_simp; rfl) (by go_simp; rfl) (by go_simp)
end Go.Proofs.Ytalpegglbfobiaa.G

namespace Go.Proofs.Ytalpegglbfobiaa.G
open Go.RowKit Go.Proofs.YtalpegglbfobiaaW.PrintWords Go.Proofs.YtalpegglbfobiaaW.PrintLast Go.Proofs.YtalpegglbfobiaaW.PrintMore
attribute [local go_sem] max2_int min2_int max_two min_two max_three min_three max_four min_four   -- for this text's walks alone
set_option linter.unusedVariables false
set_option linter.unusedSimpArgs false

attribute [local go_sem high] eqA44
def papermillref41_Same.l0 : Nat → List (S44) → List (S44) → Int → Option (Bool)
 | 0, _, _, _ => none
 | k + 1, x0, x1, x5 => if x5 < (x0.length : Int) then (if 0 ≤ x5 then (if x5 < (x1.length : Int) then (if (!(((rd_T44 x0 x5).f0) == ((rd_T44 x1 x5).f0)) || (!(((rd_T44 x0 x5).f1) == ((rd_T44 x1 x5).f1)) || (!(((rd_T44 x0 x5).f2) == ((rd_T44 x1 x5).f2))))) = true then (some false) else (papermillref41_Same.l0 k x0 x1 (wrap64 (x5 + 1)))) else (none)) else (none)) else (some true)
def papermillref41_Same.f (k : Nat) (l0 : List (S44)) (l1 : List (S44)) : Option (Bool) := if (l0.length : Int) = (l1.length : Int) then (papermillref41_Same.l0 k l0 l1 0) else (some false)
set_option maxHeartbeats 8000000 in
set_option maxRecDepth 100000 in
theorem papermillref41_Same.calls (k : Nat) (A0 : Option Addr) (c0 : Nat) (l0 : List (S44)) (A1 : Option Addr) (c1 : Nat) (l1 : List (S44)) (r : Bool) (w : World) (hr0 : Kd.C k44 w A0 l0.length l0) (hc0 : l0.length ≤ c0) (hr1 : Kd.C k44 w A1 l1.length l1) (hc1 : l1.length ≤ c1) (h : papermillref41_Same.f k l0 l1 = some r) :
  Calls Try.prog 13 #[.slice A0 l0.length c0, .slice A1 l1.length c1] w fun e w' => e = .returned (.bool r) ∧ Drawn0 w w' := by
 have hu44 := Try.underlying44
 have HR0 := Aside0.mk hr0
 have HC0 := Aside0.mk hc0
 clear hr0 hc0
 have HR1 := Aside0.mk hr1
 have HC1 := Aside0.mk hc1
 clear hr1 hc1
 have H : (if (l0.length : Int) = (l1.length : Int) then (papermillref41_Same.l0 k l0 l1 0) else (some false)) = some r := h
 clear h
 by_cases c3 : (l0.length : Int) = (l1.length : Int)
 ·rw [if_pos c3] at H
  have c3b0 : ((l0.length : Int) == (l1.length : Int)) = true := beq_iff_eq.mpr c3
  have c3b1 : ((l0.length : Int) != (l1.length : Int)) = false := bne_eq_false_iff_eq.mpr c3
  have c3b2 : (l0.length == l1.length) = true := by first | simpa using c3 | (simp at c3 ⊢; omega)
  clear c3
  have H' := Aside0.mk H
  clear H
  go_enter Try.func13, Try.ntmps13
  go_wp2
  repeat (go_quiet (fail); try go_wp2)
  go_loopg [5] k (fun kq v5 w' => ∃ (x5_1 : Int), v5 = .int .i64 x5_1 ∧ Aside0 (papermillref41_Same.l0 kq l0 l1 x5_1 = some r) ∧ Aside0 (kq ≤ k) ∧ Drawn0 w w')
  case atStart => exact ⟨(0), (by first | rfl | (simp; done) | (simp [*]; done)), H', ⟨Nat.le_refl _⟩, by repeat (first | exact Drawn0.refl _ | apply Drawn0.step)⟩
  case round =>
   clear H'
   try clear c1
   try clear p2
   try clear c3
   try clear c3b0
   try clear c3b1
   try clear c3b2
   obtain ⟨x5_1, rfl, HA, HK1, ⟨m1, rfl⟩⟩ := hrel
   cases gk with
   | zero => exact absurd HA.out (by simp [papermillref41_Same.l0])
   | succ k1 =>
    have H := HA.out
    clear HA
    simp only [papermillref41_Same.l0] at H
    by_cases c4 : x5_1 < (l0.length : Int)
    ·rw [if_pos c4] at H
     have c4b0 : decide (x5_1 < (l0.length : Int)) = true := decide_eq_true c4
     clear c4
     by_cases c5 : 0 ≤ x5_1
     ·rw [if_pos c5] at H
      have c5b0 : decide (0 ≤ x5_1) = true := decide_eq_true c5
      clear c5
      by_cases c6 : x5_1 < (l1.length : Int)
      ·rw [if_pos c6] at H
       have c6b0 : decide (x5_1 < (l1.length : Int)) = true := decide_eq_true c6
       clear c6
       by_cases c7 : (!(((rd_T44 l0 x5_1).f0) == ((rd_T44 l1 x5_1).f0)) || (!(((rd_T44 l0 x5_1).f1) == ((rd_T44 l1 x5_1).f1)) || (!(((rd_T44 l0 x5_1).f2) == ((rd_T44 l1 x5_1).f2))))) = true
       ·rw [if_pos c7] at H
        have c7b0 : (!(((rd_T44 l0 x5_1).f0) == ((rd_T44 l1 x5_1).f0)) || (!(((rd_T44 l0 x5_1).f1) == ((rd_T44 l1 x5_1).f1)) || (!(((rd_T44 l0 x5_1).f2) == ((rd_T44 l1 x5_1).f2))))) = true := c7
        clear c7
        obtain rfl := Option.some.inj H
        have p14001 : 0 ≤ (x5_1 : Int) := of_decide_eq_true (by assumption)
        have q14001 : x5_1 < (l0.length : Int) := of_decide_eq_true (by assumption)
        obtain ⟨ad14001, e14001, hx14001_0, hx14001_1, hx14001_2⟩ := at_T44 HR0.out x5_1 p14001 q14001
        cases e14001
        replace p14001 := eq_true p14001
        replace q14001 := eq_true q14001
        have p14002 : 0 ≤ (x5_1 : Int) := of_decide_eq_true (by assumption)
        have q14002 : x5_1 < (l1.length : Int) := of_decide_eq_true (by assumption)
        obtain ⟨ad14002, e14002, hx14002_0, hx14002_1, hx14002_2⟩ := at_T44 HR1.out x5_1 p14002 q14002
        cases e14002
        replace p14002 := eq_true p14002
        replace q14002 := eq_true q14002
        go_wp2
        repeat (go_quiet (fail); try go_wp2)
        go_ret
        exact ⟨by first | rfl | (simp; done) | (simp [*]; done), by repeat (first | exact Drawn0.refl _ | apply Drawn0.step)⟩
       ·rw [if_neg c7] at H
        have c7b0 : (!(((rd_T44 l0 x5_1).f0) == ((rd_T44 l1 x5_1).f0)) || (!(((rd_T44 l0 x5_1).f1) == ((rd_T44 l1 x5_1).f1)) || (!(((rd_T44 l0 x5_1).f2) == ((rd_T44 l1 x5_1).f2))))) = false := by simpa using c7
        clear c7
        have H' := Aside0.mk H
        clear H
        have p14001 : 0 ≤ (x5_1 : Int) := of_decide_eq_true (by assumption)
        have q14001 : x5_1 < (l0.length : Int) := of_decide_eq_true (by assumption)
        obtain ⟨ad14001, e14001, hx14001_0, hx14001_1, hx14001_2⟩ := at_T44 HR0.out x5_1 p14001 q14001
        cases e14001
        replace p14001 := eq_true p14001
        replace q14001 := eq_true q14001
        have p14002 : 0 ≤ (x5_1 : Int) := of_decide_eq_true (by assumption)
        have q14002 : x5_1 < (l1.length : Int) := of_decide_eq_true (by assumption)
        obtain ⟨ad14002, e14002, hx14002_0, hx14002_1, hx14002_2⟩ := at_T44 HR1.out x5_1 p14002 q14002
        cases e14002
        replace p14002 := eq_true p14002
        replace q14002 := eq_true q14002
        go_wp2
        repeat (go_quiet (fail); try go_wp2)
        go_roundg k1
        case measure => have := HK1.out; omega
        case rel => exact ⟨(wrap64 (x5_1 + 1)), (by first | rfl | (simp; done) | (simp [*]; done)), H', ⟨by have := HK1.out; omega⟩, by repeat (first | exact Drawn0.refl _ | apply Drawn0.step)⟩
      ·rw [if_neg c6] at H
       exact absurd H (by simp)
     ·rw [if_neg c5] at H
      exact absurd H (by simp)
    ·rw [if_neg c4] at H
     have c4b0 : decide (x5_1 < (l0.length : Int)) = false := decide_eq_false c4
     clear c4
     obtain rfl := Option.some.inj H
     go_wp2
     repeat (go_quiet (fail); try go_wp2)
     go_ret
     exact ⟨by first | rfl | (simp; done) | (simp [*]; done), by repeat (first | exact Drawn0.refl _ | apply Drawn0.step)⟩
 ·rw [if_neg c3] at H
  have c3b0 : ((l0.length : Int) == (l1.length : Int)) = false := beq_eq_false_iff_ne.mpr c3
  have c3b1 : ((l0.length : Int) != (l1.length : Int)) = true := bne_iff_ne.mpr c3
  have c3b2 : (l0.length == l1.length) = false := by first | simpa using c3 | (simp at c3 ⊢; omega)
  obtain rfl := Option.some.inj H
  go_enter Try.func13, Try.ntmps13
  go_wp2
  repeat (go_quiet (fail); try go_wp2)
  go_ret
  exact ⟨by first | rfl | (simp; done) | (simp [*]; done), by repeat (first | exact Drawn0.refl _ | apply Drawn0.step)⟩

end Go.Proofs.Ytalpegglbfobiaa.G

namespace Go.Proofs.Ytalpegglbfobiaa.G
open Go.RowKit Go.Proofs.YtalpegglbfobiaaW.PrintWords Go.Proofs.YtalpegglbfobiaaW.PrintLast Go.Proofs.YtalpegglbfobiaaW.PrintMore
attribute [local go_sem] max2_int min2_int max_two min_two max_three min_three max_four min_four   -- for this text's walks alone
set_option linter.unusedVariables false
set_option linter.unusedSimpArgs false

def papermilllaw41_same.l0 : Nat → List (List (S44)) → List (List (S44)) → Int → Option (Bool)
 | 0, _, _, _ => none
 | k + 1, x0, x1, x5 => if x5 < (x0.length : Int) then (if 0 ≤ x5 then (if x5 < (x1.length : Int) then ((papermillref41_Same.f k (rd_L6 x0 x5) (rd_L6 x1 x5)).bind fun t20003 => (if t20003 = true then (papermilllaw41_same.l0 k x0 x1 (wrap64 (x5 + 1))) else (some false))) else (none)) else (none)) else (some true)
def papermilllaw41_same.f (k : Nat) (l0 : List (List (S44))) (l1 : List (List (S44))) : Option (Bool) := if (l0.length : Int) = (l1.length : Int) then (papermilllaw41_same.l0 k l0 l1 0) else (some false)
set_option maxHeartbeats 8000000 in
set_option maxRecDepth 100000 in
theorem papermilllaw41_same.calls (k : Nat) (A0 : Option Addr) (c0 : Nat) (l0 : List (List (S44))) (A1 : Option Addr) (c1 : Nat) (l1 : List (List (S44))) (r : Bool) (w : World) (hr0 : Kd.C (Kd.slice 44 k44) w A0 l0.length l0) (hc0 : l0.length ≤ c0) (hr1 : Kd.C (Kd.slice 44 k44) w A1 l1.length l1) (hc1 : l1.length ≤ c1) (h : papermilllaw41_same.f k l0 l1 = some r) :
  Calls Try.prog 19 #[.slice A0 l0.length c0, .slice A1 l1.length c1] w fun e w' => e = .returned (.bool r) ∧ Drawn0 w w' := by
 have HR0 := Aside0.mk hr0
 have HC0 := Aside0.mk hc0
 clear hr0 hc0
 have HR1 := Aside0.mk hr1
 have HC1 := Aside0.mk hc1
 clear hr1 hc1
 have H : (if (l0.length : Int) = (l1.length : Int) then (papermilllaw41_same.l0 k l0 l1 0) else (some false)) = some r := h
 clear h
 by_cases c3 : (l0.length : Int) = (l1.length : Int)
 ·rw [if_pos c3] at H
  have c3b0 : ((l0.length : Int) == (l1.length : Int)) = true := beq_iff_eq.mpr c3
  have c3b1 : ((l0.length : Int) != (l1.length : Int)) = false := bne_eq_false_iff_eq.mpr c3
  have c3b2 : (l0.length == l1.length) = true := by first | simpa using c3 | (simp at c3 ⊢; omega)
  clear c3
  have H' := Aside0.mk H
  clear H
  go_enter Try.func19, Try.ntmps19
  go_wp2
  repeat (go_quiet (fail); try go_wp2)
  go_loopg [5] k (fun kq v5 w' => ∃ (x5_1 : Int), v5 = .int .i64 x5_1 ∧ Aside0 (papermilllaw41_same.l0 kq l0 l1 x5_1 = some r) ∧ Aside0 (kq ≤ k) ∧ Drawn0 w w')
  case atStart => exact ⟨(0), (by first | rfl | (simp; done) | (simp [*]; done)), H', ⟨Nat.le_refl _⟩, by repeat (first | exact Drawn0.refl _ | apply Drawn0.step)⟩
  case round =>
   clear H'
   try clear c1
   try clear p2
   try clear c3
   try clear c3b0
   try clear c3b1
   try clear c3b2
   obtain ⟨x5_1, rfl, HA, HK1, ⟨m1, rfl⟩⟩ := hrel
   cases gk with
   | zero => exact absurd HA.out (by simp [papermilllaw41_same.l0])
   | succ k1 =>
    have H := HA.out
    clear HA
    simp only [papermilllaw41_same.l0] at H
    by_cases c4 : x5_1 < (l0.length : Int)
    ·rw [if_pos c4] at H
     have c4b0 : decide (x5_1 < (l0.length : Int)) = true := decide_eq_true c4
     clear c4
     by_cases c5 : 0 ≤ x5_1
     ·rw [if_pos c5] at H
      have c5b0 : decide (0 ≤ x5_1) = true := decide_eq_true c5
      clear c5
      by_cases c6 : x5_1 < (l1.length : Int)
      ·rw [if_pos c6] at H
       have c6b0 : decide (x5_1 < (l1.length : Int)) = true := decide_eq_true c6
       clear c6
       replace H := Option.bind_eq_some_iff.mp H
       obtain ⟨t20003, A70, H⟩ := H
       have A7 := Aside0.mk A70
       clear A70
       by_cases c8 : t20003 = true
       ·subst c8
        rw [if_pos rfl] at H
        have H' := Aside0.mk H
        clear H
        have p20001 : 0 ≤ (x5_1 : Int) := of_decide_eq_true (by assumption)
        have q20001 : x5_1 < (l0.length : Int) := of_decide_eq_true (by assumption)
        obtain ⟨ad20001, A20001_0, c20001_0, e20001, hx20001_0, hl20001_0, hi20001_0⟩ := at_L6 HR0.out x5_1 p20001 q20001
        cases e20001
        have HR20001_0 := Aside0.mk hi20001_0
        have HC20001_0 := Aside0.mk hl20001_0
        clear hi20001_0 hl20001_0
        replace p20001 := eq_true p20001
        replace q20001 := eq_true q20001
        have p20002 : 0 ≤ (x5_1 : Int) := of_decide_eq_true (by assumption)
        have q20002 : x5_1 < (l1.length : Int) := of_decide_eq_true (by assumption)
        obtain ⟨ad20002, A20002_0, c20002_0, e20002, hx20002_0, hl20002_0, hi20002_0⟩ := at_L6 HR1.out x5_1 p20002 q20002
        cases e20002
        have HR20002_0 := Aside0.mk hi20002_0
        have HC20002_0 := Aside0.mk hl20002_0
        clear hi20002_0 hl20002_0
        replace p20002 := eq_true p20002
        replace q20002 := eq_true q20002
        go_wp2_with (first | (go_at_call 13; (with_reducible refine (papermillref41_Same.calls k1 _ _ (rd_L6 l0 x5_1) _ _ (rd_L6 l1 x5_1) true _ ?side1 ?side2 ?side3 ?side4 A7.out).mono ?_); (case side1 => exact HR20001_0.out); (case side2 => exact HC20001_0.out); (case side3 => exact HR20002_0.out); (case side4 => exact HC20002_0.out); rintro e w' ⟨rfl, ⟨nd, rfl⟩⟩; (try first | exact ⟨rfl, _, World.drewN_drewN _ _ _⟩ | exact ⟨rfl, _, Eq.trans (World.drewN_drewN _ _ _) (congrArg (World.drewN _) (Nat.add_assoc _ _ _))⟩)))
        repeat (go_quiet (first | (go_at_call 13; (with_reducible refine (papermillref41_Same.calls k1 _ _ (rd_L6 l0 x5_1) _ _ (rd_L6 l1 x5_1) true _ ?side1 ?side2 ?side3 ?side4 A7.out).mono ?_); (case side1 => exact HR20001_0.out); (case side2 => exact HC20001_0.out); (case side3 => exact HR20002_0.out); (case side4 => exact HC20002_0.out); rintro e w' ⟨rfl, ⟨nd, rfl⟩⟩; (try first | exact ⟨rfl, _, World.drewN_drewN _ _ _⟩ | exact ⟨rfl, _, Eq.trans (World.drewN_drewN _ _ _) (congrArg (World.drewN _) (Nat.add_assoc _ _ _))⟩))); try go_wp2_with (first | (go_at_call 13; (with_reducible refine (papermillref41_Same.calls k1 _ _ (rd_L6 l0 x5_1) _ _ (rd_L6 l1 x5_1) true _ ?side1 ?side2 ?side3 ?side4 A7.out).mono ?_); (case side1 => exact HR20001_0.out); (case side2 => exact HC20001_0.out); (case side3 => exact HR20002_0.out); (case side4 => exact HC20002_0.out); rintro e w' ⟨rfl, ⟨nd, rfl⟩⟩; (try first | exact ⟨rfl, _, World.drewN_drewN _ _ _⟩ | exact ⟨rfl, _, Eq.trans (World.drewN_drewN _ _ _) (congrArg (World.drewN _) (Nat.add_assoc _ _ _))⟩))))
        go_roundg k1
        case measure => have := HK1.out; omega
        case rel => exact ⟨(wrap64 (x5_1 + 1)), (by first | rfl | (simp; done) | (simp [*]; done)), H', ⟨by have := HK1.out; omega⟩, by repeat (first | exact Drawn0.refl _ | apply Drawn0.step)⟩
       ·replace c8 := Bool.eq_false_iff.mpr c8
        subst c8
        have H1 : (some false) = some r := by rw [if_neg (show ¬ (false = true) by decide)] at H; first | exact H | simpa using H
        clear H
        have H := H1
        clear H1
        obtain rfl := Option.some.inj H
        have p20001 : 0 ≤ (x5_1 : Int) := of_decide_eq_true (by assumption)
        have q20001 : x5_1 < (l0.length : Int) := of_decide_eq_true (by assumption)
        obtain ⟨ad20001, A20001_0, c20001_0, e20001, hx20001_0, hl20001_0, hi20001_0⟩ := at_L6 HR0.out x5_1 p20001 q20001
        cases e20001
        have HR20001_0 := Aside0.mk hi20001_0
        have HC20001_0 := Aside0.mk hl20001_0
        clear hi20001_0 hl20001_0
        replace p20001 := eq_true p20001
        replace q20001 := eq_true q20001
        have p20002 : 0 ≤ (x5_1 : Int) := of_decide_eq_true (by assumption)
        have q20002 : x5_1 < (l1.length : Int) := of_decide_eq_true (by assumption)
        obtain ⟨ad20002, A20002_0, c20002_0, e20002, hx20002_0, hl20002_0, hi20002_0⟩ := at_L6 HR1.out x5_1 p20002 q20002
        cases e20002
        have HR20002_0 := Aside0.mk hi20002_0
        have HC20002_0 := Aside0.mk hl20002_0
        clear hi20002_0 hl20002_0
        replace p20002 := eq_true p20002
        replace q20002 := eq_true q20002
        go_wp2_with (first | (go_at_call 13; (with_reducible refine (papermillref41_Same.calls k1 _ _ (rd_L6 l0 x5_1) _ _ (rd_L6 l1 x5_1) false _ ?side1 ?side2 ?side3 ?side4 A7.out).mono ?_); (case side1 => exact HR20001_0.out); (case side2 => exact HC20001_0.out); (case side3 => exact HR20002_0.out); (case side4 => exact HC20002_0.out); rintro e w' ⟨rfl, ⟨nd, rfl⟩⟩; (try first | exact ⟨rfl, _, World.drewN_drewN _ _ _⟩ | exact ⟨rfl, _, Eq.trans (World.drewN_drewN _ _ _) (congrArg (World.drewN _) (Nat.add_assoc _ _ _))⟩)))
        repeat (go_quiet (first | (go_at_call 13; (with_reducible refine (papermillref41_Same.calls k1 _ _ (rd_L6 l0 x5_1) _ _ (rd_L6 l1 x5_1) false _ ?side1 ?side2 ?side3 ?side4 A7.out).mono ?_); (case side1 => exact HR20001_0.out); (case side2 => exact HC20001_0.out); (case side3 => exact HR20002_0.out); (case side4 => exact HC20002_0.out); rintro e w' ⟨rfl, ⟨nd, rfl⟩⟩; (try first | exact ⟨rfl, _, World.drewN_drewN _ _ _⟩ | exact ⟨rfl, _, Eq.trans (World.drewN_drewN _ _ _) (congrArg (World.drewN _) (Nat.add_assoc _ _ _))⟩))); try go_wp2_with (first | (go_at_call 13; (with_reducible refine (papermillref41_Same.calls k1 _ _ (rd_L6 l0 x5_1) _ _ (rd_L6 l1 x5_1) false _ ?side1 ?side2 ?side3 ?side4 A7.out).mono ?_); (case side1 => exact HR20001_0.out); (case side2 => exact HC20001_0.out); (case side3 => exact HR20002_0.out); (case side4 => exact HC20002_0.out); rintro e w' ⟨rfl, ⟨nd, rfl⟩⟩; (try first | exact ⟨rfl, _, World.drewN_drewN _ _ _⟩ | exact ⟨rfl, _, Eq.trans (World.drewN_drewN _ _ _) (congrArg (World.drewN _) (Nat.add_assoc _ _ _))⟩))))
        go_ret
        exact ⟨by first | rfl | (simp; done) | (simp [*]; done), by repeat (first | exact Drawn0.refl _ | apply Drawn0.step)⟩
      ·rw [if_neg c6] at H
       exact absurd H (by simp)
     ·rw [if_neg c5] at H
      exact absurd H (by simp)
    ·rw [if_neg c4] at H
     have c4b0 : decide (x5_1 < (l0.length : Int)) = false := decide_eq_false c4
     clear c4
     obtain rfl := Option.some.inj H
     go_wp2
     repeat (go_quiet (fail); try go_wp2)
     go_ret
     exact ⟨by first | rfl | (simp; done) | (simp [*]; done), by repeat (first | exact Drawn0.refl _ | apply Drawn0.step)⟩
 ·rw [if_neg c3] at H
  have c3b0 : ((l0.length : Int) == (l1.length : Int)) = false := beq_eq_false_iff_ne.mpr c3
  have c3b1 : ((l0.length : Int) != (l1.length : Int)) = true := bne_iff_ne.mpr c3
  have c3b2 : (l0.length == l1.length) = false := by first | simpa using c3 | (simp at c3 ⊢; omega)
  obtain rfl := Option.some.inj H
  go_enter Try.func19, Try.ntmps19
  go_wp2
  repeat (go_quiet (fail); try go_wp2)
  go_ret
  exact ⟨by first | rfl | (simp; done) | (simp [*]; done), by repeat (first | exact Drawn0.refl _ | apply Drawn0.step)⟩

end Go.Proofs.Ytalpegglbfobiaa.G

namespace Go.Proofs.Ytalpegglbfobiaa.G
open Go.RowKit Go.Proofs.YtalpegglbfobiaaW.PrintWords Go.Proofs.YtalpegglbfobiaaW.PrintLast Go.Proofs.YtalpegglbfobiaaW.PrintMore
open Go.ChangeShapes Go.WideShapes Go.Deep
set_option linter.unusedVariables false
set_option linter.unusedSimpArgs false

theorem pick_list {α : Type} {Q : Nat → α → Prop} : ∀ (n : Nat), (∀ i, i < n → ∃ v, Q i v) → ∃ l : List α, l.length = n ∧ ∀ i v, l[i]? = some v → Q i v
 | 0, _ => ⟨[], rfl, fun i v h => by simp at h⟩
 | n + 1, h => by
  obtain ⟨l, hl, hv⟩ := pick_list n (fun i hi => h i (by omega))
  obtain ⟨v, hv1⟩ := h n (by omega)
  refine ⟨l ++ [v], by simp [hl], fun i u hu => ?_⟩
  rcases Nat.lt_or_ge i l.length with h1 | h1
  ·rw [List.getElem?_append_left h1] at hu; exact hv i u hu
  ·have e : i = l.length := by
    have := (List.getElem?_eq_some_iff.1 hu).1; simp at this; omega
   subst e
   have : v = u := by simpa using hu
   subst this
   rw [hl]; exact hv1
def Opens {α : Type} (P : Program) (d : Kd α) (t : TypeId) (Wf : α → Prop) : Prop :=
 ∀ {H : Type} (enc : TypeId × Value → H) (W : World) (fuel : Nat) (cs : List Value) (x : DataW H × List MemPlace), DataW.trod enc P W 0 (fun _ => true) true fuel t cs = some x → ∃ v : α, d.K W v cs ∧ Wf v
theorem Opens.int {P : Program} {t : TypeId} {k : IntKind} (ht : P.underlying t = some (.int k)) : Opens P (Kd.int k) t (fun n => (Lit.int k n).wf = true) :=
 fun enc W fuel cs x h => by obtain ⟨n, rfl, _, hw⟩ := DataW.trod_int ht h; exact ⟨n, rfl, hw⟩
theorem Opens.bool {P : Program} {t : TypeId} (ht : P.underlying t = some .bool) : Opens P Kd.bool t (fun _ => True) :=
 fun enc W fuel cs x h => by obtain ⟨n, rfl, _⟩ := DataW.trod_bool ht h; exact ⟨n, rfl, trivial⟩
theorem Opens.slice {α : Type} {P : Program} {t e : TypeId} {d : Kd α} {Wf : α → Prop} (ht : P.underlying t = some (.slice e)) (hC : P.cellsOf e = d.sz) (h : Opens P d e Wf) :
  Opens P (Kd.slice e d) t (fun l => l.length ≤ maxLen ∧ ∀ x ∈ l, Wf x) := by
 intro H enc W fuel cs x hx
 rcases open_slice ht hx with ⟨rfl, _⟩ | ⟨a, len, cap, m, n, D, Pl, rfl, _, hl, hm, hmm, _, hi⟩
 ·exact ⟨[], ⟨none, 0, rfl, Nat.le_refl _, rfl, by simp, fun h => absurd h (by simp)⟩, by simp, fun x h => by simp at h⟩
 ·have hml : len ≤ m := by rw [hmm]; simp only [if_true]; exact hl
  have key : ∀ i, i < len → ∃ v : α, (∃ c, c.length = d.sz ∧ d.K W v c ∧ ∀ q u, c[q]? = some u → W.cell? (a.add (i * d.sz + q)) = some u) ∧ Wf v := by
   intro i hil
   obtain ⟨cs', hc, ht'⟩ := hi i (by omega)
   rw [hC] at hc
   obtain ⟨_, hcl, hat⟩ := World.cells?_some hc
   obtain ⟨v, hK, hw⟩ := h enc W n cs' _ ht'
   refine ⟨v, ⟨cs', d.K_len hK, hK, fun q u hq => ?_⟩, hw⟩
   have hql : q < d.sz := by rw [← d.K_len hK]; exact (List.getElem?_eq_some_iff.1 hq).1
   have := hat q hql
   rw [← Go.Deep.add_add, this]; exact hq
  obtain ⟨l, rfl, hv⟩ := pick_list len key
  refine ⟨l, ⟨some a, cap, rfl, hl, rfl, by unfold maxLen at hm; omega, fun _ => ⟨a, rfl, fun j p hj => (hv j p hj).1⟩⟩, Nat.le_trans hl hm, fun x hx => ?_⟩
  obtain ⟨i, hi', rfl⟩ := List.getElem_of_mem hx
  exact (hv i _ (List.getElem?_eq_getElem hi')).2

def wf_55 (s : S55) : Prop := (Lit.int .i64 s.f0).wf = true ∧ (Lit.int .i64 s.f1).wf = true
theorem cells_55 : Try.prog.cellsOf 55 = 2 := by kernel_rfl
theorem cells1_3 : Try.prog.cellsOf 3 = 1 := by kernel_rfl
set_option maxRecDepth 100000 in
theorem opens_55 : Opens Try.prog k55 55 wf_55 := by
 intro H enc W fuel cs x h
 obtain ⟨xs, n, rfl, rfl, hlen, hxl, hf⟩ := DataW.trod_struct Try.underlying55 h
 rw [cells_55] at hlen
 match cs, hlen with
 | [c0, c1], _ =>
  match xs, hxl with
  | [y0, y1], _ =>
   have e0 : DataW.trod enc Try.prog W 0 (fun _ => true) true n 3 (([c0, c1].drop 0).take (Try.prog.cellsOf 3)) = some y0 := hf 0 _ rfl
   rw [cells1_3] at e0
   have e1 : DataW.trod enc Try.prog W 0 (fun _ => true) true n 3 (([c0, c1].drop 1).take (Try.prog.cellsOf 3)) = some y1 := hf 1 _ rfl
   rw [cells1_3] at e1
   obtain ⟨v0, q0, w0⟩ := (Opens.int Try.underlying3) enc W n [c0] y0 e0
   cases q0
   obtain ⟨v1, q1, w1⟩ := (Opens.int Try.underlying3) enc W n [c1] y1 e1
   cases q1
   exact ⟨⟨v0, v1⟩, k55_mk _ _, w0, w1⟩
def wf_44 (s : S44) : Prop := (Lit.int .i64 s.f0).wf = true ∧ (Lit.int .i64 s.f1).wf = true ∧ True
theorem cells_44 : Try.prog.cellsOf 44 = 3 := by kernel_rfl
theorem cells1_4 : Try.prog.cellsOf 4 = 1 := by kernel_rfl
set_option maxRecDepth 100000 in
theorem opens_44 : Opens Try.prog k44 44 wf_44 := by
 intro H enc W fuel cs x h
 obtain ⟨xs, n, rfl, rfl, hlen, hxl, hf⟩ := DataW.trod_struct Try.underlying44 h
 rw [cells_44] at hlen
 match cs, hlen with
 | [c0, c1, c2], _ =>
  match xs, hxl with
  | [y0, y1, y2], _ =>
   have e0 : DataW.trod enc Try.prog W 0 (fun _ => true) true n 3 (([c0, c1, c2].drop 0).take (Try.prog.cellsOf 3)) = some y0 := hf 0 _ rfl
   rw [cells1_3] at e0
   have e1 : DataW.trod enc Try.prog W 0 (fun _ => true) true n 3 (([c0, c1, c2].drop 1).take (Try.prog.cellsOf 3)) = some y1 := hf 1 _ rfl
   rw [cells1_3] at e1
   have e2 : DataW.trod enc Try.prog W 0 (fun _ => true) true n 4 (([c0, c1, c2].drop 2).take (Try.prog.cellsOf 4)) = some y2 := hf 2 _ rfl
   rw [cells1_4] at e2
   obtain ⟨v0, q0, w0⟩ := (Opens.int Try.underlying3) enc W n [c0] y0 e0
   cases q0
   obtain ⟨v1, q1, w1⟩ := (Opens.int Try.underlying3) enc W n [c1] y1 e1
   cases q1
   obtain ⟨v2, q2, w2⟩ := (Opens.bool Try.underlying4) enc W n [c2] y2 e2
   cases q2
   exact ⟨⟨v0, v1, v2⟩, k44_mk _ _, w0, w1, w2⟩
end Go.Proofs.Ytalpegglbfobiaa.G
