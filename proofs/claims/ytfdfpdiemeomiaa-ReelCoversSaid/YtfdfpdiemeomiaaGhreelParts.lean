-- HAND papermill/reel.Parts making=1 rounds=1 name=reel_Parts
import Derived.Test.YtfdfpdiemeomiaaGx0
import Derived.Test.YtfdfpdiemeomiaaGxreelCheck
import Derived.Test.YtfdfpdiemeomiaaGhreelPartsBase
namespace Go.Proofs.Ytfdfpdiemeomiaa.G
open Go.RowKit Go.Proofs.YtfdfpdiemeomiaaW.PrintWords Go.Proofs.YtfdfpdiemeomiaaW.PrintLast Go.Proofs.YtfdfpdiemeomiaaW.PrintMore
attribute [local go_sem] max2_int min2_int max_two min_two max_three min_three max_four min_four   -- for this text's walks alone
set_option linter.unusedVariables false
set_option linter.unusedSimpArgs false

set_option maxRecDepth 100000 in
set_option maxHeartbeats 8000000 in
theorem reel_parts_main (k : Nat) (A0 : Option Addr) (c0 : Nat) (l0 : List S44) (a b : Int) (w : World) (hr0 : Kd.C k44 w A0 l0.length l0) (hc0 : l0.length ≤ c0)
    (ht : reel_Check.f k l0 = some 0) (h1 : 0 ≤ a) (h2 : a ≤ b) (h4 : b ≤ endOf l0) (hlen : l0.length ≤ 512) :
    Calls Try.prog 20 #[.slice A0 l0.length c0, .agg #[.int .i64 a, .int .i64 b]] w fun e w' => ∃ v0_ : Value, e = .returned (.tuple #[v0_, .int .i64 0]) ∧ Kd.R k44 44 w' w.heap.size (fun _ => True) v0_ (partsOf a b l0) ∧ Below w.heap.size w w' := by
  have HR0 := Aside0.mk hr0
  have HC0 := Aside0.mk hc0
  have HT := Aside0.mk ht
  have b1 : decide (a < 0) = false := by simpa using h1
  have b2 : decide (b < a) = false := by simpa using h2
  have b4 : decide (endOf l0 < b) = false := by simpa using h4
  have hbx := Aside0.mk (World.alloc_heap_new w (.cells #[.int .i64 a, .int .i64 b] 36))
  have HB := Aside0.mk ((Below.refl w.heap.size w).alloc (Nat.le_refl _) (.cells #[.int .i64 a, .int .i64 b] 36))
  clear hr0 hc0 ht h1 h2 h4
  by_cases hl : l0.length = 0
  · have hl0 : l0.length ≤ 0 := by omega
    have hd : decide (0 < l0.length) = false := by rw [decide_eq_false_iff_not]; omega
    have b5 : decide (0 < b) = false := by simp only [endOf, if_pos hl] at b4; exact b4
    clear hl
    go_enter Try.func20, Try.ntmps20
    go_wp2_with (first | (go_at_call 15; refine (reel_Check.calls k _ _ l0 0 _ ?side1 HC0.out HT.out).mono ?_; (case side1 => exact Kd.C_below HR0.out HB.out); rintro e w1 ⟨rfl, hbw⟩; have HB1 := Aside0.mk (below_then HB.out HB.out.size hbw); have hb1 := Aside0.mk ((hbw.block _ (blk_lt hbx.out)).trans hbx.out); have hx0 := (blk_cell hb1.out 0); have hx1 := (blk_cell hb1.out 1); clear hbw))
    have hy0 : w1.cell? ⟨w.heap.size, 0, none⟩ = some (.int .i64 a) := hx0
    have hy1 : w1.cell? ⟨w.heap.size, 1, none⟩ = some (.int .i64 b) := hx1
    clear hx0 hx1
    go_loopw [8, 44] (fun v i wr => v = .slice none 0 0 ∧ i = .int .i64 0 ∧ Aside0 (Below w.heap.size w wr)) (fun _ _ _ => 0)
    case atStart => exact ⟨rfl, rfl, HB1⟩
    case round =>
      obtain ⟨rfl, rfl, HW⟩ := hrel
      have HE := Aside0.mk (show partsOf a b l0 = [] by have : l0 = [] := List.eq_nil_of_length_eq_zero (by omega); subst this; rfl)
      go_wp2
      go_ret2
      exact ⟨_, rfl, by rw [HE.out]; exact Kd.R_nil _ _ _ _ _, HW.out⟩
  · have hd : decide (0 < l0.length) = true := by rw [decide_eq_true_iff]; omega
    have b5 : decide ((rd_T44 l0 (l0.length - 1 : Nat)).f1 < b) = false := by simp only [endOf, if_neg hl] at b4; exact b4
    have hl1 : 1 ≤ l0.length := by omega
    have hl2 : l0.length - 1 < l0.length := by omega
    clear hl
    go_enter Try.func20, Try.ntmps20
    go_wp2_with (first | (go_at_call 15; refine (reel_Check.calls k _ _ l0 0 _ ?side1 HC0.out HT.out).mono ?_; (case side1 => exact Kd.C_below HR0.out HB.out); rintro e w1 ⟨rfl, hbw⟩; have HB1 := Aside0.mk (below_then HB.out HB.out.size hbw); have hb1 := Aside0.mk ((hbw.block _ (blk_lt hbx.out)).trans hbx.out); have hx0 := (blk_cell hb1.out 0); have hx1 := (blk_cell hb1.out 1); clear hbw; obtain ⟨ad, rfl, hz0, hz1, hz2, hz3, hz4⟩ := at_T44 (Kd.C_below HR0.out HB1.out) ((l0.length - 1 : Nat) : Int) (by omega) (by omega); simp only [Int.toNat_natCast] at hz0 hz1 hz2 hz3 hz4))
    have hy0 : w1.cell? ⟨w.heap.size, 0, none⟩ = some (.int .i64 a) := hx0
    have hy1 : w1.cell? ⟨w.heap.size, 1, none⟩ = some (.int .i64 b) := hx1
    clear hx0 hx1
    have HP := Aside0.mk (show PartsIn w.heap.size w.heap.size a b (.slice none 0 0) (partsOf a b (l0.take 0)) w w1 from ⟨Kd.R_nil _ _ _ _ _, hb1.out, HB1.out⟩)
    clear hb1 HB1 hy0 hy1 hbx HB
    go_loopw [8, 44] (fun v i wr => ∃ kk : Nat, i = .int .i64 kk ∧ Aside0 (kk ≤ l0.length) ∧ Aside0 (PartsIn w.heap.size w.heap.size a b v (partsOf a b (l0.take kk)) w wr))
      (fun _ i _ => l0.length - (intOf i).toNat)
    case atStart => exact ⟨0, rfl, ⟨Nat.zero_le _⟩, HP⟩
    case round =>
      obtain ⟨kk, rfl, HK, HI⟩ := hrel
      by_cases hk : kk < l0.length
      · have hk1 : (kk : Int) < (l0.length : Int) := by omega
        have hd0 : decide (kk < l0.length) = true := by simpa using hk
        obtain ⟨ad', e', hz0, hz1, hz2, hz3, hz4⟩ := at_T44 (Kd.C_below HR0.out HI.out.below) (kk : Int) (by omega) hk1
        cases e'
        simp only [Int.toNat_natCast] at hz0 hz1 hz2 hz3 hz4
        have hq0 : ∀ o, (wr.alloc o).cell? ⟨w.heap.size, 0, none⟩ = some (.int .i64 a) := fun o => blk_cell ((Below.heap_alloc wr o _ (blk_lt HI.out.bs)).trans HI.out.bs) 0
        have hq1 : ∀ o, (wr.alloc o).cell? ⟨w.heap.size, 1, none⟩ = some (.int .i64 b) := fun o => blk_cell ((Below.heap_alloc wr o _ (blk_lt HI.out.bs)).trans HI.out.bs) 1
        by_cases hc : (cutSec a b (rd_T44 l0 kk)).f0 < (cutSec a b (rd_T44 l0 kk)).f1
        · have hcb : decide (wrap64 (mx (rd_T44 l0 kk).f0 a - a) < wrap64 (mn (rd_T44 l0 kk).f1 b - a)) = true := by simpa [cutSec] using hc
          have HC := Aside0.mk hc
          clear hc
          obtain ⟨j1, hj1⟩ : ∃ j, (if (rd_T44 l0 kk).f0 < a then a else (rd_T44 l0 kk).f0) = j := ⟨_, rfl⟩
          obtain ⟨j2, hj2⟩ : ∃ j, (if b < (rd_T44 l0 kk).f1 then b else (rd_T44 l0 kk).f1) = j := ⟨_, rfl⟩
          rw [show mx (rd_T44 l0 kk).f0 a = j1 from hj1, show mn (rd_T44 l0 kk).f1 b = j2 from hj2] at hcb
          have HJ := Aside0.mk (show cutSec a b (rd_T44 l0 kk) = ⟨wrap64 (j1 - a), wrap64 (j2 - a), (rd_T44 l0 kk).f2, (rd_T44 l0 kk).f3, (rd_T44 l0 kk).f4⟩ by rw [← hj1, ← hj2]; rfl)
          obtain ⟨A7, c7, e7⟩ := Kd.R_slice HI.out.r
          subst e7
          have HKK := Aside0.mk hk
          have hne := Aside0.mk (fun e : w.heap.size = wr.heap.size => by have := blk_lt HI.out.bs; omega)
          have HX := Aside0.mk (PartsX.start HI.out HI.out.below.size #[.int .i64 (rd_T44 l0 kk).f0, .int .i64 (rd_T44 l0 kk).f1, .int .i64 (rd_T44 l0 kk).f2, .int .i64 (rd_T44 l0 kk).f3, .int .i64 (rd_T44 l0 kk).f4])
          have hpl := partsOf_len a b (l0.take kk)
          have HPL := Aside0.mk (show (partsOf a b (l0.take kk)).length ≤ 512 by simp at hpl; omega)
          clear hpl
          have hsn := Aside0.mk (partsOf_snoc a b l0 kk hk)
          go_wp2
          clear hz0 hz1 hz2 hz3 hz4 hk hk1 hd0 hq0 hq1
          generalize hgb : wr.heap.size = gb at HX hne ⊢
          generalize wr.alloc _ = wz at HX ⊢
          have HNE := Aside0.mk HX.out.ne
          have HBZ := Aside0.mk HX.out.bx
          refine start_ (n := 20) (S := fun w' => w'.cell? ⟨gb, 1, none⟩ = some (.int .i64 (rd_T44 l0 kk).f1) ∧ w'.cell? ⟨w.heap.size, 0, none⟩ = some (.int .i64 a) ∧ w'.cell? ⟨w.heap.size, 1, none⟩ = some (.int .i64 b)) (ds := [19]) #[false, false, false, false, false, false, false, false, false, false, false, false, false, false, false, false, false, false, false, false] (by kernel_rfl) rfl rfl ⟨(blk_cell HBZ.out 1).trans rfl, (blk_cell HX.out.bs 0).trans rfl, (blk_cell HX.out.bs 1).trans rfl⟩ (fun hHeld => ?_)
          have hval2_ : wz.drew.cell? ⟨gb, 0, none⟩ = some (.int .i64 (rd_T44 l0 kk).f0) := (blk_cell HBZ.out 0).trans rfl
          generalize hwy : wz.drew = wy at hval2_ hHeld ⊢
          replace HX := Aside0.mk (hwy ▸ HX.out.drew)
          replace HBZ := Aside0.mk HX.out.bx
          clear hwy
          refine pure_ (i := 0) (N := some 48) (v := ?_) (a' := ?_) #[true, false, false, false, false, false, false, false, false, false, false, false, false, false, false, false, false, false, false, false] rfl rfl (by kernel_rfl) (fun _ _ _ h => h) (Or.inl ⟨by rfl, ?_⟩) ?_ ?_
          rotate_left
          · intro w'
            go_simp
            with_reducible rfl
          rotate_left
          · simp only [Act.put, List.setIfInBounds_toArray, List.set_cons_zero, List.set_cons_succ, i64_w, i32_w]
            rfl
          refine pure_ (i := 2) (N := some 50) (v := ?_) (a' := ?_) #[true, false, true, false, false, false, false, false, false, false, false, false, false, false, false, false, false, false, false, false] rfl rfl (by kernel_rfl) (fun _ _ _ h => h) (Or.inl ⟨by rfl, ?_⟩) ?_ ?_
          rotate_left
          · intro w'
            go_simp
            with_reducible rfl
          rotate_left
          · simp only [Act.put, List.setIfInBounds_toArray, List.set_cons_zero, List.set_cons_succ, i64_w, i32_w]
            rfl
          refine pure_ (i := 5) (N := some 53) (v := ?_) (a' := ?_) #[true, false, true, false, false, true, false, false, false, false, false, false, false, false, false, false, false, false, false, false] rfl rfl (by kernel_rfl) (fun _ _ _ h => h) (Or.inl ⟨by rfl, ?_⟩) ?_ ?_
          rotate_left
          · intro w'
            go_simp
            with_reducible rfl
          rotate_left
          · simp only [Act.put, List.setIfInBounds_toArray, List.set_cons_zero, List.set_cons_succ, i64_w, i32_w]
            rfl
          refine pure_ (i := 8) (N := some 56) (v := ?_) (a' := ?_) #[true, false, true, false, false, true, false, false, true, false, false, false, false, false, false, false, false, false, false, false] rfl rfl (by kernel_rfl) (fun _ _ _ h => h) (Or.inl ⟨by rfl, ?_⟩) ?_ ?_
          rotate_left
          · intro w'
            go_simp
            with_reducible rfl
          rotate_left
          · simp only [Act.put, List.setIfInBounds_toArray, List.set_cons_zero, List.set_cons_succ, i64_w, i32_w]
            rfl
          refine pure_ (i := 10) (N := some 58) (v := ?_) (a' := ?_) #[true, false, true, false, false, true, false, false, true, false, true, false, false, false, false, false, false, false, false, false] rfl rfl (by kernel_rfl) (fun _ _ _ h => h) (Or.inl ⟨by rfl, ?_⟩) ?_ ?_
          rotate_left
          · intro w'
            go_simp
            with_reducible rfl
          rotate_left
          · simp only [Act.put, List.setIfInBounds_toArray, List.set_cons_zero, List.set_cons_succ, i64_w, i32_w]
            rfl
          refine pure_ (i := 13) (N := some 61) (v := ?_) (a' := ?_) #[true, false, true, false, false, true, false, false, true, false, true, false, false, true, false, false, false, false, false, false] rfl rfl (by kernel_rfl) (fun _ _ _ h => h) (Or.inl ⟨by rfl, ?_⟩) ?_ ?_
          rotate_left
          · intro w'
            go_simp
            with_reducible rfl
          rotate_left
          · simp only [Act.put, List.setIfInBounds_toArray, List.set_cons_zero, List.set_cons_succ, i64_w, i32_w]
            rfl
          refine take_ (i := 3) (N := some 51) (v := ?_) (a' := ?_) #[true, false, true, true, false, true, false, false, true, false, true, false, false, true, false, false, false, false, false, false] rfl rfl (by kernel_rfl) (fun _ _ _ h => h) (Or.inl ⟨by rfl, ?_⟩) hHeld ?_ ?_
          rotate_left
          · rintro w' ⟨s0, s1, s2⟩
            go_simp
            with_reducible rfl
          rotate_left
          · simp only [Act.put, List.setIfInBounds_toArray, List.set_cons_zero, List.set_cons_succ, i64_w, i32_w]
            rfl
          refine take_ (i := 6) (N := some 54) (v := ?_) (a' := ?_) #[true, false, true, true, false, true, true, false, true, false, true, false, false, true, false, false, false, false, false, false] rfl rfl (by kernel_rfl) (fun _ _ _ h => h) (Or.inl ⟨by rfl, ?_⟩) hHeld ?_ ?_
          rotate_left
          · rintro w' ⟨s0, s1, s2⟩
            go_simp
            with_reducible rfl
          rotate_left
          · simp only [Act.put, List.setIfInBounds_toArray, List.set_cons_zero, List.set_cons_succ, i64_w, i32_w]
            rfl
          refine take_ (i := 9) (N := some 57) (v := ?_) (a' := ?_) #[true, false, true, true, false, true, true, false, true, true, true, false, false, true, false, false, false, false, false, false] rfl rfl (by kernel_rfl) (fun _ _ _ h => h) (Or.inl ⟨by rfl, ?_⟩) hHeld ?_ ?_
          rotate_left
          · rintro w' ⟨s0, s1, s2⟩
            go_simp
            with_reducible rfl
          rotate_left
          · simp only [Act.put, List.setIfInBounds_toArray, List.set_cons_zero, List.set_cons_succ, i64_w, i32_w]
            rfl
          refine take_ (i := 11) (N := some 59) (v := ?_) (a' := ?_) #[true, false, true, true, false, true, true, false, true, true, true, true, false, true, false, false, false, false, false, false] rfl rfl (by kernel_rfl) (fun _ _ _ h => h) (Or.inl ⟨by rfl, ?_⟩) hHeld ?_ ?_
          rotate_left
          · rintro w' ⟨s0, s1, s2⟩
            go_simp
            with_reducible rfl
          rotate_left
          · simp only [Act.put, List.setIfInBounds_toArray, List.set_cons_zero, List.set_cons_succ, i64_w, i32_w]
            rfl
          refine pure_ (i := 12) (N := some 60) (v := ?_) (a' := ?_) #[true, false, true, true, false, true, true, false, true, true, true, true, true, true, false, false, false, false, false, false] rfl rfl (by kernel_rfl) (fun _ _ _ h => h) (Or.inl ⟨by rfl, ?_⟩) ?_ ?_
          rotate_left
          · intro w'
            go_simp
            with_reducible rfl
          rotate_left
          · simp only [Act.put, List.setIfInBounds_toArray, List.set_cons_zero, List.set_cons_succ, i64_w, i32_w]
            rfl
          refine take_ (i := 14) (N := some 62) (v := ?_) (a' := ?_) #[true, false, true, true, false, true, true, false, true, true, true, true, true, true, true, false, false, false, false, false] rfl rfl (by kernel_rfl) (fun _ _ _ h => h) (Or.inl ⟨by rfl, ?_⟩) hHeld ?_ ?_
          rotate_left
          · rintro w' ⟨s0, s1, s2⟩
            go_simp
            with_reducible rfl
          rotate_left
          · simp only [Act.put, List.setIfInBounds_toArray, List.set_cons_zero, List.set_cons_succ, i64_w, i32_w]
            rfl
          refine pure_ (i := 15) (N := some 63) (v := ?_) (a' := ?_) #[true, false, true, true, false, true, true, false, true, true, true, true, true, true, true, true, false, false, false, false] rfl rfl (by kernel_rfl) (fun _ _ _ h => h) (Or.inl ⟨by rfl, ?_⟩) ?_ ?_
          rotate_left
          · intro w'
            go_simp
            with_reducible rfl
          rotate_left
          · simp only [Act.put, List.setIfInBounds_toArray, List.set_cons_zero, List.set_cons_succ, i64_w, i32_w]
            rfl
          refine one_ (i := 1) (N := some 49) #[true, true, true, true, false, true, true, false, true, true, true, true, true, true, true, true, false, false, false, false] rfl rfl (by kernel_rfl) (by decide) (fun K hK => ?_)
          refine value_ (w1 := ?_) (v := ?_) (by rfl) rfl ?_ ?_
          rotate_left 2
          · go_simp
            constructor
            · rfl
            · rfl
          refine hK.out _ _ ⟨hHeld.1, hHeld.2.1, hHeld.2.2⟩ (fun hHeld => ?_)
          clear hK K
          refine norm_ (a' := ?_) ?_ ?_
          rotate_left
          · show Act.put _ (some 49) _ = _
            simp only [Act.put, List.setIfInBounds_toArray, List.set_cons_zero, List.set_cons_succ, i64_w, i32_w]
            rfl
          refine pure_ (i := 4) (N := some 52) (v := ?_) (a' := ?_) #[true, true, true, true, true, true, true, false, true, true, true, true, true, true, true, true, false, false, false, false] rfl rfl (by kernel_rfl) (fun _ _ _ h => h) (Or.inl ⟨by rfl, ?_⟩) ?_ ?_
          rotate_left
          · intro w'
            go_simp
            with_reducible rfl
          rotate_left
          · simp only [Act.put, List.setIfInBounds_toArray, List.set_cons_zero, List.set_cons_succ, i64_w, i32_w]
            rfl
          refine pure_ (i := 7) (N := some 55) (v := ?_) (a' := ?_) #[true, true, true, true, true, true, true, true, true, true, true, true, true, true, true, true, false, false, false, false] rfl rfl (by kernel_rfl) (fun _ _ _ h => h) (Or.inl ⟨by rfl, ?_⟩) ?_ ?_
          rotate_left
          · intro w'
            go_simp
            with_reducible rfl
          rotate_left
          · simp only [Act.put, List.setIfInBounds_toArray, List.set_cons_zero, List.set_cons_succ, i64_w, i32_w]
            rfl
          refine pure_ (i := 16) (N := some 64) (v := ?_) (a' := ?_) #[true, true, true, true, true, true, true, true, true, true, true, true, true, true, true, true, true, false, false, false] rfl rfl (by kernel_rfl) (fun _ _ _ h => h) (Or.inl ⟨by rfl, ?_⟩) ?_ ?_
          rotate_left
          · intro w'
            go_simp
            with_reducible rfl
          rotate_left
          · simp only [Act.put, List.setIfInBounds_toArray, List.set_cons_zero, List.set_cons_succ, i64_w, i32_w]
            rfl
          refine one_ (i := 17) (N := none) #[true, true, true, true, true, true, true, true, true, true, true, true, true, true, true, true, true, true, false, false] rfl rfl (by kernel_rfl) (by decide) (fun K hK => ?_)
          have hs_ := (blk_cell HBZ.out 0)
          have hf_ := blk_frozen HBZ.out 0
          refine skip_ (w1 := ?_) (by rfl) rfl ?_ ?_
          rotate_left
          · go_simp
            rfl
          refine hK.out _ _ ⟨((World.cell?_setCell_other _ _ _ _ (by simp)).trans hHeld.1), ((World.cell?_setCell_other _ _ _ _ (by intro e; cases e; exact HNE.out rfl)).trans hHeld.2.1), ((World.cell?_setCell_other _ _ _ _ (by intro e; cases e)).trans hHeld.2.2)⟩ (fun hHeld => ?_)
          clear hK K
          refine pure_ (i := 18) (N := some 65) (v := ?_) (a' := ?_) #[true, true, true, true, true, true, true, true, true, true, true, true, true, true, true, true, true, true, true, false] rfl rfl (by kernel_rfl) (fun _ _ _ h => h) (Or.inl ⟨by rfl, ?_⟩) ?_ ?_
          rotate_left
          · intro w'
            go_simp
            with_reducible rfl
          rotate_left
          · simp only [Act.put, List.setIfInBounds_toArray, List.set_cons_zero, List.set_cons_succ, i64_w, i32_w]
            rfl
          refine last_ (i := 19) (N := none) #[true, true, true, true, true, true, true, true, true, true, true, true, true, true, true, true, true, true, true, true] rfl rfl (by kernel_rfl) (by decide) (fun K hK => ?_)
          have hs_ := hHeld.1
          have hf_ : ∀ u, (wy.setCell ⟨gb, 0, none⟩ u).frozen? ⟨gb, 1, none⟩ = false := fun u => blk_frozen (blk_set HBZ.out 0 u) 1
          refine skip_ (w1 := ?_) (by rfl) rfl ?_ ?_
          rotate_left
          · go_simp
            rfl
          refine hK.out _ _ ?_
          clear hK K
          refine done_ (by kernel_rfl) ?_
          have HX2 := Aside0.mk ((HX.out.set 0 (.int .i64 (wrap64 (j1 - a)))).set 1 (.int .i64 (wrap64 (j2 - a))))
          generalize hwq : (wy.setCell _ _).setCell _ _ = wq at HX2 ⊢
          have q0 : wq.cell? ⟨gb, 0, none⟩ = some (.int .i64 (wrap64 (j1 - a))) := (blk_cell HX2.out.bx 0).trans rfl
          have q1 : wq.cell? ⟨gb, 1, none⟩ = some (.int .i64 (wrap64 (j2 - a))) := (blk_cell HX2.out.bx 1).trans rfl
          have q2 : wq.cell? ⟨gb, 2, none⟩ = some (.int .i64 (rd_T44 l0 kk).f2) := (blk_cell HX2.out.bx 2).trans rfl
          have q3 : wq.cell? ⟨gb, 3, none⟩ = some (.int .i64 (rd_T44 l0 kk).f3) := (blk_cell HX2.out.bx 3).trans rfl
          have q4 : wq.cell? ⟨gb, 4, none⟩ = some (.int .i64 (rd_T44 l0 kk).f4) := (blk_cell HX2.out.bx 4).trans rfl
          have HI3 := Aside0.mk HX2.out.toIn
          clear HX HX2 HNE HBZ hne hwq hval2_ hHeld
          have hk := HKK.out
          go_wp2_with (at_builtin; refine Kd.R_append k44 (w0 := wq) w.heap.size rfl (.tmp 71) (.tmp 73) 22 44 (.agg #[.int .i64 0, .int .i64 0, .int .i64 0, .int .i64 0, .int .i64 0]) 40 rfl Try.underlying22 info44 (by decide) (by decide) (by decide) (.slice A7 (partsOf a b (l0.take kk)).length c7) (partsOf a b (l0.take kk)) ⟨wrap64 (j1 - a), wrap64 (j2 - a), (rd_T44 l0 kk).f2, (rd_T44 l0 kk).f3, (rd_T44 l0 kk).f4⟩ [.int .i64 (wrap64 (j1 - a)), .int .i64 (wrap64 (j2 - a)), .int .i64 (rd_T44 l0 kk).f2, .int .i64 (rd_T44 l0 kk).f3, .int .i64 (rd_T44 l0 kk).f4] (fun _ => True) (fun _ => False) rfl rfl (k44_mkM _ _ _ _) (fun _ h => h.elim) (fun _ _ => trivial) HI3.out.r (Below.refl _ _) HI3.out.below.size (by have := HPL.out; omega) ?_; intro v' w2 hr2 hb2 hg2 hat2; have HI2 := Aside0.mk (HI3.out.grow hr2 hb2 hg2); clear hr2 hb2 hg2 hat2)
          go_roundw
          case rel =>
            refine ⟨kk + 1, by go_num, ⟨by omega⟩, ⟨?_⟩⟩
            rw [hsn.out, if_pos HC.out, HJ.out]
            exact HI2.out
          case measure => simp [intOf]; omega
        · have hcb : decide (wrap64 (mx (rd_T44 l0 kk).f0 a - a) < wrap64 (mn (rd_T44 l0 kk).f1 b - a)) = false := by simpa [cutSec] using hc
          have HC := Aside0.mk hc
          clear hc
          obtain ⟨j1, hj1⟩ : ∃ j, (if (rd_T44 l0 kk).f0 < a then a else (rd_T44 l0 kk).f0) = j := ⟨_, rfl⟩
          obtain ⟨j2, hj2⟩ : ∃ j, (if b < (rd_T44 l0 kk).f1 then b else (rd_T44 l0 kk).f1) = j := ⟨_, rfl⟩
          rw [show mx (rd_T44 l0 kk).f0 a = j1 from hj1, show mn (rd_T44 l0 kk).f1 b = j2 from hj2] at hcb
          have HKK := Aside0.mk hk
          have hne := Aside0.mk (fun e : w.heap.size = wr.heap.size => by have := blk_lt HI.out.bs; omega)
          have HX := Aside0.mk (PartsX.start HI.out HI.out.below.size #[.int .i64 (rd_T44 l0 kk).f0, .int .i64 (rd_T44 l0 kk).f1, .int .i64 (rd_T44 l0 kk).f2, .int .i64 (rd_T44 l0 kk).f3, .int .i64 (rd_T44 l0 kk).f4])
          have hsn := Aside0.mk (partsOf_snoc a b l0 kk hk)
          go_wp2
          clear hz0 hz1 hz2 hz3 hz4 hk hk1 hd0 hq0 hq1
          generalize hgb : wr.heap.size = gb at HX hne ⊢
          generalize wr.alloc _ = wz at HX ⊢
          have HNE := Aside0.mk HX.out.ne
          have HBZ := Aside0.mk HX.out.bx
          refine start_ (n := 20) (S := fun w' => w'.cell? ⟨gb, 1, none⟩ = some (.int .i64 (rd_T44 l0 kk).f1) ∧ w'.cell? ⟨w.heap.size, 0, none⟩ = some (.int .i64 a) ∧ w'.cell? ⟨w.heap.size, 1, none⟩ = some (.int .i64 b)) (ds := [19]) #[false, false, false, false, false, false, false, false, false, false, false, false, false, false, false, false, false, false, false, false] (by kernel_rfl) rfl rfl ⟨(blk_cell HBZ.out 1).trans rfl, (blk_cell HX.out.bs 0).trans rfl, (blk_cell HX.out.bs 1).trans rfl⟩ (fun hHeld => ?_)
          have hval2_ : wz.drew.cell? ⟨gb, 0, none⟩ = some (.int .i64 (rd_T44 l0 kk).f0) := (blk_cell HBZ.out 0).trans rfl
          generalize hwy : wz.drew = wy at hval2_ hHeld ⊢
          replace HX := Aside0.mk (hwy ▸ HX.out.drew)
          replace HBZ := Aside0.mk HX.out.bx
          clear hwy
          refine pure_ (i := 0) (N := some 48) (v := ?_) (a' := ?_) #[true, false, false, false, false, false, false, false, false, false, false, false, false, false, false, false, false, false, false, false] rfl rfl (by kernel_rfl) (fun _ _ _ h => h) (Or.inl ⟨by rfl, ?_⟩) ?_ ?_
          rotate_left
          · intro w'
            go_simp
            with_reducible rfl
          rotate_left
          · simp only [Act.put, List.setIfInBounds_toArray, List.set_cons_zero, List.set_cons_succ, i64_w, i32_w]
            rfl
          refine pure_ (i := 2) (N := some 50) (v := ?_) (a' := ?_) #[true, false, true, false, false, false, false, false, false, false, false, false, false, false, false, false, false, false, false, false] rfl rfl (by kernel_rfl) (fun _ _ _ h => h) (Or.inl ⟨by rfl, ?_⟩) ?_ ?_
          rotate_left
          · intro w'
            go_simp
            with_reducible rfl
          rotate_left
          · simp only [Act.put, List.setIfInBounds_toArray, List.set_cons_zero, List.set_cons_succ, i64_w, i32_w]
            rfl
          refine pure_ (i := 5) (N := some 53) (v := ?_) (a' := ?_) #[true, false, true, false, false, true, false, false, false, false, false, false, false, false, false, false, false, false, false, false] rfl rfl (by kernel_rfl) (fun _ _ _ h => h) (Or.inl ⟨by rfl, ?_⟩) ?_ ?_
          rotate_left
          · intro w'
            go_simp
            with_reducible rfl
          rotate_left
          · simp only [Act.put, List.setIfInBounds_toArray, List.set_cons_zero, List.set_cons_succ, i64_w, i32_w]
            rfl
          refine pure_ (i := 8) (N := some 56) (v := ?_) (a' := ?_) #[true, false, true, false, false, true, false, false, true, false, false, false, false, false, false, false, false, false, false, false] rfl rfl (by kernel_rfl) (fun _ _ _ h => h) (Or.inl ⟨by rfl, ?_⟩) ?_ ?_
          rotate_left
          · intro w'
            go_simp
            with_reducible rfl
          rotate_left
          · simp only [Act.put, List.setIfInBounds_toArray, List.set_cons_zero, List.set_cons_succ, i64_w, i32_w]
            rfl
          refine pure_ (i := 10) (N := some 58) (v := ?_) (a' := ?_) #[true, false, true, false, false, true, false, false, true, false, true, false, false, false, false, false, false, false, false, false] rfl rfl (by kernel_rfl) (fun _ _ _ h => h) (Or.inl ⟨by rfl, ?_⟩) ?_ ?_
          rotate_left
          · intro w'
            go_simp
            with_reducible rfl
          rotate_left
          · simp only [Act.put, List.setIfInBounds_toArray, List.set_cons_zero, List.set_cons_succ, i64_w, i32_w]
            rfl
          refine pure_ (i := 13) (N := some 61) (v := ?_) (a' := ?_) #[true, false, true, false, false, true, false, false, true, false, true, false, false, true, false, false, false, false, false, false] rfl rfl (by kernel_rfl) (fun _ _ _ h => h) (Or.inl ⟨by rfl, ?_⟩) ?_ ?_
          rotate_left
          · intro w'
            go_simp
            with_reducible rfl
          rotate_left
          · simp only [Act.put, List.setIfInBounds_toArray, List.set_cons_zero, List.set_cons_succ, i64_w, i32_w]
            rfl
          refine take_ (i := 3) (N := some 51) (v := ?_) (a' := ?_) #[true, false, true, true, false, true, false, false, true, false, true, false, false, true, false, false, false, false, false, false] rfl rfl (by kernel_rfl) (fun _ _ _ h => h) (Or.inl ⟨by rfl, ?_⟩) hHeld ?_ ?_
          rotate_left
          · rintro w' ⟨s0, s1, s2⟩
            go_simp
            with_reducible rfl
          rotate_left
          · simp only [Act.put, List.setIfInBounds_toArray, List.set_cons_zero, List.set_cons_succ, i64_w, i32_w]
            rfl
          refine take_ (i := 6) (N := some 54) (v := ?_) (a' := ?_) #[true, false, true, true, false, true, true, false, true, false, true, false, false, true, false, false, false, false, false, false] rfl rfl (by kernel_rfl) (fun _ _ _ h => h) (Or.inl ⟨by rfl, ?_⟩) hHeld ?_ ?_
          rotate_left
          · rintro w' ⟨s0, s1, s2⟩
            go_simp
            with_reducible rfl
          rotate_left
          · simp only [Act.put, List.setIfInBounds_toArray, List.set_cons_zero, List.set_cons_succ, i64_w, i32_w]
            rfl
          refine take_ (i := 9) (N := some 57) (v := ?_) (a' := ?_) #[true, false, true, true, false, true, true, false, true, true, true, false, false, true, false, false, false, false, false, false] rfl rfl (by kernel_rfl) (fun _ _ _ h => h) (Or.inl ⟨by rfl, ?_⟩) hHeld ?_ ?_
          rotate_left
          · rintro w' ⟨s0, s1, s2⟩
            go_simp
            with_reducible rfl
          rotate_left
          · simp only [Act.put, List.setIfInBounds_toArray, List.set_cons_zero, List.set_cons_succ, i64_w, i32_w]
            rfl
          refine take_ (i := 11) (N := some 59) (v := ?_) (a' := ?_) #[true, false, true, true, false, true, true, false, true, true, true, true, false, true, false, false, false, false, false, false] rfl rfl (by kernel_rfl) (fun _ _ _ h => h) (Or.inl ⟨by rfl, ?_⟩) hHeld ?_ ?_
          rotate_left
          · rintro w' ⟨s0, s1, s2⟩
            go_simp
            with_reducible rfl
          rotate_left
          · simp only [Act.put, List.setIfInBounds_toArray, List.set_cons_zero, List.set_cons_succ, i64_w, i32_w]
            rfl
          refine pure_ (i := 12) (N := some 60) (v := ?_) (a' := ?_) #[true, false, true, true, false, true, true, false, true, true, true, true, true, true, false, false, false, false, false, false] rfl rfl (by kernel_rfl) (fun _ _ _ h => h) (Or.inl ⟨by rfl, ?_⟩) ?_ ?_
          rotate_left
          · intro w'
            go_simp
            with_reducible rfl
          rotate_left
          · simp only [Act.put, List.setIfInBounds_toArray, List.set_cons_zero, List.set_cons_succ, i64_w, i32_w]
            rfl
          refine take_ (i := 14) (N := some 62) (v := ?_) (a' := ?_) #[true, false, true, true, false, true, true, false, true, true, true, true, true, true, true, false, false, false, false, false] rfl rfl (by kernel_rfl) (fun _ _ _ h => h) (Or.inl ⟨by rfl, ?_⟩) hHeld ?_ ?_
          rotate_left
          · rintro w' ⟨s0, s1, s2⟩
            go_simp
            with_reducible rfl
          rotate_left
          · simp only [Act.put, List.setIfInBounds_toArray, List.set_cons_zero, List.set_cons_succ, i64_w, i32_w]
            rfl
          refine pure_ (i := 15) (N := some 63) (v := ?_) (a' := ?_) #[true, false, true, true, false, true, true, false, true, true, true, true, true, true, true, true, false, false, false, false] rfl rfl (by kernel_rfl) (fun _ _ _ h => h) (Or.inl ⟨by rfl, ?_⟩) ?_ ?_
          rotate_left
          · intro w'
            go_simp
            with_reducible rfl
          rotate_left
          · simp only [Act.put, List.setIfInBounds_toArray, List.set_cons_zero, List.set_cons_succ, i64_w, i32_w]
            rfl
          refine one_ (i := 1) (N := some 49) #[true, true, true, true, false, true, true, false, true, true, true, true, true, true, true, true, false, false, false, false] rfl rfl (by kernel_rfl) (by decide) (fun K hK => ?_)
          refine value_ (w1 := ?_) (v := ?_) (by rfl) rfl ?_ ?_
          rotate_left 2
          · go_simp
            constructor
            · rfl
            · rfl
          refine hK.out _ _ ⟨hHeld.1, hHeld.2.1, hHeld.2.2⟩ (fun hHeld => ?_)
          clear hK K
          refine norm_ (a' := ?_) ?_ ?_
          rotate_left
          · show Act.put _ (some 49) _ = _
            simp only [Act.put, List.setIfInBounds_toArray, List.set_cons_zero, List.set_cons_succ, i64_w, i32_w]
            rfl
          refine pure_ (i := 4) (N := some 52) (v := ?_) (a' := ?_) #[true, true, true, true, true, true, true, false, true, true, true, true, true, true, true, true, false, false, false, false] rfl rfl (by kernel_rfl) (fun _ _ _ h => h) (Or.inl ⟨by rfl, ?_⟩) ?_ ?_
          rotate_left
          · intro w'
            go_simp
            with_reducible rfl
          rotate_left
          · simp only [Act.put, List.setIfInBounds_toArray, List.set_cons_zero, List.set_cons_succ, i64_w, i32_w]
            rfl
          refine pure_ (i := 7) (N := some 55) (v := ?_) (a' := ?_) #[true, true, true, true, true, true, true, true, true, true, true, true, true, true, true, true, false, false, false, false] rfl rfl (by kernel_rfl) (fun _ _ _ h => h) (Or.inl ⟨by rfl, ?_⟩) ?_ ?_
          rotate_left
          · intro w'
            go_simp
            with_reducible rfl
          rotate_left
          · simp only [Act.put, List.setIfInBounds_toArray, List.set_cons_zero, List.set_cons_succ, i64_w, i32_w]
            rfl
          refine pure_ (i := 16) (N := some 64) (v := ?_) (a' := ?_) #[true, true, true, true, true, true, true, true, true, true, true, true, true, true, true, true, true, false, false, false] rfl rfl (by kernel_rfl) (fun _ _ _ h => h) (Or.inl ⟨by rfl, ?_⟩) ?_ ?_
          rotate_left
          · intro w'
            go_simp
            with_reducible rfl
          rotate_left
          · simp only [Act.put, List.setIfInBounds_toArray, List.set_cons_zero, List.set_cons_succ, i64_w, i32_w]
            rfl
          refine one_ (i := 17) (N := none) #[true, true, true, true, true, true, true, true, true, true, true, true, true, true, true, true, true, true, false, false] rfl rfl (by kernel_rfl) (by decide) (fun K hK => ?_)
          have hs_ := (blk_cell HBZ.out 0)
          have hf_ := blk_frozen HBZ.out 0
          refine skip_ (w1 := ?_) (by rfl) rfl ?_ ?_
          rotate_left
          · go_simp
            rfl
          refine hK.out _ _ ⟨((World.cell?_setCell_other _ _ _ _ (by simp)).trans hHeld.1), ((World.cell?_setCell_other _ _ _ _ (by intro e; cases e; exact HNE.out rfl)).trans hHeld.2.1), ((World.cell?_setCell_other _ _ _ _ (by intro e; cases e)).trans hHeld.2.2)⟩ (fun hHeld => ?_)
          clear hK K
          refine pure_ (i := 18) (N := some 65) (v := ?_) (a' := ?_) #[true, true, true, true, true, true, true, true, true, true, true, true, true, true, true, true, true, true, true, false] rfl rfl (by kernel_rfl) (fun _ _ _ h => h) (Or.inl ⟨by rfl, ?_⟩) ?_ ?_
          rotate_left
          · intro w'
            go_simp
            with_reducible rfl
          rotate_left
          · simp only [Act.put, List.setIfInBounds_toArray, List.set_cons_zero, List.set_cons_succ, i64_w, i32_w]
            rfl
          refine last_ (i := 19) (N := none) #[true, true, true, true, true, true, true, true, true, true, true, true, true, true, true, true, true, true, true, true] rfl rfl (by kernel_rfl) (by decide) (fun K hK => ?_)
          have hs_ := hHeld.1
          have hf_ : ∀ u, (wy.setCell ⟨gb, 0, none⟩ u).frozen? ⟨gb, 1, none⟩ = false := fun u => blk_frozen (blk_set HBZ.out 0 u) 1
          refine skip_ (w1 := ?_) (by rfl) rfl ?_ ?_
          rotate_left
          · go_simp
            rfl
          refine hK.out _ _ ?_
          clear hK K
          refine done_ (by kernel_rfl) ?_
          have HX2 := Aside0.mk ((HX.out.set 0 (.int .i64 (wrap64 (j1 - a)))).set 1 (.int .i64 (wrap64 (j2 - a))))
          generalize hwq : (wy.setCell _ _).setCell _ _ = wq at HX2 ⊢
          have q0 : wq.cell? ⟨gb, 0, none⟩ = some (.int .i64 (wrap64 (j1 - a))) := (blk_cell HX2.out.bx 0).trans rfl
          have q1 : wq.cell? ⟨gb, 1, none⟩ = some (.int .i64 (wrap64 (j2 - a))) := (blk_cell HX2.out.bx 1).trans rfl
          have q2 : wq.cell? ⟨gb, 2, none⟩ = some (.int .i64 (rd_T44 l0 kk).f2) := (blk_cell HX2.out.bx 2).trans rfl
          have q3 : wq.cell? ⟨gb, 3, none⟩ = some (.int .i64 (rd_T44 l0 kk).f3) := (blk_cell HX2.out.bx 3).trans rfl
          have q4 : wq.cell? ⟨gb, 4, none⟩ = some (.int .i64 (rd_T44 l0 kk).f4) := (blk_cell HX2.out.bx 4).trans rfl
          have HI3 := Aside0.mk HX2.out.toIn
          clear HX HX2 HNE HBZ hne hwq hval2_ hHeld
          have hk := HKK.out
          go_wp2
          go_roundw
          case rel =>
            refine ⟨kk + 1, by go_num, ⟨by omega⟩, ⟨?_⟩⟩
            rw [hsn.out, if_neg (by have := HC.out; omega), List.append_nil]
            exact HI3.out
          case measure => simp [intOf]; omega
      · have hd0 : decide (kk < l0.length) = false := by simpa using hk
        have HALL := Aside0.mk (show l0.take kk = l0 from List.take_of_length_le (by omega))
        go_wp2
        go_ret2
        exact ⟨_, rfl, by have := HI.out.r; rw [HALL.out] at this; exact this, HI.out.below⟩
theorem reel_len {k : Nat} {l : List S44} (h : reel_Check.f k l = some 0) : l.length ≤ 512 := by
  unfold reel_Check.f at h
  split at h
  · simp at h
  · omega
def reel_Parts.f (k : Nat) (l0 : List S44) (a : Int) (b : Int) : Option (List S44 × Int) :=
  (reel_Check.f k l0).bind fun t => if t = 0 then (if a < 0 ∨ a > b ∨ b > endOf l0 then some ([], 1) else some (partsOf a b l0, 0)) else some ([], t)
theorem reel_Parts.mono : ∀ a0 a1 a2 k, LeO (reel_Parts.f k a0 a1 a2) (reel_Parts.f (k + 1) a0 a1 a2) := by
  intro a0 a1 a2 k
  unfold reel_Parts.f
  repeat' first
      | (with_reducible exact reel_Check.mono _ _)
      | (with_reducible exact LeO.refl _)
      | (with_reducible refine LeO.ite ?_ ?_)
      | (with_reducible refine LeO.bind ?_ (fun _ => ?_))

set_option maxRecDepth 100000 in
set_option maxHeartbeats 8000000 in
theorem reel_Parts.calls (k : Nat) (A0 : Option Addr) (c0 : Nat) (l0 : List (S44)) (a : Int) (b : Int) (r1 : List (S44)) (r2 : Int) (w : World) (hr0 : Kd.C k44 w A0 l0.length l0) (hc0 : l0.length ≤ c0) (h : reel_Parts.f k l0 a b = some (r1, r2)) :
    Calls Try.prog 20 #[.slice A0 l0.length c0, .agg #[.int .i64 a, .int .i64 b]] w fun e w' => ∃ v0_ : Value, e = .returned (.tuple #[v0_, .int .i64 r2]) ∧ Kd.R k44 44 w' w.heap.size (fun _ => True) v0_ r1 ∧ Below w.heap.size w w' := by
  unfold reel_Parts.f at h
  obtain ⟨t, ht, h⟩ := Option.bind_eq_some_iff.mp h
  have HR0 := Aside0.mk hr0
  have HC0 := Aside0.mk hc0
  have HT := Aside0.mk ht
  have hbx := Aside0.mk (World.alloc_heap_new w (.cells #[.int .i64 a, .int .i64 b] 36))
  have HB := Aside0.mk ((Below.refl w.heap.size w).alloc (Nat.le_refl _) (.cells #[.int .i64 a, .int .i64 b] 36))
  by_cases e1 : t = 0
  · subst e1
    rw [if_pos rfl] at h
    have hlen := reel_len ht
    by_cases g1 : a < 0
    · rw [if_pos (.inl g1)] at h
      simp only [Option.some.injEq, Prod.mk.injEq] at h
      obtain ⟨rfl, rfl⟩ := h
      have b1 : decide (a < 0) = true := by simpa using g1
      by_cases hl : l0.length = 0
      · have hl0 : l0.length ≤ 0 := by omega
        have hd : decide (0 < l0.length) = false := by rw [decide_eq_false_iff_not]; omega
        clear hr0 hc0 ht hl g1
        go_enter Try.func20, Try.ntmps20
        go_wp2_with (first | (go_at_call 15; refine (reel_Check.calls k _ _ l0 0 _ ?side1 HC0.out HT.out).mono ?_; (case side1 => exact Kd.C_below HR0.out HB.out); rintro e w1 ⟨rfl, hbw⟩; have HB1 := Aside0.mk (below_then HB.out HB.out.size hbw); have hb1 := Aside0.mk ((hbw.block _ (blk_lt hbx.out)).trans hbx.out); have hy0 := (show w1.cell? ⟨w.heap.size, 0, none⟩ = some (.int .i64 a) from blk_cell hb1.out 0); have hy1 := (show w1.cell? ⟨w.heap.size, 1, none⟩ = some (.int .i64 b) from blk_cell hb1.out 1); clear hbw))
        go_ret2
        exact ⟨_, rfl, Kd.R_nil _ _ _ _ _, HB1.out⟩
      · have hd : decide (0 < l0.length) = true := by rw [decide_eq_true_iff]; omega
        have hl1 : 1 ≤ l0.length := by omega
        have hl2 : l0.length - 1 < l0.length := by omega
        clear hr0 hc0 ht hl g1
        go_enter Try.func20, Try.ntmps20
        go_wp2_with (first | (go_at_call 15; refine (reel_Check.calls k _ _ l0 0 _ ?side1 HC0.out HT.out).mono ?_; (case side1 => exact Kd.C_below HR0.out HB.out); rintro e w1 ⟨rfl, hbw⟩; have HB1 := Aside0.mk (below_then HB.out HB.out.size hbw); have hb1 := Aside0.mk ((hbw.block _ (blk_lt hbx.out)).trans hbx.out); have hy0 := (show w1.cell? ⟨w.heap.size, 0, none⟩ = some (.int .i64 a) from blk_cell hb1.out 0); have hy1 := (show w1.cell? ⟨w.heap.size, 1, none⟩ = some (.int .i64 b) from blk_cell hb1.out 1); clear hbw; obtain ⟨ad, rfl, hz0, hz1, hz2, hz3, hz4⟩ := at_T44 (Kd.C_below HR0.out HB1.out) ((l0.length - 1 : Nat) : Int) (by omega) (by omega); simp only [Int.toNat_natCast] at hz0 hz1 hz2 hz3 hz4))
        go_ret2
        exact ⟨_, rfl, Kd.R_nil _ _ _ _ _, HB1.out⟩
    have b1 : decide (a < 0) = false := by simpa using g1
    by_cases g2 : a > b
    · rw [if_pos (.inr (.inl g2))] at h
      simp only [Option.some.injEq, Prod.mk.injEq] at h
      obtain ⟨rfl, rfl⟩ := h
      have b2 : decide (b < a) = true := by simpa using g2
      by_cases hl : l0.length = 0
      · have hl0 : l0.length ≤ 0 := by omega
        have hd : decide (0 < l0.length) = false := by rw [decide_eq_false_iff_not]; omega
        clear hr0 hc0 ht hl g1 g2
        go_enter Try.func20, Try.ntmps20
        go_wp2_with (first | (go_at_call 15; refine (reel_Check.calls k _ _ l0 0 _ ?side1 HC0.out HT.out).mono ?_; (case side1 => exact Kd.C_below HR0.out HB.out); rintro e w1 ⟨rfl, hbw⟩; have HB1 := Aside0.mk (below_then HB.out HB.out.size hbw); have hb1 := Aside0.mk ((hbw.block _ (blk_lt hbx.out)).trans hbx.out); have hy0 := (show w1.cell? ⟨w.heap.size, 0, none⟩ = some (.int .i64 a) from blk_cell hb1.out 0); have hy1 := (show w1.cell? ⟨w.heap.size, 1, none⟩ = some (.int .i64 b) from blk_cell hb1.out 1); clear hbw))
        go_ret2
        exact ⟨_, rfl, Kd.R_nil _ _ _ _ _, HB1.out⟩
      · have hd : decide (0 < l0.length) = true := by rw [decide_eq_true_iff]; omega
        have hl1 : 1 ≤ l0.length := by omega
        have hl2 : l0.length - 1 < l0.length := by omega
        clear hr0 hc0 ht hl g1 g2
        go_enter Try.func20, Try.ntmps20
        go_wp2_with (first | (go_at_call 15; refine (reel_Check.calls k _ _ l0 0 _ ?side1 HC0.out HT.out).mono ?_; (case side1 => exact Kd.C_below HR0.out HB.out); rintro e w1 ⟨rfl, hbw⟩; have HB1 := Aside0.mk (below_then HB.out HB.out.size hbw); have hb1 := Aside0.mk ((hbw.block _ (blk_lt hbx.out)).trans hbx.out); have hy0 := (show w1.cell? ⟨w.heap.size, 0, none⟩ = some (.int .i64 a) from blk_cell hb1.out 0); have hy1 := (show w1.cell? ⟨w.heap.size, 1, none⟩ = some (.int .i64 b) from blk_cell hb1.out 1); clear hbw; obtain ⟨ad, rfl, hz0, hz1, hz2, hz3, hz4⟩ := at_T44 (Kd.C_below HR0.out HB1.out) ((l0.length - 1 : Nat) : Int) (by omega) (by omega); simp only [Int.toNat_natCast] at hz0 hz1 hz2 hz3 hz4))
        go_ret2
        exact ⟨_, rfl, Kd.R_nil _ _ _ _ _, HB1.out⟩
    have b2 : decide (b < a) = false := by simpa using g2
    by_cases g4 : b > endOf l0
    · rw [if_pos (.inr (.inr g4))] at h
      simp only [Option.some.injEq, Prod.mk.injEq] at h
      obtain ⟨rfl, rfl⟩ := h
      by_cases hl : l0.length = 0
      · have hl0 : l0.length ≤ 0 := by omega
        have hd : decide (0 < l0.length) = false := by rw [decide_eq_false_iff_not]; omega
        have b5 : decide (0 < b) = true := by simp only [endOf, if_pos hl] at g4; simpa using g4
        clear hr0 hc0 ht hl g1 g2 g4
        go_enter Try.func20, Try.ntmps20
        go_wp2_with (first | (go_at_call 15; refine (reel_Check.calls k _ _ l0 0 _ ?side1 HC0.out HT.out).mono ?_; (case side1 => exact Kd.C_below HR0.out HB.out); rintro e w1 ⟨rfl, hbw⟩; have HB1 := Aside0.mk (below_then HB.out HB.out.size hbw); have hb1 := Aside0.mk ((hbw.block _ (blk_lt hbx.out)).trans hbx.out); have hy0 := (show w1.cell? ⟨w.heap.size, 0, none⟩ = some (.int .i64 a) from blk_cell hb1.out 0); have hy1 := (show w1.cell? ⟨w.heap.size, 1, none⟩ = some (.int .i64 b) from blk_cell hb1.out 1); clear hbw))
        go_ret2
        exact ⟨_, rfl, Kd.R_nil _ _ _ _ _, HB1.out⟩
      · have hd : decide (0 < l0.length) = true := by rw [decide_eq_true_iff]; omega
        have b5 : decide ((rd_T44 l0 (l0.length - 1 : Nat)).f1 < b) = true := by simp only [endOf, if_neg hl] at g4; simpa using g4
        have hl1 : 1 ≤ l0.length := by omega
        have hl2 : l0.length - 1 < l0.length := by omega
        clear hr0 hc0 ht hl g1 g2 g4
        go_enter Try.func20, Try.ntmps20
        go_wp2_with (first | (go_at_call 15; refine (reel_Check.calls k _ _ l0 0 _ ?side1 HC0.out HT.out).mono ?_; (case side1 => exact Kd.C_below HR0.out HB.out); rintro e w1 ⟨rfl, hbw⟩; have HB1 := Aside0.mk (below_then HB.out HB.out.size hbw); have hb1 := Aside0.mk ((hbw.block _ (blk_lt hbx.out)).trans hbx.out); have hy0 := (show w1.cell? ⟨w.heap.size, 0, none⟩ = some (.int .i64 a) from blk_cell hb1.out 0); have hy1 := (show w1.cell? ⟨w.heap.size, 1, none⟩ = some (.int .i64 b) from blk_cell hb1.out 1); clear hbw; obtain ⟨ad, rfl, hz0, hz1, hz2, hz3, hz4⟩ := at_T44 (Kd.C_below HR0.out HB1.out) ((l0.length - 1 : Nat) : Int) (by omega) (by omega); simp only [Int.toNat_natCast] at hz0 hz1 hz2 hz3 hz4))
        go_ret2
        exact ⟨_, rfl, Kd.R_nil _ _ _ _ _, HB1.out⟩
    rw [if_neg (by omega)] at h
    simp only [Option.some.injEq, Prod.mk.injEq] at h
    obtain ⟨rfl, rfl⟩ := h
    exact reel_parts_main k A0 c0 l0 a b w hr0 hc0 ht (by omega) (by omega) (by omega) hlen
  · rw [if_neg e1] at h
    simp only [Option.some.injEq, Prod.mk.injEq] at h
    obtain ⟨rfl, rfl⟩ := h
    have e1b : (t != 0) = true := by simpa using e1
    clear hr0 hc0 ht e1
    go_enter Try.func20, Try.ntmps20
    go_wp2_with (first | (go_at_call 15; refine (reel_Check.calls k _ _ l0 _ _ ?side1 HC0.out HT.out).mono ?_; (case side1 => exact Kd.C_below HR0.out HB.out); rintro e w1 ⟨rfl, hbw⟩; have HB1 := Aside0.mk (below_then HB.out HB.out.size hbw); clear hbw))
    go_ret2
    exact ⟨_, rfl, Kd.R_nil _ _ _ _ _, HB1.out⟩

end Go.Proofs.Ytfdfpdiemeomiaa.G
