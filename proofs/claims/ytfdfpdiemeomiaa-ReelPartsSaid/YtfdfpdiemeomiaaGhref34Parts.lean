-- HAND papermill/papermillref34.Parts making=1 rounds=1 name=papermillref34_Parts
import Derived.Test.YtfdfpdiemeomiaaGx0
import Derived.Test.YtfdfpdiemeomiaaGxpapermillref34Check
import Derived.Test.YtfdfpdiemeomiaaGxpapermillref34end
import Derived.Test.YtfdfpdiemeomiaaGhreelPartsBase
namespace Go.Proofs.Ytfdfpdiemeomiaa.G
open Go.RowKit Go.Proofs.YtfdfpdiemeomiaaW.PrintWords Go.Proofs.YtfdfpdiemeomiaaW.PrintLast Go.Proofs.YtfdfpdiemeomiaaW.PrintMore
attribute [local go_sem] max2_int min2_int max_two min_two max_three min_three max_four min_four   -- for this text's walks alone
set_option linter.unusedVariables false
set_option linter.unusedSimpArgs false

set_option maxRecDepth 100000 in
set_option maxHeartbeats 8000000 in
theorem ref34_parts_main (k : Nat) (A0 : Option Addr) (c0 : Nat) (l0 : List S44) (a b : Int) (w : World) (hr0 : Kd.C k44 w A0 l0.length l0) (hc0 : l0.length ≤ c0)
    (ht : papermillref34_Check.f k l0 = some 0) (he : papermillref34_end.f l0 = some (endOf l0)) (h1 : 0 ≤ a) (h2 : a ≤ b) (h3 : b ≤ 17179869184) (h4 : b ≤ endOf l0) (hlen : l0.length ≤ 512) :
    Calls Try.prog 21 #[.slice A0 l0.length c0, .agg #[.int .i64 a, .int .i64 b]] w fun e w' => ∃ v0_ : Value, e = .returned (.tuple #[v0_, .int .i64 0]) ∧ Kd.R k44 44 w' w.heap.size (fun _ => True) v0_ (partsOf a b l0) ∧ Below w.heap.size w w' := by
  have HR0 := Aside0.mk hr0
  have HC0 := Aside0.mk hc0
  have HT := Aside0.mk ht
  have HE := Aside0.mk he
  have b1 : decide (a < 0) = false := by simpa using h1
  have b2 : decide (b < a) = false := by simpa using h2
  have b3 : decide (17179869184 < b) = false := by simpa using h3
  have b4 : decide (endOf l0 < b) = false := by simpa using h4
  have hbx := Aside0.mk (World.alloc_heap_new w (.cells #[.int .i64 a, .int .i64 b] 36))
  have HB := Aside0.mk ((Below.refl w.heap.size w).alloc (Nat.le_refl _) (.cells #[.int .i64 a, .int .i64 b] 36))
  clear hr0 hc0 ht he h1 h2 h3 h4
  go_enter Try.func21, Try.ntmps21
  go_wp2_with (first | (go_at_call 16; refine (papermillref34_Check.calls k _ _ l0 0 _ ?side1 HC0.out HT.out).mono ?_; (case side1 => exact Kd.C_below HR0.out HB.out); rintro e w1 ⟨rfl, hbw⟩; have HB1 := Aside0.mk (below_then HB.out HB.out.size hbw); have hb1 := Aside0.mk ((hbw.block _ (blk_lt hbx.out)).trans hbx.out); have hx0 := (blk_cell hb1.out 0); have hx1 := (blk_cell hb1.out 1); clear hbw) | (go_at_call 33; refine (papermillref34_end.calls _ _ l0 _ _ ?side2 HC0.out HE.out).mono ?_; (case side2 => exact Kd.C_below HR0.out HB1.out); rintro e w2 ⟨rfl, hd⟩; have HB2 := Aside0.mk (below_then HB1.out HB1.out.size hd.below); have hb2 := Aside0.mk ((hd.below.block _ (blk_lt hb1.out)).trans hb1.out); have hy0 := (blk_cell hb2.out 0); have hy1 := (blk_cell hb2.out 1); clear hd))
  have hy0 : w1.cell? ⟨w.heap.size, 0, none⟩ = some (.int .i64 a) := hx0
  have hy1 : w1.cell? ⟨w.heap.size, 1, none⟩ = some (.int .i64 b) := hx1
  clear hx0 hx1
  go_quiet ((go_at_call 33; exact Calls.quiet_of ((papermillref34_end.calls _ _ l0 _ _ (Kd.C_drewN (Kd.C_below HR0.out HB1.out) _) HC0.out HE.out).mono fun e w' h => ⟨h.1, h.2.out⟩)))
  rename_i nq
  go_wp2
  have HP := Aside0.mk (show PartsIn w.heap.size w.heap.size a b (.slice none 0 0) (partsOf a b (l0.take 0)) w (w1.drewN nq) from ⟨Kd.R_nil _ _ _ _ _, blk_drewN hb1.out nq, pw_below_drewN HB1.out nq⟩)
  clear hb1 HB1 hy0 hy1 hbx HB
  go_loopw [7, 8] (fun v i wr => ∃ kk : Nat, i = .int .i64 kk ∧ Aside0 (kk ≤ l0.length) ∧ Aside0 (PartsIn w.heap.size w.heap.size a b v (partsOf a b (l0.take kk)) w wr))
    (fun _ i _ => l0.length - (intOf i).toNat)
  case atStart => exact ⟨0, rfl, ⟨Nat.zero_le _⟩, HP⟩
  case round =>
    obtain ⟨kk, rfl, HK, HI⟩ := hrel
    by_cases hk : kk < l0.length
    · have hk1 : (kk : Int) < (l0.length : Int) := by omega
      have hd0 : decide (kk < l0.length) = true := by simpa using hk
      obtain ⟨ad, rfl, hz0, hz1, hz2, hz3, hz4⟩ := at_T44 (Kd.C_below HR0.out HI.out.below) (kk : Int) (by omega) hk1
      simp only [Int.toNat_natCast] at hz0 hz1 hz2 hz3 hz4
      have hq0 : ∀ o, (wr.alloc o).cell? ⟨w.heap.size, 0, none⟩ = some (.int .i64 a) := fun o => blk_cell ((Below.heap_alloc wr o _ (blk_lt HI.out.bs)).trans HI.out.bs) 0
      have hq1 : ∀ o, (wr.alloc o).cell? ⟨w.heap.size, 1, none⟩ = some (.int .i64 b) := fun o => blk_cell ((Below.heap_alloc wr o _ (blk_lt HI.out.bs)).trans HI.out.bs) 1
      by_cases hc : (cutSec a b (rd_T44 l0 kk)).f0 < (cutSec a b (rd_T44 l0 kk)).f1
      · have hcb : decide (wrap64 (mx (rd_T44 l0 kk).f0 a - a) < wrap64 (mn (rd_T44 l0 kk).f1 b - a)) = true := by simpa [cutSec] using hc
        have HC := Aside0.mk hc
        clear hc
        obtain ⟨j1, hj1⟩ : ∃ j, (if (rd_T44 l0 kk).f0 < a then a else (rd_T44 l0 kk).f0) = j := ⟨_, rfl⟩
        obtain ⟨j2, hj2⟩ : ∃ j, (if b < (rd_T44 l0 kk).f1 then b else (rd_T44 l0 kk).f1) = j := ⟨_, rfl⟩
        rw [show mx (rd_T44 l0 kk).f0 a = j1 from hj1, show mn (rd_T44 l0 kk).f1 b = j2 from hj2] at hcb
        have HJ := Aside0.mk (show cutSec a b (rd_T44 l0 kk) = ⟨wrap64 (j1 - a), wrap64 (j2 - a), (rd_T44 l0 kk).f2, (rd_T44 l0 kk).f3, (rd_T44 l0 kk).f4⟩ by rw [← hj1, ← hj2]; rfl)
        obtain ⟨A7, c7, e7⟩ := Kd.R_slice HI.out.r
        subst e7
        have HX := Aside0.mk (HI.out.drop HI.out.below.size (.cells #[.int .i64 (wrap64 (j1 - a)), .int .i64 (wrap64 (j2 - a)), .int .i64 (rd_T44 l0 kk).f2, .int .i64 (rd_T44 l0 kk).f3, .int .i64 (rd_T44 l0 kk).f4] 44))
        have hpl := partsOf_len a b (l0.take kk)
        have hsn := Aside0.mk (partsOf_snoc a b l0 kk hk)
        have HPL := Aside0.mk (show (partsOf a b (l0.take kk)).length ≤ 512 by simp at hpl; omega)
        clear hpl
        go_wp2_with (at_builtin; (refine Kd.R_append k44 (w0 := wr.alloc (.cells #[.int .i64 (wrap64 (j1 - a)), .int .i64 (wrap64 (j2 - a)), .int .i64 (rd_T44 l0 kk).f2, .int .i64 (rd_T44 l0 kk).f3, .int .i64 (rd_T44 l0 kk).f4] 44)) w.heap.size rfl (.tmp 70) (.tmp 72) 22 44 (.agg #[.int .i64 0, .int .i64 0, .int .i64 0, .int .i64 0, .int .i64 0]) 40 rfl Try.underlying22 info44 (by decide) (by decide) (by decide) (.slice A7 (partsOf a b (l0.take kk)).length c7) (partsOf a b (l0.take kk)) ⟨wrap64 (j1 - a), wrap64 (j2 - a), (rd_T44 l0 kk).f2, (rd_T44 l0 kk).f3, (rd_T44 l0 kk).f4⟩ [.int .i64 (wrap64 (j1 - a)), .int .i64 (wrap64 (j2 - a)), .int .i64 (rd_T44 l0 kk).f2, .int .i64 (rd_T44 l0 kk).f3, .int .i64 (rd_T44 l0 kk).f4] (fun _ => True) (fun _ => False) rfl (by rw [World.size_alloc]; rfl) (k44_mkM _ _ _ _) (fun _ h => h.elim) (fun _ _ => trivial) HX.out.r (Below.refl _ _) HX.out.below.size (by have := HPL.out; omega) ?_; intro v' w2 hr2 hb2 hg2 hat2; have HI2 := Aside0.mk (HX.out.grow hr2 hb2 hg2); clear hr2 hb2 hg2 hat2))
        go_roundw
        case rel =>
          refine ⟨kk + 1, by go_num, ⟨by omega⟩, ⟨?_⟩⟩
          rw [hsn.out, if_pos HC.out, HJ.out]
          exact HI2.out
        case measure => simp [intOf]; omega
      · have hcb : decide (wrap64 (mx (rd_T44 l0 kk).f0 a - a) < wrap64 (mn (rd_T44 l0 kk).f1 b - a)) = false := by simpa [cutSec] using hc
        have HC := Aside0.mk hc
        clear hc
        obtain ⟨j1, hj1⟩ : ∃ j, (if (rd_T44 l0 kk).f0 < a then a else (rd_T44 l0 kk).f0) = j := ⟨_, rfl⟩
        obtain ⟨j2, hj2⟩ : ∃ j, (if b < (rd_T44 l0 kk).f1 then b else (rd_T44 l0 kk).f1) = j := ⟨_, rfl⟩
        rw [show mx (rd_T44 l0 kk).f0 a = j1 from hj1, show mn (rd_T44 l0 kk).f1 b = j2 from hj2] at hcb
        have hsn := Aside0.mk (partsOf_snoc a b l0 kk hk)
        go_wp2
        go_roundw
        case rel =>
          refine ⟨kk + 1, by go_num, ⟨by omega⟩, ⟨?_⟩⟩
          rw [hsn.out, if_neg HC.out, List.append_nil]
          exact HI.out.drop HI.out.below.size _
        case measure => simp [intOf]; omega
    · have hd0 : decide (kk < l0.length) = false := by simpa using hk
      have HALL := Aside0.mk (show l0.take kk = l0 from List.take_of_length_le (by omega))
      go_wp2
      go_ret2
      exact ⟨_, rfl, by have := HI.out.r; rw [HALL.out] at this; exact this, HI.out.below⟩
theorem ref34_len {k : Nat} {l : List S44} (h : papermillref34_Check.f k l = some 0) : l.length ≤ 512 := by
  unfold papermillref34_Check.f at h
  split at h
  · simp at h
  · omega
theorem ref34_end (l : List S44) (h : l.length ≤ 512) : papermillref34_end.f l = some (endOf l) := by
  unfold papermillref34_end.f endOf
  by_cases e : l.length = 0
  · rw [if_pos (by omega), if_pos e]
  · have hw : wrap64 ((l.length : Int) - 1) = ((l.length - 1 : Nat) : Int) := by unfold wrap64; omega
    rw [if_neg (by omega), if_neg e, hw, if_pos (by omega), if_pos (by omega)]

def papermillref34_Parts.f (k : Nat) (l0 : List S44) (a : Int) (b : Int) : Option (List S44 × Int) :=
  (papermillref34_Check.f k l0).bind fun t => if t = 0 then (if a < 0 ∨ a > b ∨ b > 17179869184 ∨ b > endOf l0 then some ([], 1) else some (partsOf a b l0, 0)) else some ([], t)
theorem papermillref34_Parts.mono : ∀ a0 a1 a2 k, LeO (papermillref34_Parts.f k a0 a1 a2) (papermillref34_Parts.f (k + 1) a0 a1 a2) := by
  intro a0 a1 a2 k
  unfold papermillref34_Parts.f
  repeat' first
      | (with_reducible exact papermillref34_Check.mono _ _)
      | (with_reducible exact LeO.refl _)
      | (with_reducible refine LeO.ite ?_ ?_)
      | (with_reducible refine LeO.bind ?_ (fun _ => ?_))

set_option maxRecDepth 100000 in
set_option maxHeartbeats 8000000 in
theorem papermillref34_Parts.calls (k : Nat) (A0 : Option Addr) (c0 : Nat) (l0 : List (S44)) (a : Int) (b : Int) (r1 : List (S44)) (r2 : Int) (w : World) (hr0 : Kd.C k44 w A0 l0.length l0) (hc0 : l0.length ≤ c0) (h : papermillref34_Parts.f k l0 a b = some (r1, r2)) :
    Calls Try.prog 21 #[.slice A0 l0.length c0, .agg #[.int .i64 a, .int .i64 b]] w fun e w' => ∃ v0_ : Value, e = .returned (.tuple #[v0_, .int .i64 r2]) ∧ Kd.R k44 44 w' w.heap.size (fun _ => True) v0_ r1 ∧ Below w.heap.size w w' := by
  unfold papermillref34_Parts.f at h
  obtain ⟨t, ht, h⟩ := Option.bind_eq_some_iff.mp h
  have HR0 := Aside0.mk hr0
  have HC0 := Aside0.mk hc0
  have HT := Aside0.mk ht
  have hbx := Aside0.mk (World.alloc_heap_new w (.cells #[.int .i64 a, .int .i64 b] 36))
  have HB := Aside0.mk ((Below.refl w.heap.size w).alloc (Nat.le_refl _) (.cells #[.int .i64 a, .int .i64 b] 36))
  by_cases e1 : t = 0
  · subst e1
    rw [if_pos rfl] at h
    have hlen := ref34_len ht
    have he := ref34_end l0 hlen
    have HE := Aside0.mk he
    by_cases g1 : a < 0
    · rw [if_pos (.inl g1)] at h
      simp only [Option.some.injEq, Prod.mk.injEq] at h
      obtain ⟨rfl, rfl⟩ := h
      have b1 : decide (a < 0) = true := by simpa using g1
      clear hr0 hc0 ht g1 he hlen
      go_enter Try.func21, Try.ntmps21
      go_wp2_with (first | (go_at_call 16; refine (papermillref34_Check.calls k _ _ l0 _ _ ?side1 HC0.out HT.out).mono ?_; (case side1 => exact Kd.C_below HR0.out HB.out); rintro e w1 ⟨rfl, hbw⟩; have HB1 := Aside0.mk (below_then HB.out HB.out.size hbw); have hb1 := Aside0.mk ((hbw.block _ (blk_lt hbx.out)).trans hbx.out); have hx0 := (blk_cell hb1.out 0); have hx1 := (blk_cell hb1.out 1); clear hbw))
      have hy0 : w1.cell? ⟨w.heap.size, 0, none⟩ = some (.int .i64 a) := hx0
      have hy1 : w1.cell? ⟨w.heap.size, 1, none⟩ = some (.int .i64 b) := hx1
      clear hx0 hx1
      go_quiet (fail)
      go_wp2
      go_ret2
      exact ⟨_, rfl, Kd.R_nil _ _ _ _ _, pw_below_drewN HB1.out _⟩
    have b1 : decide (a < 0) = false := by simpa using g1
    by_cases g2 : a > b
    · rw [if_pos (.inr (.inl g2))] at h
      simp only [Option.some.injEq, Prod.mk.injEq] at h
      obtain ⟨rfl, rfl⟩ := h
      have b2 : decide (b < a) = true := by simpa using g2
      clear hr0 hc0 ht g1 g2 he hlen
      go_enter Try.func21, Try.ntmps21
      go_wp2_with (first | (go_at_call 16; refine (papermillref34_Check.calls k _ _ l0 _ _ ?side1 HC0.out HT.out).mono ?_; (case side1 => exact Kd.C_below HR0.out HB.out); rintro e w1 ⟨rfl, hbw⟩; have HB1 := Aside0.mk (below_then HB.out HB.out.size hbw); have hb1 := Aside0.mk ((hbw.block _ (blk_lt hbx.out)).trans hbx.out); have hx0 := (blk_cell hb1.out 0); have hx1 := (blk_cell hb1.out 1); clear hbw))
      have hy0 : w1.cell? ⟨w.heap.size, 0, none⟩ = some (.int .i64 a) := hx0
      have hy1 : w1.cell? ⟨w.heap.size, 1, none⟩ = some (.int .i64 b) := hx1
      clear hx0 hx1
      go_quiet (fail)
      go_wp2
      go_ret2
      exact ⟨_, rfl, Kd.R_nil _ _ _ _ _, pw_below_drewN HB1.out _⟩
    have b2 : decide (b < a) = false := by simpa using g2
    by_cases g3 : b > 17179869184
    · rw [if_pos (.inr (.inr (.inl g3)))] at h
      simp only [Option.some.injEq, Prod.mk.injEq] at h
      obtain ⟨rfl, rfl⟩ := h
      have b3 : decide (17179869184 < b) = true := by simpa using g3
      clear hr0 hc0 ht g1 g2 g3 he hlen
      go_enter Try.func21, Try.ntmps21
      go_wp2_with (first | (go_at_call 16; refine (papermillref34_Check.calls k _ _ l0 _ _ ?side1 HC0.out HT.out).mono ?_; (case side1 => exact Kd.C_below HR0.out HB.out); rintro e w1 ⟨rfl, hbw⟩; have HB1 := Aside0.mk (below_then HB.out HB.out.size hbw); have hb1 := Aside0.mk ((hbw.block _ (blk_lt hbx.out)).trans hbx.out); have hx0 := (blk_cell hb1.out 0); have hx1 := (blk_cell hb1.out 1); clear hbw))
      have hy0 : w1.cell? ⟨w.heap.size, 0, none⟩ = some (.int .i64 a) := hx0
      have hy1 : w1.cell? ⟨w.heap.size, 1, none⟩ = some (.int .i64 b) := hx1
      clear hx0 hx1
      go_quiet (fail)
      go_wp2
      go_ret2
      exact ⟨_, rfl, Kd.R_nil _ _ _ _ _, pw_below_drewN HB1.out _⟩
    have b3 : decide (17179869184 < b) = false := by simpa using g3
    by_cases g4 : b > endOf l0
    · rw [if_pos (.inr (.inr (.inr g4)))] at h
      simp only [Option.some.injEq, Prod.mk.injEq] at h
      obtain ⟨rfl, rfl⟩ := h
      have b4 : decide (endOf l0 < b) = true := by simpa using g4
      clear hr0 hc0 ht g1 g2 g3 g4 he hlen
      go_enter Try.func21, Try.ntmps21
      go_wp2_with (first | (go_at_call 16; refine (papermillref34_Check.calls k _ _ l0 _ _ ?side1 HC0.out HT.out).mono ?_; (case side1 => exact Kd.C_below HR0.out HB.out); rintro e w1 ⟨rfl, hbw⟩; have HB1 := Aside0.mk (below_then HB.out HB.out.size hbw); have hb1 := Aside0.mk ((hbw.block _ (blk_lt hbx.out)).trans hbx.out); have hx0 := (blk_cell hb1.out 0); have hx1 := (blk_cell hb1.out 1); clear hbw))
      have hy0 : w1.cell? ⟨w.heap.size, 0, none⟩ = some (.int .i64 a) := hx0
      have hy1 : w1.cell? ⟨w.heap.size, 1, none⟩ = some (.int .i64 b) := hx1
      clear hx0 hx1
      go_quiet ((go_at_call 33; exact Calls.quiet_of ((papermillref34_end.calls _ _ l0 _ _ (Kd.C_drewN (Kd.C_below HR0.out HB1.out) _) HC0.out HE.out).mono fun e w' h => ⟨h.1, h.2.out⟩)))
      go_wp2
      go_ret2
      exact ⟨_, rfl, Kd.R_nil _ _ _ _ _, pw_below_drewN HB1.out _⟩
    rw [if_neg (by omega)] at h
    simp only [Option.some.injEq, Prod.mk.injEq] at h
    obtain ⟨rfl, rfl⟩ := h
    exact ref34_parts_main k A0 c0 l0 a b w hr0 hc0 ht he (by omega) (by omega) (by omega) (by omega) hlen
  · rw [if_neg e1] at h
    simp only [Option.some.injEq, Prod.mk.injEq] at h
    obtain ⟨rfl, rfl⟩ := h
    have e1b : (t != 0) = true := by simpa using e1
    clear hr0 hc0 ht e1
    go_enter Try.func21, Try.ntmps21
    go_wp2_with (first | (go_at_call 16; refine (papermillref34_Check.calls k _ _ l0 _ _ ?side1 HC0.out HT.out).mono ?_; (case side1 => exact Kd.C_below HR0.out HB.out); rintro e w1 ⟨rfl, hbw⟩; have HB1 := Aside0.mk (below_then HB.out HB.out.size hbw); clear hbw))
    go_ret2
    exact ⟨_, rfl, Kd.R_nil _ _ _ _ _, HB1.out⟩

end Go.Proofs.Ytfdfpdiemeomiaa.G
