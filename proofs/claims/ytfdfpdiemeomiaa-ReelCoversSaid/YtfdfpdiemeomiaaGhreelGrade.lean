-- HAND papermill/reel.Grade making=1 rounds=1 name=reel_Grade
import Derived.Test.YtfdfpdiemeomiaaGx0
import Derived.Test.YtfdfpdiemeomiaaGhreelParts
import Derived.Test.YtfdfpdiemeomiaaGhreelPartsBase
namespace Go.Proofs.Ytfdfpdiemeomiaa.G
open Go.RowKit Go.Proofs.YtfdfpdiemeomiaaW.PrintWords Go.Proofs.YtfdfpdiemeomiaaW.PrintLast Go.Proofs.YtfdfpdiemeomiaaW.PrintMore
attribute [local go_sem] max2_int min2_int max_two min_two max_three min_three max_four min_four   -- for this text's walks alone
set_option linter.unusedVariables false
set_option linter.unusedSimpArgs false

/-- The grade and whether all is prime, section by section. -/
def gradeStep (g0 : Int) (st : Int × Bool) (x : S44) : Int × Bool := (if x.f3 = g0 then st.1 else -1, st.2 && (x.f2 == 1))
def gradeOf (p : List S44) : Int × Bool := p.foldl (gradeStep (rd_T44 p 0).f3) ((rd_T44 p 0).f3, true)
theorem grade_snoc (g0 : Int) (st : Int × Bool) (p : List S44) (k : Nat) (h : k < p.length) : (p.take (k + 1)).foldl (gradeStep g0) st = gradeStep g0 ((p.take k).foldl (gradeStep g0) st) (rd_T44 p k) := by
  rw [List.take_succ_eq_append_getElem h, List.foldl_append]
  simp [rd_T44, List.getD_eq_getElem?_getD, List.getElem?_eq_getElem h]
def reel_Grade.f (k : Nat) (l0 : List S44) (a : Int) (b : Int) : Option (Int × Bool × Int) :=
  (reel_Parts.f k l0 a b).bind fun r => if r.2 = 0 then (if r.1.length = 0 then some (-1, false, 0) else some ((gradeOf r.1).1, (gradeOf r.1).2, 0)) else some (0, false, r.2)
theorem reel_Grade.mono : ∀ a0 a1 a2 k, LeO (reel_Grade.f k a0 a1 a2) (reel_Grade.f (k + 1) a0 a1 a2) := by
  intro a0 a1 a2 k
  unfold reel_Grade.f
  repeat' first
      | (with_reducible exact reel_Parts.mono _ _ _ _)
      | (with_reducible exact LeO.refl _)
      | (with_reducible refine LeO.ite ?_ ?_)
      | (with_reducible refine LeO.bind ?_ (fun _ => ?_))

theorem parts_len {k : Nat} {l : List S44} {a b : Int} {p : List S44} {e : Int} (h : reel_Parts.f k l a b = some (p, e)) : p.length ≤ 512 := by
  unfold reel_Parts.f at h
  obtain ⟨t, ht, h⟩ := Option.bind_eq_some_iff.mp h
  split at h
  · subst t
    have h1 := reel_len ht
    split at h
    · simp only [Option.some.injEq, Prod.mk.injEq] at h; obtain ⟨rfl, _⟩ := h; simp
    · simp only [Option.some.injEq, Prod.mk.injEq] at h; obtain ⟨rfl, _⟩ := h; exact Nat.le_trans (partsOf_len _ _ _) h1
  · simp only [Option.some.injEq, Prod.mk.injEq] at h; obtain ⟨rfl, _⟩ := h; simp

set_option maxRecDepth 100000 in
set_option maxHeartbeats 8000000 in
theorem reel_Grade.calls (k : Nat) (A0 : Option Addr) (c0 : Nat) (l0 : List (S44)) (a : Int) (b : Int) (r1 : Int) (r2 : Bool) (r3 : Int) (w : World) (hr0 : Kd.C k44 w A0 l0.length l0) (hc0 : l0.length ≤ c0) (h : reel_Grade.f k l0 a b = some (r1, r2, r3)) :
    Calls Try.prog 22 #[.slice A0 l0.length c0, .agg #[.int .i64 a, .int .i64 b]] w fun e w' => e = .returned (.tuple #[.int .i64 r1, .bool r2, .int .i64 r3]) ∧ Below w.heap.size w w' := by
  unfold reel_Grade.f at h
  obtain ⟨⟨p, t⟩, hp, h⟩ := Option.bind_eq_some_iff.mp h
  simp only at h
  have hlen := parts_len hp
  have hbx := Aside0.mk (World.alloc_heap_new w (.cells #[.int .i64 a, .int .i64 b] 36))
  have HB := Aside0.mk ((Below.refl w.heap.size w).alloc (Nat.le_refl _) (.cells #[.int .i64 a, .int .i64 b] 36))
  have hx0 : (w.alloc (.cells #[.int .i64 a, .int .i64 b] 36)).cell? ⟨w.heap.size, 0, none⟩ = some (.int .i64 a) := blk_cell hbx.out 0
  have hx1 : (w.alloc (.cells #[.int .i64 a, .int .i64 b] 36)).cell? ⟨w.heap.size, 1, none⟩ = some (.int .i64 b) := blk_cell hbx.out 1
  have HR0 := Aside0.mk hr0
  have HC0 := Aside0.mk hc0
  have HP := Aside0.mk hp
  clear hr0 hc0 hp
  by_cases e1 : t = 0
  · subst e1
    rw [if_pos rfl] at h
    by_cases e2 : p.length = 0
    · rw [if_pos e2] at h
      obtain rfl := List.eq_nil_of_length_eq_zero e2
      simp only [Option.some.injEq, Prod.mk.injEq] at h
      obtain ⟨rfl, rfl, rfl⟩ := h
      clear e2
      go_enter Try.func22, Try.ntmps22
      go_wp2_with (go_at_call 20; refine (reel_Parts.calls k _ _ l0 a b _ _ _ (Kd.C_below HR0.out HB.out) HC0.out HP.out).mono ?_; rintro e w1 ⟨v, rfl, hr, hb⟩; have HB1 := Aside0.mk (below_then HB.out HB.out.size hb); obtain ⟨A1, c1, e1, hc1, hC1⟩ := Kd.R_reads hr; subst e1; clear hr hb hc1 hC1)
      go_ret3
      exact ⟨rfl, HB1.out⟩
    · rw [if_neg e2] at h
      simp only [Option.some.injEq, Prod.mk.injEq] at h
      obtain ⟨rfl, rfl, rfl⟩ := h
      have hne : ((p.length : Int) == 0) = false := by rw [beq_eq_false_iff_ne]; omega
      have hne2 : (p.length == 0) = false := by rw [beq_eq_false_iff_ne]; omega
      have hne3 : p ≠ [] := by rintro rfl; exact e2 rfl
      have hpos : 0 < p.length := by omega
      have hpos1 : decide (0 < p.length) = true := by simpa using hpos
      clear e2
      go_enter Try.func22, Try.ntmps22
      go_wp2_with (go_at_call 20; refine (reel_Parts.calls k _ _ l0 a b _ _ _ (Kd.C_below HR0.out HB.out) HC0.out HP.out).mono ?_; rintro e w1 ⟨v, rfl, hr, hb⟩; have HB1 := Aside0.mk (below_then HB.out HB.out.size hb); obtain ⟨A1, c1, e1, hc1, hC1⟩ := Kd.R_reads hr; subst e1; have HCP := Aside0.mk hC1; obtain ⟨ad, rfl, hz0, hz1, hz2, hz3, hz4⟩ := at_T44 hC1 0 (by omega) (by omega); simp only [Int.toNat_zero, Nat.zero_mul, Addr.add_zero'] at hz0 hz1 hz2 hz3 hz4; clear hr hb hc1 hC1)
      go_loopw [9, 10, 31] (fun g q i wr => ∃ kk : Nat, ∃ gg : Int, ∃ qq : Bool, g = .int .i64 gg ∧ q = .bool qq ∧ i = .int .i64 kk ∧ Aside0 (kk ≤ p.length) ∧ Aside0 ((p.take kk).foldl (gradeStep (rd_T44 p 0).f3) ((rd_T44 p 0).f3, true) = (gg, qq)) ∧ Aside0 (Below w.heap.size w wr ∧ Below w1.heap.size w1 wr))
        (fun _ _ i _ => p.length - (intOf i).toNat)
      case atStart => exact ⟨0, _, _, rfl, rfl, rfl, ⟨Nat.zero_le _⟩, ⟨rfl⟩, ⟨HB1.out, Below.refl _ _⟩⟩
      case round =>
        obtain ⟨kk, gg, qq, rfl, rfl, rfl, HK, HF, HW⟩ := hrel
        by_cases hk : kk < p.length
        · have hk1 : (kk : Int) < (p.length : Int) := by omega
          have hd0 : decide (kk < p.length) = true := by simpa using hk
          have hC2 := Kd.C_below HCP.out HW.out.2
          obtain ⟨ad', e', hy0, hy1, hy2, hy3, hy4⟩ := at_T44 hC2 (kk : Int) (by omega) hk1
          cases e'
          simp only [Int.toNat_natCast] at hy0 hy1 hy2 hy3 hy4
          have HS := Aside0.mk (grade_snoc (rd_T44 p 0).f3 ((rd_T44 p 0).f3, true) p kk hk)
          have hq3 : ∀ o, (wr.alloc o).cell? ⟨ad.block, ad.off + 3, none⟩ = some (.int .i64 (rd_T44 p 0).f3) := fun o => by
            obtain ⟨ad', e', hq0, hq1, hq2, hq3, hq4⟩ := at_T44 (Kd.C_alloc hC2 o) 0 (by omega) (by omega)
            cases e'
            simpa only [Int.toNat_zero, Nat.zero_mul, Addr.add_zero'] using hq3
          clear hC2
          by_cases e3 : (rd_T44 p kk).f3 = (rd_T44 p 0).f3
          · have H3 := Aside0.mk e3
            have e3b : ((rd_T44 p kk).f3 != (rd_T44 p 0).f3) = false := by simpa using e3
            clear e3
            cases qq with
            | false =>
              go_wp2
              go_quiet (fail)
              go_wp2
              go_roundw
              case rel => exact ⟨kk + 1, _, _, rfl, rfl, by go_num, ⟨by omega⟩, ⟨by rw [HS.out, HF.out]; simp only [gradeStep]; rw [if_pos H3.out]; rfl⟩, ⟨pw_below_drewN (HW.out.1.alloc HW.out.1.size _) _, pw_below_drewN (below_alloc HW.out.2 _) _⟩⟩
              case measure => simp [intOf]; omega
            | true =>
              cases hk2 : (rd_T44 p kk).f2 == 1 with
              | true =>
                have H2 := Aside0.mk hk2
                go_wp2
                go_quiet (fail)
                go_wp2
                go_roundw
                case rel => exact ⟨kk + 1, _, _, rfl, rfl, by go_num, ⟨by omega⟩, ⟨by rw [HS.out, HF.out]; simp only [gradeStep]; rw [if_pos H3.out, H2.out]; rfl⟩, ⟨pw_below_drewN (HW.out.1.alloc HW.out.1.size _) _, pw_below_drewN (below_alloc HW.out.2 _) _⟩⟩
                case measure => simp [intOf]; omega
              | false =>
                have H2 := Aside0.mk hk2
                go_wp2
                go_quiet (fail)
                go_wp2
                go_roundw
                case rel => exact ⟨kk + 1, _, _, rfl, rfl, by go_num, ⟨by omega⟩, ⟨by rw [HS.out, HF.out]; simp only [gradeStep]; rw [if_pos H3.out, H2.out]; rfl⟩, ⟨pw_below_drewN (HW.out.1.alloc HW.out.1.size _) _, pw_below_drewN (below_alloc HW.out.2 _) _⟩⟩
                case measure => simp [intOf]; omega
          · have H3 := Aside0.mk e3
            have e3b : ((rd_T44 p kk).f3 != (rd_T44 p 0).f3) = true := by simpa using e3
            clear e3
            cases qq with
            | false =>
              go_wp2
              go_quiet (fail)
              go_wp2
              go_roundw
              case rel => exact ⟨kk + 1, _, _, rfl, rfl, by go_num, ⟨by omega⟩, ⟨by rw [HS.out, HF.out]; simp only [gradeStep]; rw [if_neg H3.out]; rfl⟩, ⟨pw_below_drewN (HW.out.1.alloc HW.out.1.size _) _, pw_below_drewN (below_alloc HW.out.2 _) _⟩⟩
              case measure => simp [intOf]; omega
            | true =>
              cases hk2 : (rd_T44 p kk).f2 == 1 with
              | true =>
                have H2 := Aside0.mk hk2
                go_wp2
                go_quiet (fail)
                go_wp2
                go_roundw
                case rel => exact ⟨kk + 1, _, _, rfl, rfl, by go_num, ⟨by omega⟩, ⟨by rw [HS.out, HF.out]; simp only [gradeStep]; rw [if_neg H3.out, H2.out]; rfl⟩, ⟨pw_below_drewN (HW.out.1.alloc HW.out.1.size _) _, pw_below_drewN (below_alloc HW.out.2 _) _⟩⟩
                case measure => simp [intOf]; omega
              | false =>
                have H2 := Aside0.mk hk2
                go_wp2
                go_quiet (fail)
                go_wp2
                go_roundw
                case rel => exact ⟨kk + 1, _, _, rfl, rfl, by go_num, ⟨by omega⟩, ⟨by rw [HS.out, HF.out]; simp only [gradeStep]; rw [if_neg H3.out, H2.out]; rfl⟩, ⟨pw_below_drewN (HW.out.1.alloc HW.out.1.size _) _, pw_below_drewN (below_alloc HW.out.2 _) _⟩⟩
                case measure => simp [intOf]; omega
        · have hd0 : decide (kk < p.length) = false := by simpa using hk
          have HALL := Aside0.mk (show gradeOf p = (gg, qq) by have := HF.out; rw [List.take_of_length_le (by omega)] at this; exact this)
          go_wp2
          go_ret3
          exact ⟨by rw [HALL.out]; rfl, HW.out.1⟩
  · rw [if_neg e1] at h
    simp only [Option.some.injEq, Prod.mk.injEq] at h
    obtain ⟨rfl, rfl, rfl⟩ := h
    have e1b : (t != 0) = true := by simpa using e1
    clear e1
    go_enter Try.func22, Try.ntmps22
    go_wp2_with (go_at_call 20; refine (reel_Parts.calls k _ _ l0 a b _ _ _ (Kd.C_below HR0.out HB.out) HC0.out HP.out).mono ?_; rintro e w1 ⟨v, rfl, hr, hb⟩; have HB1 := Aside0.mk (below_then HB.out HB.out.size hb); obtain ⟨A1, c1, e1, hc1, hC1⟩ := Kd.R_reads hr; subst e1; clear hr hb hc1 hC1)
    go_ret3
    exact ⟨rfl, HB1.out⟩

end Go.Proofs.Ytfdfpdiemeomiaa.G
