import Derived.Test.YtcnkmdonbpgjiaaQ4
import Derived.Test.YtcnkmdonbpgjiaaQ3
import Derived.Test.YtcnkmdonbpgjiaaQ1
import Derived.RangeFuncRecord
import Derived.Deep.Slices
import Derived.Deep.Fields
import Derived.ChangeSame
import Derived.ChangeArms
namespace Go.Proofs.Ytcnkmdonbpgjiaa.G
open Go.RowKit Go.Proofs.YtcnkmdonbpgjiaaW.PrintWords Go.Proofs.YtcnkmdonbpgjiaaW.PrintLast Go.Proofs.YtcnkmdonbpgjiaaW.PrintMore
set_option linter.unusedVariables false
set_option linter.unusedSimpArgs false
theorem total_l0 (l : List S37) (hl : l.length ≤ 1000) (hv : ∀ s ∈ l, 0 ≤ s.f0 ∧ s.f0 ≤ s.f1 ∧ s.f1 ≤ 17179869184) : ∀ (d i : Nat) (n : Int), l.length - i = d → i ≤ l.length → 0 ≤ n → n ≤ i * 17179869184 → Ends (fun k => span_Total.l0 k n l (l.length : Int) (i : Int)) (n + tot (l.drop i), 0) := by
  intro d
  induction d with
  | zero =>
    intro i n hd hi h0 h1
    refine Ends.succ ?_
    simp only [span_Total.l0]
    rw [List.drop_of_length_le (by omega)]
    exact Ends.neg (by omega) ((Ends.ret _).congr (by simp [tot]))
  | succ d ih =>
    intro i n hd hi h0 h1
    refine Ends.succ ?_
    have hx := hv (rd_T37 l (i : Int)) (by rw [rd36 l i (by omega)]; exact List.getElem_mem _)
    rw [drop36 l i (by omega), tot_cons]
    simp only [span_Total.l0, wrap_nat i (by omega)]
    generalize rd_T37 l (i : Int) = s at *
    have e1 : wrap64 (s.f1 - s.f0) = s.f1 - s.f0 := by unfold wrap64; omega
    have e2 : wrap64 (n + (s.f1 - s.f0)) = n + (s.f1 - s.f0) := by unfold wrap64; omega
    simp only [e1, e2]
    exact Ends.pos (by omega) (Ends.pos (by omega) (Ends.pos (by omega) ((ih (i + 1) (n + (s.f1 - s.f0)) (by omega) (by omega) (by omega) (by omega)).congr (by rw [Int.add_assoc]))))
theorem total_ends (l : List S37) : Ends (fun k => span_Total.f k l) (totalOf l) := by
  unfold span_Total.f totalOf
  refine Ends.bind (scheck_ends l) ?_
  by_cases h0 : check04 l = 0
  · rw [if_pos h0]
    obtain ⟨g0, v0⟩ := good04 h0
    have n0 := joinOf_len l (-1) (fun s hs => by have := v0 s hs; omega)
    have b0 := joinOf_bound l (-1) 17179869184 (fun s hs => by have := v0 s hs; omega)
    have e0 : span_joined.f l = some (joinOf l) := by unfold span_joined.f; rw [if_pos (okSpans_good h0)]
    simp only [e0, Option.bind_some]
    exact Ends.pos h0 ((total_l0 (joinOf l) (by omega) (fun s hs => by have := b0 s hs; omega) _ 0 0 rfl (by omega) (by omega) (by omega)).congr (by simp))
  · rw [if_neg h0]
    exact Ends.neg h0 (Ends.ret _)
end Go.Proofs.Ytcnkmdonbpgjiaa.G

namespace Go.Proofs.Ytcnkmdonbpgjiaa.G
open Go.RowKit Go.Proofs.YtcnkmdonbpgjiaaW.PrintWords Go.Proofs.YtcnkmdonbpgjiaaW.PrintLast Go.Proofs.YtcnkmdonbpgjiaaW.PrintMore
set_option linter.unusedVariables false
set_option linter.unusedSimpArgs false
def imgS (r : S32) : S37 := ⟨mn r.f0 (img r (r.f1 - 1)), mx r.f0 (img r (r.f1 - 1)) + 1⟩
theorem imgS_in {r : S32} (h : ¬ badR r) : 0 ≤ (imgS r).f0 ∧ (imgS r).f0 ≤ (imgS r).f1 ∧ (imgS r).f1 ≤ 17179869184 ∧ (imgS r).f1 - (imgS r).f0 = r.f1 := by
  unfold badR at h
  unfold imgS mn mx img
  dsimp only
  cases hb : r.f2 <;> simp [hb] at h ⊢ <;> (repeat' split) <;> omega
theorem images_is {r : S32} (h : ¬ badR r) : iso_images.f r.f0 r.f1 r.f2 = some ((imgS r).f0, (imgS r).f1) := by
  have hi := imgS_in h
  have hf := fit_of h
  unfold fitR at hf
  have e : wrap64 (r.f1 - 1) = r.f1 - 1 := by unfold wrap64; omega
  unfold iso_images.f
  rw [e, image_is r (r.f1 - 1) ⟨by omega, by omega, by omega⟩ (by omega) (by omega), Option.bind_some]
  have e2 : wrap64 (mx r.f0 (img r (r.f1 - 1)) + 1) = mx r.f0 (img r (r.f1 - 1)) + 1 := by
    have h1 : (imgS r).f1 = mx r.f0 (img r (r.f1 - 1)) + 1 := rfl
    unfold wrap64
    omega
  rw [e2]
  rfl
end Go.Proofs.Ytcnkmdonbpgjiaa.G

namespace Go.Proofs.Ytcnkmdonbpgjiaa.G
open Go.RowKit Go.Proofs.YtcnkmdonbpgjiaaW.PrintWords Go.Proofs.YtcnkmdonbpgjiaaW.PrintLast Go.Proofs.YtcnkmdonbpgjiaaW.PrintMore
attribute [local go_sem] max2_int min2_int max_two min_two max_three min_three max_four min_four   -- for this text's walks alone
set_option linter.unusedVariables false
set_option linter.unusedSimpArgs false
def findS (p : Int) (r : S32) (a b : Int) : List S37 :=
  if mx (imgS r).f0 a < mn (imgS r).f1 b then [⟨p + (if r.f2 = true then (imgS r).f1 - mn (imgS r).f1 b else mx (imgS r).f0 a - (imgS r).f0), p + (if r.f2 = true then (imgS r).f1 - mn (imgS r).f1 b else mx (imgS r).f0 a - (imgS r).f0) + mn (imgS r).f1 b - mx (imgS r).f0 a⟩] else []
def findL (p a b : Int) : List S32 → List S37
  | [] => []
  | r :: l => findS p r a b ++ findL (p + r.f1) a b l
def find13 (l : List S32) (a b : Int) : List S37 × Int := if check13 l = 0 then (if a < 0 ∨ a > b ∨ b > 17179869184 then ([], 1) else bothOf (findL 0 a b l) [] 0) else ([], check13 l)
theorem findS_len (p : Int) (r : S32) (a b : Int) : (findS p r a b).length ≤ 1 := by unfold findS; split <;> simp
theorem findL_append : ∀ (l m : List S32) (p a b : Int), findL p a b (l ++ m) = findL p a b l ++ findL (p + tot13 l) a b m
  | [], m, p, a, b => by simp [findL, tot13]
  | r :: l, m, p, a, b => by
    rw [List.cons_append, findL, findL, findL_append l m, List.append_assoc, tot13_cons]
    congr 3
    omega
theorem findL_fit : ∀ (l : List S32) (p a b : Int), (findL p a b l).length ≤ l.length
  | [], p, a, b => by simp [findL]
  | r :: l, p, a, b => by
    rw [findL, List.length_append, List.length_cons]
    have h1 := findS_len p r a b
    have h2 := findL_fit l (p + r.f1) a b
    omega
def iso_Find.f (l0 : List S32) (a1_0 a1_1 : Int) : Option (List S37 × Int) := some (find13 l0 a1_0 a1_1)
theorem findS_is (p : Int) (r : S32) (a b : Int) : findS p r a b = if mx (imgS r).f0 a < mn (imgS r).f1 b then (if r.f2 = true then [⟨p + ((imgS r).f1 - mn (imgS r).f1 b), p + ((imgS r).f1 - mn (imgS r).f1 b) + mn (imgS r).f1 b - mx (imgS r).f0 a⟩] else [⟨p + (mx (imgS r).f0 a - (imgS r).f0), p + (mx (imgS r).f0 a - (imgS r).f0) + mn (imgS r).f1 b - mx (imgS r).f0 a⟩]) else [] := by
  unfold findS
  split
  · split <;> rfl
  · rfl
theorem tot_le (l : List S32) (hg : ∀ r ∈ l, ¬ badR r) (kk : Nat) : 0 ≤ tot13 (l.take kk) ∧ tot13 (l.take kk) ≤ (l.take kk).length * 17179869184 := by
  have key : ∀ m : List S32, (∀ r ∈ m, ¬ badR r) → 0 ≤ tot13 m ∧ tot13 m ≤ m.length * 17179869184 := by
    intro m
    induction m with
    | nil => intro _; simp [tot13]
    | cons r m ih =>
      intro h
      have h1 := ih (fun x hx => h x (by simp [hx]))
      have h2 := fit_of (h r (by simp))
      unfold fitR at h2
      rw [tot13_cons, List.length_cons]
      omega
  exact key _ (fun r hr => hg r (List.mem_of_mem_take hr))
set_option maxRecDepth 100000 in
set_option maxHeartbeats 16000000 in
theorem find_far (A0 : Option Addr) (c0 : Nat) (l : List S32) (a b : Int) (w : World) (hr : Kd.C k32 w A0 l.length l) (hc : l.length ≤ c0) (h0 : check13 l = 0) (ha : ¬ a < 0) (hab : ¬ a > b) (hb : ¬ b > 17179869184) :
    Calls Try.prog 31 #[.slice A0 l.length c0, .agg #[.int .i64 a, .int .i64 b]] w fun e w' => ∃ v, e = .returned (.tuple #[v, .int .i64 (bothOf (findL 0 a b l) [] 0).2]) ∧ Kd.R k37 37 w' w.heap.size (fun _ => True) v (bothOf (findL 0 a b l) [] 0).1 ∧ Below w.heap.size w w' := by
  have HBX := Aside0.mk ((Below.refl w.heap.size w).alloc (Nat.le_refl _) (.cells #[.int .i64 a, .int .i64 b] 37))
  have HR := Aside0.mk (Kd.C_below hr HBX.out)
  have HR0 := Aside0.mk hr
  have HX0 := Aside0.mk (World.alloc_heap_new w (.cells #[.int .i64 a, .int .i64 b] 37))
  have HC := Aside0.mk hc
  clear hr hc
  obtain ⟨hl, hg, ht⟩ := check13_zero h0
  obtain ⟨k1, hk1⟩ := (icheck_ends l).get
  rw [h0] at hk1
  have HK1 := Aside0.mk hk1
  obtain ⟨kn, hkn⟩ := (norm_ends (findL 0 a b l)).get
  obtain ⟨r1, r2, hr12⟩ : ∃ r1 r2, bothOf (findL 0 a b l) [] 0 = (r1, r2) := ⟨_, _, rfl⟩
  rw [hr12] at hkn ⊢
  clear hr12
  have HKN := Aside0.mk hkn
  clear hk1 hkn
  have HG := Aside0.mk hg
  have HT := Aside0.mk (tot_le l hg)
  clear hg h0
  have hab1 : decide (a < 0) = false := decide_eq_false ha
  have hab2 : decide (b < a) = false := decide_eq_false (by omega)
  have hab3 : decide (17179869184 < b) = false := decide_eq_false (by omega)
  go_enter Try.func31, Try.ntmps31
  go_wp2_with (go_at_call 14; (with_reducible refine (iso_Check.calls k1 A0 c0 l 0 _ HR.out HC.out HK1.out).mono ?_); rintro e w1 ⟨rfl, hb⟩; have HB1 := Aside0.mk (HBX.out.trans (hb.mono HBX.out.size)); have HX := Aside0.mk (blk_below HX0.out hb); have hxa : w1.cell? ⟨w.heap.size, 0, none⟩ = some (.int .i64 a) := (blk_cell HX.out 0); have hxb : w1.cell? ⟨w.heap.size, 1, none⟩ = some (.int .i64 b) := (blk_cell HX.out 1); clear hb)
  go_wp2
  go_loopw [7, 8, 37] (fun v p i wr => ∃ kk : Nat, i = .int .i64 kk ∧ p = .int .i64 (tot13 (l.take kk)) ∧ Aside0 (kk ≤ l.length) ∧ Aside0 (Kd.R k37 37 wr w.heap.size (fun k => k ≠ w.heap.size) v (findL 0 a b (l.take kk))) ∧ Aside0 (wr.heap[w.heap.size]? = some (.cells #[.int .i64 a, .int .i64 b] 37 (0, 0))) ∧ Aside0 (Below w.heap.size w wr))
    (fun _ _ i _ => l.length - (intOf i).toNat)
  case atStart => exact ⟨0, rfl, by simp [tot13], ⟨Nat.zero_le _⟩, ⟨by simpa [findL] using Kd.R_nil _ _ _ _ _⟩, HX, HB1⟩
  case round =>
    obtain ⟨kk, rfl, rfl, HK, HO, HX3, HB⟩ := hrel
    by_cases hk : kk < l.length
    · have hk1 : (kk : Int) < (l.length : Int) := by omega
      have hd0 : decide (kk < l.length) = true := by simpa using hk
      obtain ⟨ad, rfl, hz0, hz1, hz2⟩ := at_T32 (Kd.C_below HR0.out HB.out) (kk : Int) (by omega) hk1
      simp only [Int.toNat_natCast] at hz0 hz1 hz2
      have hrm := Aside0.mk (show rd_T32 l kk ∈ l by simp [rd_T32, List.getD_eq_getElem?_getD, List.getElem?_eq_getElem hk])
      have hsn := Aside0.mk (show l.take (kk + 1) = l.take kk ++ [rd_T32 l kk] by rw [List.take_succ_eq_append_getElem hk]; simp [rd_T32, List.getD_eq_getElem?_getD, List.getElem?_eq_getElem hk])
      have hv := HG.out _ hrm.out
      have hIm := Aside0.mk (images_is hv)
      have hin := imgS_in hv
      have hft := fit_of hv
      unfold fitR at hft
      have hpt := HT.out kk
      have hfl := findL_fit (l.take kk) 0 a b
      have hfl2 : (l.take kk).length ≤ 256 := by rw [List.length_take]; omega
      have hpn := Aside0.mk (show findL 0 a b (l.take (kk + 1)) = findL 0 a b (l.take kk) ++ findS (tot13 (l.take kk)) (rd_T32 l kk) a b by rw [hsn.out, findL_append, Int.zero_add]; simp [findL])
      have htn := Aside0.mk (show tot13 (l.take (kk + 1)) = tot13 (l.take kk) + (rd_T32 l kk).f1 by rw [hsn.out, tot13_append]; simp [tot13])
      clear hrm hsn hv
      rw [findS_is] at hpn
      generalize findL 0 a b (l.take kk) = O at *
      obtain ⟨A7, c7, e7⟩ := Kd.R_slice HO.out
      subst e7
      generalize tot13 (l.take kk) = p at *
      generalize rd_T32 l kk = x at *
      generalize (imgS x).f0 = s0 at *
      generalize (imgS x).f1 = s1 at *
      have hwp : wrap64 (p + x.f1) = p + x.f1 := by unfold wrap64; omega
      go_wp2_with (go_at_call 57; (with_reducible refine (iso_images.calls x.f0 x.f1 x.f2 s0 s1 _ hIm.out).mono ?_); rintro e w4 ⟨rfl, hb4⟩; have HB4 := Aside0.mk (below_then (HB.out.alloc HB.out.size (.cells #[.int .i64 x.f0, .int .i64 x.f1, .bool x.f2] 32)) (HB.out.alloc HB.out.size _).size hb4); have HO4 := Aside0.mk (Kd.R_below (Kd.R_alloc HO.out _) hb4); have HX4 := Aside0.mk (blk_below (blk_alloc HX3.out _) hb4); have HY4 := Aside0.mk (blk_below (World.alloc_heap_new wr (.cells #[.int .i64 x.f0, .int .i64 x.f1, .bool x.f2] 32)) hb4); have hs0 : ∀ o, (w4.alloc o).cell? ⟨w.heap.size, 0, none⟩ = some (.int .i64 a) := (fun o => blk_cell (blk_alloc HX4.out o) 0); have hs1 : ∀ o, (w4.alloc o).cell? ⟨w.heap.size, 1, none⟩ = some (.int .i64 b) := (fun o => blk_cell (blk_alloc HX4.out o) 1); clear hb4)
      go_quiet (fail)
      rename_i nq
      have HB5 := Aside0.mk (pw_below_drewN (HB4.out.alloc HB4.out.size (.cells #[.int .i64 s0, .int .i64 s1] 37)) nq)
      have HO5 := Aside0.mk (Kd.R_drewN (Kd.R_alloc HO4.out (.cells #[.int .i64 s0, .int .i64 s1] 37)) nq)
      have HX5 := Aside0.mk (blk_drewN (blk_alloc HX4.out (.cells #[.int .i64 s0, .int .i64 s1] 37)) nq)
      have HY5 := Aside0.mk (blk_drewN (blk_alloc HY4.out (.cells #[.int .i64 s0, .int .i64 s1] 37)) nq)
      have HZ5 := Aside0.mk (blk_drewN (World.alloc_heap_new w4 (.cells #[.int .i64 s0, .int .i64 s1] 37)) nq)
      clear hs0 hs1
      generalize (w4.alloc (.cells #[.int .i64 s0, .int .i64 s1] 37)).drewN nq = w5 at *
      have e1 : (if s0 < a then a else s0) = mx s0 a := rfl
      have e2 : (if b < s1 then b else s1) = mn s1 b := rfl
      rw [e1, e2]
      clear e1 e2
      have hm1 : 0 ≤ mx s0 a ∧ mx s0 a ≤ 17179869184 ∧ s0 ≤ mx s0 a := by unfold mx; split <;> omega
      have hm2 : mn s1 b ≤ 17179869184 ∧ mn s1 b ≤ s1 ∧ 0 ≤ mn s1 b := by unfold mn; split <;> omega
      generalize mx s0 a = A at *
      generalize mn s1 b = C at *
      have hy1 : w5.cell? ⟨wr.heap.size, 1, none⟩ = some (.int .i64 x.f1) := blk_cell HY5.out 1
      have hy2 : w5.cell? ⟨wr.heap.size, 2, none⟩ = some (.bool x.f2) := blk_cell HY5.out 2
      have hz0' : w5.cell? ⟨w4.heap.size, 0, none⟩ = some (.int .i64 s0) := blk_cell HZ5.out 0
      have hz1' : w5.cell? ⟨w4.heap.size, 1, none⟩ = some (.int .i64 s1) := blk_cell HZ5.out 1
      by_cases hAC : A < C
      · have hACb : decide (A < C) = true := decide_eq_true hAC
        rw [if_pos hAC] at hpn
        obtain ⟨x0, x1, x2⟩ := x
        dsimp only at *
        cases x2 with
        | true =>
          rw [if_pos rfl] at hpn
          have f1 : wrap64 (s1 - C) = s1 - C := by unfold wrap64; omega
          have f2 : wrap64 (p + (s1 - C)) = p + (s1 - C) := by unfold wrap64; omega
          have f3 : wrap64 (p + (s1 - C) + C) = p + (s1 - C) + C := by unfold wrap64; omega
          have f4 : wrap64 (p + (s1 - C) + C - A) = p + (s1 - C) + C - A := by unfold wrap64; omega
          have f5 : wrap64 (A - s0) = A - s0 := by unfold wrap64; omega
          go_wp2_with (at_builtin; (refine Kd.R_append k37 (w0 := w) w.heap.size rfl (.tmp 66) (.tmp 78) 41 37 (.agg #[.int .i64 0, .int .i64 0]) 16 rfl Try.underlying41 info37 (by decide) (by decide) (by decide) (.slice A7 O.length c7) O ⟨p + (s1 - C), p + (s1 - C) + C - A⟩ [.int .i64 (p + (s1 - C)), .int .i64 (p + (s1 - C) + C - A)] (fun k => k ≠ w.heap.size) (fun _ => False) rfl ?ax (k37_mkM _ _ _ _) (fun _ h => h.elim) ?af HO5.out HB5.out HB5.out.size (by omega) ?_; (case ax => first | rfl | (simp; done) | (simp; rfl)); (case af => exact fun k hk => by have h1 := blk_lt HX5.out; omega); intro v' w6 hr6 hb6 hg6 hat6; have HO6 := Aside0.mk hr6; have HB6 := Aside0.mk hb6; have HX6 := Aside0.mk (blk_grown HX5.out hg6 (Kd.R_away HO5.out (fun _ hk => hk))); have HY6 := Aside0.mk (blk_grown HY5.out hg6 (Kd.R_ne HO5.out HY5.out (by decide))); clear hr6 hb6 hg6 hat6; have hy1' := blk_cell HY6.out 1))
          go_roundw
          case rel => exact ⟨kk + 1, by go_num, by rw [htn.out], ⟨by omega⟩, ⟨by rw [hpn.out]; exact HO6.out⟩, HX6, HB6⟩
          case measure => simp [intOf]; omega
        | false =>
          rw [if_neg (by simp)] at hpn
          have f1 : wrap64 (A - s0) = A - s0 := by unfold wrap64; omega
          have f2 : wrap64 (p + (A - s0)) = p + (A - s0) := by unfold wrap64; omega
          have f3 : wrap64 (p + (A - s0) + C) = p + (A - s0) + C := by unfold wrap64; omega
          have f4 : wrap64 (p + (A - s0) + C - A) = p + (A - s0) + C - A := by unfold wrap64; omega
          go_wp2_with (at_builtin; (refine Kd.R_append k37 (w0 := w) w.heap.size rfl (.tmp 66) (.tmp 78) 41 37 (.agg #[.int .i64 0, .int .i64 0]) 16 rfl Try.underlying41 info37 (by decide) (by decide) (by decide) (.slice A7 O.length c7) O ⟨p + (A - s0), p + (A - s0) + C - A⟩ [.int .i64 (p + (A - s0)), .int .i64 (p + (A - s0) + C - A)] (fun k => k ≠ w.heap.size) (fun _ => False) rfl ?ax (k37_mkM _ _ _ _) (fun _ h => h.elim) ?af HO5.out HB5.out HB5.out.size (by omega) ?_; (case ax => first | rfl | (simp; done) | (simp; rfl)); (case af => exact fun k hk => by have h1 := blk_lt HX5.out; omega); intro v' w6 hr6 hb6 hg6 hat6; have HO6 := Aside0.mk hr6; have HB6 := Aside0.mk hb6; have HX6 := Aside0.mk (blk_grown HX5.out hg6 (Kd.R_away HO5.out (fun _ hk => hk))); have HY6 := Aside0.mk (blk_grown HY5.out hg6 (Kd.R_ne HO5.out HY5.out (by decide))); clear hr6 hb6 hg6 hat6; have hy1' := blk_cell HY6.out 1))
          go_roundw
          case rel => exact ⟨kk + 1, by go_num, by rw [htn.out], ⟨by omega⟩, ⟨by rw [hpn.out]; exact HO6.out⟩, HX6, HB6⟩
          case measure => simp [intOf]; omega
      · have hACb : decide (A < C) = false := decide_eq_false hAC
        rw [if_neg hAC, List.append_nil] at hpn
        go_wp2
        go_roundw
        case rel => exact ⟨kk + 1, by go_num, by rw [htn.out], ⟨by omega⟩, ⟨by rw [hpn.out]; exact HO5.out⟩, HX5, HB5⟩
        case measure => simp [intOf]; omega
    · have hd0 : decide (kk < l.length) = false := by simpa using hk
      have hfin : l.take kk = l := List.take_of_length_le (by omega)
      rw [hfin] at HO
      clear hfin
      obtain ⟨A7, c7, e7⟩ := Kd.R_slice HO.out
      subst e7
      go_wp2_with (go_at_call 58; (with_reducible refine (span_Norm.calls kn A7 c7 (findL 0 a b l) r1 r2 _ (Kd.R_reads' HO.out).2.2 (Kd.R_reads' HO.out).2.1 HKN.out).mono ?_); rintro e w7 ⟨v7, rfl, ho7, hb7⟩; have HO7 := Aside0.mk (Kd.R_lower ho7 HB.out.size); have HB7 := Aside0.mk (below_then HB.out HB.out.size hb7); clear ho7 hb7)
      refine bodyPost_ret (results_tmp2 rfl _ _ _) rfl ?_
      exact ⟨_, rfl, HO7.out, HB7.out⟩
set_option maxRecDepth 100000 in
set_option maxHeartbeats 16000000 in
theorem find_main (A0 : Option Addr) (c0 : Nat) (l : List S32) (a b : Int) (w : World) (hr : Kd.C k32 w A0 l.length l) (hc : l.length ≤ c0) :
    Calls Try.prog 31 #[.slice A0 l.length c0, .agg #[.int .i64 a, .int .i64 b]] w fun e w' => ∃ v, e = .returned (.tuple #[v, .int .i64 (find13 l a b).2]) ∧ Kd.R k37 37 w' w.heap.size (fun _ => True) v (find13 l a b).1 ∧ Below w.heap.size w w' := by
  unfold find13
  by_cases h0 : check13 l = 0
  · rw [if_pos h0]
    by_cases hbad : a < 0 ∨ a > b ∨ b > 17179869184
    · rw [if_pos hbad]
      have HBX := Aside0.mk ((Below.refl w.heap.size w).alloc (Nat.le_refl _) (.cells #[.int .i64 a, .int .i64 b] 37))
      have HR := Aside0.mk (Kd.C_below hr HBX.out)
      have HX0 := Aside0.mk (World.alloc_heap_new w (.cells #[.int .i64 a, .int .i64 b] 37))
      have HC := Aside0.mk hc
      clear hr hc
      obtain ⟨k1, hk1⟩ := (icheck_ends l).get
      rw [h0] at hk1
      have HK1 := Aside0.mk hk1
      clear hk1
      have hx : (decide (a < 0) || (decide (b < a) || decide (17179869184 < b))) = true := by simpa using hbad
      have h3 : decide (a < 0) = true ∨ decide (a < 0) = false := by cases decide (a < 0) <;> simp
      clear hbad
      rcases h3 with h3 | h3
      · clear hx
        go_enter Try.func31, Try.ntmps31
        go_wp2_with (go_at_call 14; (with_reducible refine (iso_Check.calls k1 A0 c0 l 0 _ HR.out HC.out HK1.out).mono ?_); rintro e w1 ⟨rfl, hb⟩; have HB1 := Aside0.mk (HBX.out.trans (hb.mono HBX.out.size)); have HX := Aside0.mk (blk_below HX0.out hb); have hxa : w1.cell? ⟨w.heap.size, 0, none⟩ = some (.int .i64 a) := (blk_cell HX.out 0); have hxb : w1.cell? ⟨w.heap.size, 1, none⟩ = some (.int .i64 b) := (blk_cell HX.out 1); clear hb)
        refine bodyPost_ret (results_tmp2 rfl _ _ _) rfl ?_
        exact ⟨.slice none 0 0, rfl, Kd.R_nil _ _ _ _ _, HB1.out⟩
      · rw [h3, Bool.false_or] at hx
        have h4 : decide (b < a) = true ∨ decide (b < a) = false := by cases decide (b < a) <;> simp
        rcases h4 with h4 | h4
        · clear hx
          go_enter Try.func31, Try.ntmps31
          go_wp2_with (go_at_call 14; (with_reducible refine (iso_Check.calls k1 A0 c0 l 0 _ HR.out HC.out HK1.out).mono ?_); rintro e w1 ⟨rfl, hb⟩; have HB1 := Aside0.mk (HBX.out.trans (hb.mono HBX.out.size)); have HX := Aside0.mk (blk_below HX0.out hb); have hxa : w1.cell? ⟨w.heap.size, 0, none⟩ = some (.int .i64 a) := (blk_cell HX.out 0); have hxb : w1.cell? ⟨w.heap.size, 1, none⟩ = some (.int .i64 b) := (blk_cell HX.out 1); clear hb)
          refine bodyPost_ret (results_tmp2 rfl _ _ _) rfl ?_
          exact ⟨.slice none 0 0, rfl, Kd.R_nil _ _ _ _ _, HB1.out⟩
        · rw [h4, Bool.false_or] at hx
          go_enter Try.func31, Try.ntmps31
          go_wp2_with (go_at_call 14; (with_reducible refine (iso_Check.calls k1 A0 c0 l 0 _ HR.out HC.out HK1.out).mono ?_); rintro e w1 ⟨rfl, hb⟩; have HB1 := Aside0.mk (HBX.out.trans (hb.mono HBX.out.size)); have HX := Aside0.mk (blk_below HX0.out hb); have hxa : w1.cell? ⟨w.heap.size, 0, none⟩ = some (.int .i64 a) := (blk_cell HX.out 0); have hxb : w1.cell? ⟨w.heap.size, 1, none⟩ = some (.int .i64 b) := (blk_cell HX.out 1); clear hb)
          refine bodyPost_ret (results_tmp2 rfl _ _ _) rfl ?_
          exact ⟨.slice none 0 0, rfl, Kd.R_nil _ _ _ _ _, HB1.out⟩
    · rw [if_neg hbad]
      exact find_far A0 c0 l a b w hr hc h0 (fun h => hbad (.inl h)) (fun h => hbad (.inr (.inl h))) (fun h => hbad (.inr (.inr h)))
  · have HBX := Aside0.mk ((Below.refl w.heap.size w).alloc (Nat.le_refl _) (.cells #[.int .i64 a, .int .i64 b] 37))
    have HR := Aside0.mk (Kd.C_below hr HBX.out)
    have HC := Aside0.mk hc
    obtain ⟨k1, hk1⟩ := (icheck_ends l).get
    have HK1 := Aside0.mk hk1
    have hne : (check13 l == 0) = false := by simpa using h0
    have hne1 : (check13 l != 0) = true := by simpa using h0
    rw [if_neg h0]
    clear hk1 h0 hr hc
    generalize check13 l = q at *
    go_enter Try.func31, Try.ntmps31
    go_wp2_with (go_at_call 14; (with_reducible refine (iso_Check.calls k1 A0 c0 l q _ HR.out HC.out HK1.out).mono ?_); rintro e w1 ⟨rfl, hb⟩; have HB1 := Aside0.mk (HBX.out.trans (hb.mono HBX.out.size)); clear hb)
    refine bodyPost_ret (results_tmp2 rfl _ _ _) rfl ?_
    exact ⟨_, rfl, Kd.R_nil _ _ _ _ _, HB1.out⟩
theorem iso_Find.calls (A0 : Option Addr) (c0 : Nat) (l0 : List (S32)) (a1_0 a1_1 : Int) (r1 : List (S37)) (r2 : Int) (w : World) (hr0 : Kd.C k32 w A0 l0.length l0) (hc0 : l0.length ≤ c0) (h : iso_Find.f l0 a1_0 a1_1 = some (r1, r2)) :
    Calls Try.prog 31 #[.slice A0 l0.length c0, .agg #[.int .i64 a1_0, .int .i64 a1_1]] w fun e w' => ∃ v0_ : Value, e = .returned (.tuple #[v0_, .int .i64 r2]) ∧ Kd.R k37 37 w' w.heap.size (fun _ => True) v0_ r1 ∧ Below w.heap.size w w' := by
  have e : find13 l0 a1_0 a1_1 = (r1, r2) := Option.some.inj h
  have := find_main A0 c0 l0 a1_0 a1_1 w hr0 hc0
  rw [e] at this
  exact this
end Go.Proofs.Ytcnkmdonbpgjiaa.G

namespace Go.Proofs.Ytcnkmdonbpgjiaa.G
open Go.RowKit Go.Proofs.YtcnkmdonbpgjiaaW.PrintWords Go.Proofs.YtcnkmdonbpgjiaaW.PrintLast Go.Proofs.YtcnkmdonbpgjiaaW.PrintMore
set_option linter.unusedVariables false
set_option linter.unusedSimpArgs false
def image13 (l : List S32) : List S37 × Int := if check13 l = 0 then bothOf (l.map imgS) [] 0 else ([], check13 l)
theorem iimage_l0 (l : List S32) (hl : l.length ≤ 256) (hg : ∀ r ∈ l, ¬ badR r) : ∀ (d i : Nat) (o : List S37), l.length - i = d → i ≤ l.length → o.length ≤ i → Ends (fun k => iso_Image.l0 k o l (l.length : Int) (i : Int)) (bothOf (o ++ (l.drop i).map imgS) [] 0) := by
  intro d
  induction d with
  | zero =>
    intro i o hd hi ho
    refine Ends.succ ?_
    simp only [iso_Image.l0]
    rw [List.drop_of_length_le (by omega), List.map_nil, List.append_nil]
    exact Ends.neg (by omega) (Ends.bind (norm_ends o) (Ends.ret _))
  | succ d ih =>
    intro i o hd hi ho
    refine Ends.succ ?_
    have hx := hg (rd_T32 l (i : Int)) (by rw [rdR l i (by omega)]; exact List.getElem_mem _)
    rw [dropR l i (by omega)]
    simp only [iso_Image.l0, wrap_nat i (by omega)]
    generalize rd_T32 l (i : Int) = r at *
    refine Ends.pos (by omega) (Ends.pos (by omega) (Ends.pos (by omega) (Ends.bind (Ends.const (images_is hx)) (Ends.pos (by omega) ?_))))
    refine (ih (i + 1) (o ++ [imgS r]) (by omega) (by omega) (by simp; omega)).congr ?_
    rw [List.append_assoc]
    rfl
theorem iimage_ends (l : List S32) : Ends (fun k => iso_Image.f k l) (image13 l) := by
  unfold iso_Image.f image13
  refine Ends.bind (icheck_ends l) ?_
  by_cases h : check13 l = 0
  · rw [if_pos h]
    obtain ⟨hl, hg, _⟩ := check13_zero h
    exact Ends.pos h ((iimage_l0 l hl hg _ 0 [] rfl (by omega) (by simp)).congr (by simp))
  · rw [if_neg h]
    exact Ends.neg h (Ends.ret _)
theorem ifind_ends (l : List S32) (a b : Int) : Ends (fun _ => iso_Find.f l a b) (find13 l a b) := Ends.const rfl
def single13 (l : List S32) : Bool := if (image13 l).2 = 0 then (if (totalOf (image13 l).1).2 = 0 then (totalOf (image13 l).1).1 == tot13 l else false) else false
theorem isingle_ends (l : List S32) : Ends (fun k => iso_Single.f k l) (single13 l) := by
  unfold iso_Single.f single13
  refine Ends.bind (iimage_ends l) ?_
  by_cases h : (image13 l).2 = 0
  · rw [if_pos h]
    have hc : check13 l = 0 := by
      by_cases hc : check13 l = 0
      · exact hc
      · unfold image13 at h; rw [if_neg hc] at h; exact absurd h hc
    obtain ⟨hl, hg, _⟩ := check13_zero hc
    refine Ends.pos h (Ends.bind (total_ends _) ?_)
    by_cases h2 : (totalOf (image13 l).1).2 = 0
    · rw [if_pos h2]
      exact Ends.pos h2 (Ends.bind (ilength_ends l (by omega) (fun r hr => by have := fit_of (hg r hr); unfold fitR at this; omega)) (Ends.ret _))
    · rw [if_neg h2]
      exact Ends.neg h2 (Ends.ret _)
  · rw [if_neg h]
    exact Ends.neg h (Ends.ret _)
end Go.Proofs.Ytcnkmdonbpgjiaa.G

namespace Go.Proofs.Ytcnkmdonbpgjiaa.G
open Go.RowKit Go.Proofs.YtcnkmdonbpgjiaaW.PrintWords Go.Proofs.YtcnkmdonbpgjiaaW.PrintLast Go.Proofs.YtcnkmdonbpgjiaaW.PrintMore
set_option linter.unusedVariables false
set_option linter.unusedSimpArgs false
theorem flat_get {α : Type} (enc : α → List Value) (sz : Nat) (hs : ∀ x, (enc x).length = sz) : ∀ (xs : List α) (j i : Nat) (p : α), xs[j]? = some p → i < sz → (xs.flatMap enc)[j * sz + i]? = (enc p)[i]?
  | [], j, i, p, h, _ => by simp at h
  | x :: xs, 0, i, p, h, hi => by
    simp at h; subst h
    rw [List.flatMap_cons, Nat.zero_mul, Nat.zero_add, List.getElem?_append_left (by rw [hs]; exact hi)]
  | x :: xs, j + 1, i, p, h, hi => by
    rw [List.flatMap_cons, List.getElem?_append_right (by rw [hs, Nat.add_mul]; omega), hs, show (j + 1) * sz + i - sz = j * sz + i by rw [Nat.add_mul]; omega]
    exact flat_get enc sz hs xs j i p (by simpa using h) hi
theorem C_block {α : Type} (d : Kd α) {W : World} {g e : Nat} {cells : Array Value} (xs : List α) (enc : α → List Value) (hK : ∀ x, d.K W x (enc x)) (hb : W.heap[g]? = some (.cells cells e (0, 0))) (hc : cells.toList = xs.flatMap enc) (hl : xs.length ≤ 9223372036854775807) :
    Kd.C d W (some ⟨g, 0, none⟩) xs.length xs :=
  ⟨rfl, hl, fun _ => ⟨_, rfl, fun j p hj => ⟨enc p, d.K_len (hK p), hK p, fun i u hu => by
    rw [add_plain, blk_cell hb]
    have hi : i < d.sz := by rw [← d.K_len (hK p)]; exact (List.getElem?_eq_some_iff.1 hu).1
    have := flat_get enc d.sz (fun x => d.K_len (hK x)) xs j i p hj hi
    rw [← hc, Array.getElem?_toList] at this
    rw [this]; exact hu⟩⟩⟩
theorem CI_block {W : World} {g : Nat} {cells : Array Value} (xs : List Int) (hb : W.heap[g]? = some (.cells cells 3 (0, 0))) (hc : cells.toList = xs.flatMap fun x => [.int .i64 x]) (hl : xs.length ≤ 1000) : Kd.C (Kd.int .i64) W (some ⟨g, 0, none⟩) xs.length xs :=
  C_block (Kd.int .i64) xs _ (fun x => rfl) hb hc (by omega)
end Go.Proofs.Ytcnkmdonbpgjiaa.G

namespace Go.Proofs.Ytcnkmdonbpgjiaa.G
open Go.RowKit Go.Proofs.YtcnkmdonbpgjiaaW.PrintWords Go.Proofs.YtcnkmdonbpgjiaaW.PrintLast Go.Proofs.YtcnkmdonbpgjiaaW.PrintMore
set_option linter.unusedVariables false
set_option linter.unusedSimpArgs false
theorem C37_block {W : World} {g : Nat} {cells : Array Value} (xs : List S37) (hb : W.heap[g]? = some (.cells cells 37 (0, 0))) (hc : cells.toList = xs.flatMap fun x => [.int .i64 x.f0, .int .i64 x.f1]) (hl : xs.length ≤ 1000) : Kd.C k37 W (some ⟨g, 0, none⟩) xs.length xs :=
  C_block k37 xs _ (fun x => k37_mk W x) hb hc (by omega)
end Go.Proofs.Ytcnkmdonbpgjiaa.G

namespace Go.Proofs.Ytcnkmdonbpgjiaa.G
open Go.RowKit Go.Proofs.YtcnkmdonbpgjiaaW.PrintWords Go.Proofs.YtcnkmdonbpgjiaaW.PrintLast Go.Proofs.YtcnkmdonbpgjiaaW.PrintMore
set_option linter.unusedVariables false
set_option linter.unusedSimpArgs false
theorem C32_block {W : World} {g : Nat} {cells : Array Value} (xs : List S32) (hb : W.heap[g]? = some (.cells cells 32 (0, 0))) (hc : cells.toList = xs.flatMap fun x => [.int .i64 x.f0, .int .i64 x.f1, .bool x.f2]) (hl : xs.length ≤ 1000) : Kd.C k32 W (some ⟨g, 0, none⟩) xs.length xs :=
  C_block k32 xs _ (fun x => k32_mk W x) hb hc (by omega)
end Go.Proofs.Ytcnkmdonbpgjiaa.G

namespace Go.Proofs.Ytcnkmdonbpgjiaa.G
open Go.RowKit Go.Proofs.YtcnkmdonbpgjiaaW.PrintWords Go.Proofs.YtcnkmdonbpgjiaaW.PrintLast Go.Proofs.YtcnkmdonbpgjiaaW.PrintMore
attribute [local go_sem] max2_int min2_int max_two min_two max_three min_three max_four min_four   -- for this text's walks alone
set_option linter.unusedVariables false
set_option linter.unusedSimpArgs false

theorem eqA32 (d : Nat) (w : World) (x0 y0 : Int) (x1 y1 : Int) (x2 y2 : Bool) :
    (Op.equalIn (d + 2) 32 (.agg #[.int .i64 x0, .int .i64 x1, .bool x2]) (.agg #[.int .i64 y0, .int .i64 y1, .bool y2])).run Try.prog w = .ok (x0 == y0 && (x1 == y1 && (x2 == y2))) w := by
  refine eqA_of Try.underlying32 (by kernel_rfl) ?_
  refine eqf_cons (by rfl) (by go_simp; rfl) (by go_simp; rfl) (by go_simp) ?_
  refine eqf_cons (by rfl) (by go_simp; rfl) (by go_simp; rfl) (by go_simp) ?_
  exact eqf_last (by rfl) (by go_simp; rfl) (by go_simp; rfl) (by go_simp)
end Go.Proofs.Ytcnkmdonbpgjiaa.G

namespace Go.Proofs.Ytcnkmdonbpgjiaa.G
open Go.RowKit Go.Proofs.YtcnkmdonbpgjiaaW.PrintWords Go.Proofs.YtcnkmdonbpgjiaaW.PrintLast Go.Proofs.YtcnkmdonbpgjiaaW.PrintMore
attribute [local go_sem] max2_int min2_int max_two min_two max_three min_three max_four min_four   -- for this text's walks alone
set_option linter.unusedVariables false
set_option linter.unusedSimpArgs false

attribute [local go_sem high] eqA32
def papermillref13_Same.l0 : Nat → List (S32) → List (S32) → Int → Option (Bool)
 | 0, _, _, _ => none
 | k + 1, x0, x1, x5 => if x5 < (x0.length : Int) then (if 0 ≤ x5 then (if x5 < (x1.length : Int) then (if (!(((rd_T32 x0 x5).f0) == ((rd_T32 x1 x5).f0)) || (!(((rd_T32 x0 x5).f1) == ((rd_T32 x1 x5).f1)) || (!(((rd_T32 x0 x5).f2) == ((rd_T32 x1 x5).f2))))) = true then (some false) else (papermillref13_Same.l0 k x0 x1 (wrap64 (x5 + 1)))) else (none)) else (none)) else (some true)
def papermillref13_Same.f (k : Nat) (l0 : List (S32)) (l1 : List (S32)) : Option (Bool) := if (l0.length : Int) = (l1.length : Int) then (papermillref13_Same.l0 k l0 l1 0) else (some false)
theorem papermillref13_Same.mono_l : ∀ k, (∀ y0 y1 y2, LeO (papermillref13_Same.l0 k y0 y1 y2) (papermillref13_Same.l0 (k + 1) y0 y1 y2))
 | 0 => fun _ _ _ r h => by simp [papermillref13_Same.l0] at h
 | k + 1 => by
  have ih0 := papermillref13_Same.mono_l k
  ·intro y0 y1 y2
   unfold papermillref13_Same.l0
   repeat' first
   | (with_reducible exact ih0 _ _ _)
   | (with_reducible exact LeO.refl _)
   | (with_reducible exact LeO.none _)
   | (with_reducible refine LeO.ite ?_ ?_)
   | (with_reducible refine LeO.bind ?_ (fun _ => ?_))
   | exact ih0 _ _ _
   | exact LeO.none _
   | refine LeO.ite ?_ ?_
   | refine LeO.bind ?_ (fun _ => ?_)
theorem papermillref13_Same.mono : ∀ a0 a1 k, LeO (papermillref13_Same.f k a0 a1) (papermillref13_Same.f (k + 1) a0 a1) := by
 intro a0 a1 k
 have ih0 := papermillref13_Same.mono_l k
 unfold papermillref13_Same.f
 repeat' first
   | (with_reducible exact ih0 _ _ _)
   | (with_reducible exact LeO.refl _)
   | (with_reducible exact LeO.none _)
   | (with_reducible refine LeO.ite ?_ ?_)
   | (with_reducible refine LeO.bind ?_ (fun _ => ?_))
   | exact ih0 _ _ _
   | exact LeO.none _
   | refine LeO.ite ?_ ?_
   | refine LeO.bind ?_ (fun _ => ?_)
set_option maxHeartbeats 8000000 in
set_option maxRecDepth 100000 in
theorem papermillref13_Same.calls (k : Nat) (A0 : Option Addr) (c0 : Nat) (l0 : List (S32)) (A1 : Option Addr) (c1 : Nat) (l1 : List (S32)) (r : Bool) (w : World) (hr0 : Kd.C k32 w A0 l0.length l0) (hc0 : l0.length ≤ c0) (hr1 : Kd.C k32 w A1 l1.length l1) (hc1 : l1.length ≤ c1) (h : papermillref13_Same.f k l0 l1 = some r) :
  Calls Try.prog 20 #[.slice A0 l0.length c0, .slice A1 l1.length c1] w fun e w' => e = .returned (.bool r) ∧ Drawn0 w w' := by
 have hu32 := Try.underlying32
 have HR0 := Aside0.mk hr0
 have HC0 := Aside0.mk hc0
 clear hr0 hc0
 have HR1 := Aside0.mk hr1
 have HC1 := Aside0.mk hc1
 clear hr1 hc1
 have H : (if (l0.length : Int) = (l1.length : Int) then (papermillref13_Same.l0 k l0 l1 0) else (some false)) = some r := h
 clear h
 by_cases c3 : (l0.length : Int) = (l1.length : Int)
 ·rw [if_pos c3] at H
  have c3b0 : ((l0.length : Int) == (l1.length : Int)) = true := beq_iff_eq.mpr c3
  have c3b1 : ((l0.length : Int) != (l1.length : Int)) = false := bne_eq_false_iff_eq.mpr c3
  have c3b2 : (l0.length == l1.length) = true := by first | simpa using c3 | (simp at c3 ⊢; omega)
  clear c3
  have H' := Aside0.mk H
  clear H
  go_enter Try.func20, Try.ntmps20
  go_wp2
  repeat (go_quiet (fail); try go_wp2)
  go_loopg [5] k (fun kq v5 w' => ∃ (x5_1 : Int), v5 = .int .i64 x5_1 ∧ Aside0 (papermillref13_Same.l0 kq l0 l1 x5_1 = some r) ∧ Aside0 (kq ≤ k) ∧ Drawn0 w w')
  case atStart => exact ⟨(0), (by first | rfl | (simp; done) | (simp [*]; done)), H', ⟨Nat.le_refl _⟩, by repeat (first | exact Drawn0.refl _ | apply Drawn0.step)⟩
  case round =>
   clear H'
   try clear c1
   try clear c2
   try clear p2
   try clear c3
   try clear c3b0
   try clear c3b1
   try clear c3b2
   obtain ⟨x5_1, rfl, HA, HK1, ⟨m1, rfl⟩⟩ := hrel
   cases gk with
   | zero => exact absurd HA.out (by simp [papermillref13_Same.l0])
   | succ k1 =>
    have H := HA.out
    clear HA
    simp only [papermillref13_Same.l0] at H
    by_cases c4 : x5_1 < (l0.length : Int)
    ·rw [if_pos c4] at H
     have c4b0 : decide (x5_1 < (l0.length : Int)) = true := decide_eq_true c4
     clear c4
     by_cases c5 : 0 ≤ x5_1
     ·rw [if_pos c5] at H
      have c5b0 : decide (0 ≤ x5_1) = true := decide_eq_true c5
      clear c5
      by_cases c6 : x5_1 < (l1.length : Int)
      ·rw [if_pos c6] at H
       have c6b0 : decide (x5_1 < (l1.length : Int)) = true := decide_eq_true c6
       clear c6
       by_cases c7 : (!(((rd_T32 l0 x5_1).f0) == ((rd_T32 l1 x5_1).f0)) || (!(((rd_T32 l0 x5_1).f1) == ((rd_T32 l1 x5_1).f1)) || (!(((rd_T32 l0 x5_1).f2) == ((rd_T32 l1 x5_1).f2))))) = true
       ·rw [if_pos c7] at H
        have c7b0 : (!(((rd_T32 l0 x5_1).f0) == ((rd_T32 l1 x5_1).f0)) || (!(((rd_T32 l0 x5_1).f1) == ((rd_T32 l1 x5_1).f1)) || (!(((rd_T32 l0 x5_1).f2) == ((rd_T32 l1 x5_1).f2))))) = true := c7
        clear c7
        obtain rfl := Option.some.inj H
        have p21001 : 0 ≤ (x5_1 : Int) := of_decide_eq_true (by assumption)
        have q21001 : x5_1 < (l0.length : Int) := of_decide_eq_true (by assumption)
        obtain ⟨ad21001, e21001, hx21001_0, hx21001_1, hx21001_2⟩ := at_T32 HR0.out x5_1 p21001 q21001
        cases e21001
        replace p21001 := eq_true p21001
        replace q21001 := eq_true q21001
        have p21002 : 0 ≤ (x5_1 : Int) := of_decide_eq_true (by assumption)
        have q21002 : x5_1 < (l1.length : Int) := of_decide_eq_true (by assumption)
        obtain ⟨ad21002, e21002, hx21002_0, hx21002_1, hx21002_2⟩ := at_T32 HR1.out x5_1 p21002 q21002
        cases e21002
        replace p21002 := eq_true p21002
        replace q21002 := eq_true q21002
        go_wp2
        repeat (go_quiet (fail); try go_wp2)
        go_ret
        exact ⟨by first | rfl | (simp; done) | (simp [*]; done), by repeat (first | exact Drawn0.refl _ | apply Drawn0.step)⟩
       ·rw [if_neg c7] at H
        have c7b0 : (!(((rd_T32 l0 x5_1).f0) == ((rd_T32 l1 x5_1).f0)) || (!(((rd_T32 l0 x5_1).f1) == ((rd_T32 l1 x5_1).f1)) || (!(((rd_T32 l0 x5_1).f2) == ((rd_T32 l1 x5_1).f2))))) = false := by simpa using c7
        clear c7
        have H' := Aside0.mk H
        clear H
        have p21001 : 0 ≤ (x5_1 : Int) := of_decide_eq_true (by assumption)
        have q21001 : x5_1 < (l0.length : Int) := of_decide_eq_true (by assumption)
        obtain ⟨ad21001, e21001, hx21001_0, hx21001_1, hx21001_2⟩ := at_T32 HR0.out x5_1 p21001 q21001
        cases e21001
        replace p21001 := eq_true p21001
        replace q21001 := eq_true q21001
        have p21002 : 0 ≤ (x5_1 : Int) := of_decide_eq_true (by assumption)
        have q21002 : x5_1 < (l1.length : Int) := of_decide_eq_true (by assumption)
        obtain ⟨ad21002, e21002, hx21002_0, hx21002_1, hx21002_2⟩ := at_T32 HR1.out x5_1 p21002 q21002
        cases e21002
        replace p21002 := eq_true p21002
        replace q21002 := eq_true q21002
        go_wp2
        repeat (go_quiet (fail); try go_wp2)
        go_roundg k1
        case measure => have := HK1.out; omega
        case rel => exact ⟨(wrap64 (x5_1 + 1)), (by first | rfl | (simp; done) | (simp [*]; done)), H', ⟨by have := HK1.out; omega⟩, by repeat (first | exact Drawn0.refl _ | apply Drawn0.step)⟩
      ·rw [if_neg c6] at H
       exact absurd H (by simp)
     ·rw [if_neg c5] at H
      exact absurd H (by simp)
    ·rw [if_neg c4] at H
     have c4b0 : decide (x5_1 < (l0.length : Int)) = false := decide_eq_false c4
     clear c4
     obtain rfl := Option.some.inj H
     go_wp2
     repeat (go_quiet (fail); try go_wp2)
     go_ret
     exact ⟨by first | rfl | (simp; done) | (simp [*]; done), by repeat (first | exact Drawn0.refl _ | apply Drawn0.step)⟩
 ·rw [if_neg c3] at H
  have c3b0 : ((l0.length : Int) == (l1.length : Int)) = false := beq_eq_false_iff_ne.mpr c3
  have c3b1 : ((l0.length : Int) != (l1.length : Int)) = true := bne_iff_ne.mpr c3
  have c3b2 : (l0.length == l1.length) = false := by first | simpa using c3 | (simp at c3 ⊢; omega)
  obtain rfl := Option.some.inj H
  go_enter Try.func20, Try.ntmps20
  go_wp2
  repeat (go_quiet (fail); try go_wp2)
  go_ret
  exact ⟨by first | rfl | (simp; done) | (simp [*]; done), by repeat (first | exact Drawn0.refl _ | apply Drawn0.step)⟩

end Go.Proofs.Ytcnkmdonbpgjiaa.G

namespace Go.Proofs.Ytcnkmdonbpgjiaa.G
open Go.RowKit Go.Proofs.YtcnkmdonbpgjiaaW.PrintWords Go.Proofs.YtcnkmdonbpgjiaaW.PrintLast Go.Proofs.YtcnkmdonbpgjiaaW.PrintMore
attribute [local go_sem] max2_int min2_int max_two min_two max_three min_three max_four min_four   -- for this text's walks alone
set_option linter.unusedVariables false
set_option linter.unusedSimpArgs false

attribute [local go_sem high] eqA37
def papermillref04_Same.l0 : Nat → List (S37) → List (S37) → Int → Option (Bool)
 | 0, _, _, _ => none
 | k + 1, x0, x1, x5 => if x5 < (x0.length : Int) then (if 0 ≤ x5 then (if x5 < (x1.length : Int) then (if (!(((rd_T37 x0 x5).f0) == ((rd_T37 x1 x5).f0)) || (!(((rd_T37 x0 x5).f1) == ((rd_T37 x1 x5).f1)))) = true then (some false) else (papermillref04_Same.l0 k x0 x1 (wrap64 (x5 + 1)))) else (none)) else (none)) else (some true)
def papermillref04_Same.f (k : Nat) (l0 : List (S37)) (l1 : List (S37)) : Option (Bool) := if (l0.length : Int) = (l1.length : Int) then (papermillref04_Same.l0 k l0 l1 0) else (some false)
theorem papermillref04_Same.mono_l : ∀ k, (∀ y0 y1 y2, LeO (papermillref04_Same.l0 k y0 y1 y2) (papermillref04_Same.l0 (k + 1) y0 y1 y2))
 | 0 => fun _ _ _ r h => by simp [papermillref04_Same.l0] at h
 | k + 1 => by
  have ih0 := papermillref04_Same.mono_l k
  ·intro y0 y1 y2
   unfold papermillref04_Same.l0
   repeat' first
   | (with_reducible exact ih0 _ _ _)
   | (with_reducible exact LeO.refl _)
   | (with_reducible exact LeO.none _)
   | (with_reducible refine LeO.ite ?_ ?_)
   | (with_reducible refine LeO.bind ?_ (fun _ => ?_))
   | exact ih0 _ _ _
   | exact LeO.none _
   | refine LeO.ite ?_ ?_
   | refine LeO.bind ?_ (fun _ => ?_)
theorem papermillref04_Same.mono : ∀ a0 a1 k, LeO (papermillref04_Same.f k a0 a1) (papermillref04_Same.f (k + 1) a0 a1) := by
 intro a0 a1 k
 have ih0 := papermillref04_Same.mono_l k
 unfold papermillref04_Same.f
 repeat' first
   | (with_reducible exact ih0 _ _ _)
   | (with_reducible exact LeO.refl _)
   | (with_reducible exact LeO.none _)
   | (with_reducible refine LeO.ite ?_ ?_)
   | (with_reducible refine LeO.bind ?_ (fun _ => ?_))
   | exact ih0 _ _ _
   | exact LeO.none _
   | refine LeO.ite ?_ ?_
   | refine LeO.bind ?_ (fun _ => ?_)
set_option maxHeartbeats 8000000 in
set_option maxRecDepth 100000 in
theorem papermillref04_Same.calls (k : Nat) (A0 : Option Addr) (c0 : Nat) (l0 : List (S37)) (A1 : Option Addr) (c1 : Nat) (l1 : List (S37)) (r : Bool) (w : World) (hr0 : Kd.C k37 w A0 l0.length l0) (hc0 : l0.length ≤ c0) (hr1 : Kd.C k37 w A1 l1.length l1) (hc1 : l1.length ≤ c1) (h : papermillref04_Same.f k l0 l1 = some r) :
  Calls Try.prog 33 #[.slice A0 l0.length c0, .slice A1 l1.length c1] w fun e w' => e = .returned (.bool r) ∧ Drawn0 w w' := by
 have hu37 := Try.underlying37
 have HR0 := Aside0.mk hr0
 have HC0 := Aside0.mk hc0
 clear hr0 hc0
 have HR1 := Aside0.mk hr1
 have HC1 := Aside0.mk hc1
 clear hr1 hc1
 have H : (if (l0.length : Int) = (l1.length : Int) then (papermillref04_Same.l0 k l0 l1 0) else (some false)) = some r := h
 clear h
 by_cases c3 : (l0.length : Int) = (l1.length : Int)
 ·rw [if_pos c3] at H
  have c3b0 : ((l0.length : Int) == (l1.length : Int)) = true := beq_iff_eq.mpr c3
  have c3b1 : ((l0.length : Int) != (l1.length : Int)) = false := bne_eq_false_iff_eq.mpr c3
  have c3b2 : (l0.length == l1.length) = true := by first | simpa using c3 | (simp at c3 ⊢; omega)
  clear c3
  have H' := Aside0.mk H
  clear H
  go_enter Try.func33, Try.ntmps33
  go_wp2
  repeat (go_quiet (fail); try go_wp2)
  go_loopg [5] k (fun kq v5 w' => ∃ (x5_1 : Int), v5 = .int .i64 x5_1 ∧ Aside0 (papermillref04_Same.l0 kq l0 l1 x5_1 = some r) ∧ Aside0 (kq ≤ k) ∧ Drawn0 w w')
  case atStart => exact ⟨(0), (by first | rfl | (simp; done) | (simp [*]; done)), H', ⟨Nat.le_refl _⟩, by repeat (first | exact Drawn0.refl _ | apply Drawn0.step)⟩
  case round =>
   clear H'
   try clear c1
   try clear p2
   try clear c3
   try clear c3b0
   try clear c3b1
   try clear c3b2
   obtain ⟨x5_1, rfl, HA, HK1, ⟨m1, rfl⟩⟩ := hrel
   cases gk with
   | zero => exact absurd HA.out (by simp [papermillref04_Same.l0])
   | succ k1 =>
    have H := HA.out
    clear HA
    simp only [papermillref04_Same.l0] at H
    by_cases c4 : x5_1 < (l0.length : Int)
    ·rw [if_pos c4] at H
     have c4b0 : decide (x5_1 < (l0.length : Int)) = true := decide_eq_true c4
     clear c4
     by_cases c5 : 0 ≤ x5_1
     ·rw [if_pos c5] at H
      have c5b0 : decide (0 ≤ x5_1) = true := decide_eq_true c5
      clear c5
      by_cases c6 : x5_1 < (l1.length : Int)
      ·rw [if_pos c6] at H
       have c6b0 : decide (x5_1 < (l1.length : Int)) = true := decide_eq_true c6
       clear c6
       by_cases c7 : (!(((rd_T37 l0 x5_1).f0) == ((rd_T37 l1 x5_1).f0)) || (!(((rd_T37 l0 x5_1).f1) == ((rd_T37 l1 x5_1).f1)))) = true
       ·rw [if_pos c7] at H
        have c7b0 : (!(((rd_T37 l0 x5_1).f0) == ((rd_T37 l1 x5_1).f0)) || (!(((rd_T37 l0 x5_1).f1) == ((rd_T37 l1 x5_1).f1)))) = true := c7
        clear c7
        obtain rfl := Option.some.inj H
        have p34001 : 0 ≤ (x5_1 : Int) := of_decide_eq_true (by assumption)
        have q34001 : x5_1 < (l0.length : Int) := of_decide_eq_true (by assumption)
        obtain ⟨ad34001, e34001, hx34001_0, hx34001_1⟩ := at_T37 HR0.out x5_1 p34001 q34001
        cases e34001
        replace p34001 := eq_true p34001
        replace q34001 := eq_true q34001
        have p34002 : 0 ≤ (x5_1 : Int) := of_decide_eq_true (by assumption)
        have q34002 : x5_1 < (l1.length : Int) := of_decide_eq_true (by assumption)
        obtain ⟨ad34002, e34002, hx34002_0, hx34002_1⟩ := at_T37 HR1.out x5_1 p34002 q34002
        cases e34002
        replace p34002 := eq_true p34002
        replace q34002 := eq_true q34002
        go_wp2
        repeat (go_quiet (fail); try go_wp2)
        go_ret
        exact ⟨by first | rfl | (simp; done) | (simp [*]; done), by repeat (first | exact Drawn0.refl _ | apply Drawn0.step)⟩
       ·rw [if_neg c7] at H
        have c7b0 : (!(((rd_T37 l0 x5_1).f0) == ((rd_T37 l1 x5_1).f0)) || (!(((rd_T37 l0 x5_1).f1) == ((rd_T37 l1 x5_1).f1)))) = false := by simpa using c7
        clear c7
        have H' := Aside0.mk H
        clear H
        have p34001 : 0 ≤ (x5_1 : Int) := of_decide_eq_true (by assumption)
        have q34001 : x5_1 < (l0.length : Int) := of_decide_eq_true (by assumption)
        obtain ⟨ad34001, e34001, hx34001_0, hx34001_1⟩ := at_T37 HR0.out x5_1 p34001 q34001
        cases e34001
        replace p34001 := eq_true p34001
        replace q34001 := eq_true q34001
        have p34002 : 0 ≤ (x5_1 : Int) := of_decide_eq_true (by assumption)
        have q34002 : x5_1 < (l1.length : Int) := of_decide_eq_true (by assumption)
        obtain ⟨ad34002, e34002, hx34002_0, hx34002_1⟩ := at_T37 HR1.out x5_1 p34002 q34002
        cases e34002
        replace p34002 := eq_true p34002
        replace q34002 := eq_true q34002
        go_wp2
        repeat (go_quiet (fail); try go_wp2)
        go_roundg k1
        case measure => have := HK1.out; omega
        case rel => exact ⟨(wrap64 (x5_1 + 1)), (by first | rfl | (simp; done) | (simp [*]; done)), H', ⟨by have := HK1.out; omega⟩, by repeat (first | exact Drawn0.refl _ | apply Drawn0.step)⟩
      ·rw [if_neg c6] at H
       exact absurd H (by simp)
     ·rw [if_neg c5] at H
      exact absurd H (by simp)
    ·rw [if_neg c4] at H
     have c4b0 : decide (x5_1 < (l0.length : Int)) = false := decide_eq_false c4
     clear c4
     obtain rfl := Option.some.inj H
     go_wp2
     repeat (go_quiet (fail); try go_wp2)
     go_ret
     exact ⟨by first | rfl | (simp; done) | (simp [*]; done), by repeat (first | exact Drawn0.refl _ | apply Drawn0.step)⟩
 ·rw [if_neg c3] at H
  have c3b0 : ((l0.length : Int) == (l1.length : Int)) = false := beq_eq_false_iff_ne.mpr c3
  have c3b1 : ((l0.length : Int) != (l1.length : Int)) = true := bne_iff_ne.mpr c3
  have c3b2 : (l0.length == l1.length) = false := by first | simpa using c3 | (simp at c3 ⊢; omega)
  obtain rfl := Option.some.inj H
  go_enter Try.func33, Try.ntmps33
  go_wp2
  repeat (go_quiet (fail); try go_wp2)
  go_ret
  exact ⟨by first | rfl | (simp; done) | (simp [*]; done), by repeat (first | exact Drawn0.refl _ | apply Drawn0.step)⟩

end Go.Proofs.Ytcnkmdonbpgjiaa.G

namespace Go.Proofs.Ytcnkmdonbpgjiaa.G
open Go.RowKit Go.Proofs.YtcnkmdonbpgjiaaW.PrintWords Go.Proofs.YtcnkmdonbpgjiaaW.PrintLast Go.Proofs.YtcnkmdonbpgjiaaW.PrintMore
set_option linter.unusedVariables false
set_option linter.unusedSimpArgs false
attribute [local go_sem] max2_int min2_int max_two min_two max_three min_three max_four min_four   -- for this text's walks alone
theorem nilC_papermilllaw13 {α : Type} (d : Kd α) (w : World) : Kd.C d w none ([] : List α).length [] := ⟨rfl, by simp, fun h => absurd h (by simp)⟩
def papermilllaw13_awake.f : Option Bool := some true
set_option maxHeartbeats 16000000 in
set_option maxRecDepth 100000 in
theorem papermilllaw13_awake.calls (r : Bool) (w : World) (h : papermilllaw13_awake.f = some r) : Calls Try.prog 13 #[] w fun e w' => e = .returned (.bool r) ∧ Below w.heap.size w w' := by
  obtain rfl := Option.some.inj h
  have HB := Aside0.mk (Below.refl w.heap.size w)
  go_enter Try.func13, Try.ntmps13
  go_wp2_with fail
  have qL1 : (w.alloc (.cells #[.int .i64 10, .int .i64 3, .bool false, .int .i64 7, .int .i64 2, .bool true] 32)).heap[w.heap.size]? = some (.cells #[.int .i64 10, .int .i64 3, .bool false, .int .i64 7, .int .i64 2, .bool true] 32 (0, 0)) := by have h_ := World.alloc_heap_new w (.cells #[.int .i64 10, .int .i64 3, .bool false, .int .i64 7, .int .i64 2, .bool true] 32); exact h_
  replace HB := Aside0.mk (below_alloc HB.out (.cells #[.int .i64 10, .int .i64 3, .bool false, .int .i64 7, .int .i64 2, .bool true] 32))
  generalize hw_ : (w.alloc (.cells #[.int .i64 10, .int .i64 3, .bool false, .int .i64 7, .int .i64 2, .bool true] 32)) = w2 at qL1 HB ⊢
  have L1 := Aside0.mk (C32_block ([⟨10, 3, false⟩, ⟨7, 2, true⟩] : List (S32)) qL1 rfl (by decide))
  clear hw_ qL1
  refine (iso_At.calls _ _ ([⟨10, 3, false⟩, ⟨7, 2, true⟩] : List (S32)) 2 12 0 _ L1.out (by decide) (show iso_At.f ([⟨10, 3, false⟩, ⟨7, 2, true⟩] : List (S32)) 2 = some (12, 0) from (by kernel_rfl))).mono ?_
  rintro e w3 ⟨rfl, hb⟩
  replace L1 := Aside0.mk (Kd.C_below L1.out hb)
  replace HB := Aside0.mk (below_then HB.out HB.out.size hb)
  clear hb
  go_wp2_with fail
  refine (iso_At.calls _ _ ([⟨10, 3, false⟩, ⟨7, 2, true⟩] : List (S32)) 4 6 0 _ L1.out (by decide) (show iso_At.f ([⟨10, 3, false⟩, ⟨7, 2, true⟩] : List (S32)) 4 = some (6, 0) from (by kernel_rfl))).mono ?_
  rintro e w4 ⟨rfl, hb⟩
  replace L1 := Aside0.mk (Kd.C_below L1.out hb)
  replace HB := Aside0.mk (below_then HB.out HB.out.size hb)
  clear hb
  go_wp2_with fail
  have qL5 : (w4.alloc (.cells #[.int .i64 5, .int .i64 1, .bool false, .int .i64 6, .int .i64 2, .bool false, .int .i64 6, .int .i64 1, .bool false] 32)).heap[w4.heap.size]? = some (.cells #[.int .i64 5, .int .i64 1, .bool false, .int .i64 6, .int .i64 2, .bool false, .int .i64 6, .int .i64 1, .bool false] 32 (0, 0)) := by have h_ := World.alloc_heap_new w4 (.cells #[.int .i64 5, .int .i64 1, .bool false, .int .i64 6, .int .i64 2, .bool false, .int .i64 6, .int .i64 1, .bool false] 32); exact h_
  replace L1 := Aside0.mk (Kd.C_alloc L1.out (.cells #[.int .i64 5, .int .i64 1, .bool false, .int .i64 6, .int .i64 2, .bool false, .int .i64 6, .int .i64 1, .bool false] 32))
  replace HB := Aside0.mk (below_alloc HB.out (.cells #[.int .i64 5, .int .i64 1, .bool false, .int .i64 6, .int .i64 2, .bool false, .int .i64 6, .int .i64 1, .bool false] 32))
  generalize hw_ : (w4.alloc (.cells #[.int .i64 5, .int .i64 1, .bool false, .int .i64 6, .int .i64 2, .bool false, .int .i64 6, .int .i64 1, .bool false] 32)) = w6 at qL5 L1 HB ⊢
  have L5 := Aside0.mk (C32_block ([⟨5, 1, false⟩, ⟨6, 2, false⟩, ⟨6, 1, false⟩] : List (S32)) qL5 rfl (by decide))
  clear hw_ qL5
  refine (iso_Norm.calls _ _ ([⟨5, 1, false⟩, ⟨6, 2, false⟩, ⟨6, 1, false⟩] : List (S32)) ([⟨5, 3, false⟩, ⟨6, 1, false⟩] : List (S32)) 0 _ L5.out (by decide) (show iso_Norm.f ([⟨5, 1, false⟩, ⟨6, 2, false⟩, ⟨6, 1, false⟩] : List (S32)) = some (([⟨5, 3, false⟩, ⟨6, 1, false⟩] : List (S32)), 0) from (by kernel_rfl))).mono ?_
  rintro e w7 ⟨v7_0, rfl, h7_0, hb⟩
  obtain ⟨A7_0, c7_0, e_, hc_L7_0, hr_L7_0⟩ := Kd.R_reads h7_0
  subst e_
  have L7_0 := Aside0.mk hr_L7_0
  have HCL7_0 := Aside0.mk hc_L7_0
  clear hr_L7_0 hc_L7_0 h7_0
  replace L1 := Aside0.mk (Kd.C_below L1.out hb)
  replace L5 := Aside0.mk (Kd.C_below L5.out hb)
  replace HB := Aside0.mk (below_then HB.out HB.out.size hb)
  clear hb
  clear L5
  go_wp2_with fail
  have qL8 : ((w7.alloc (.cells #[.int .i64 2, .int .i64 2, .bool true] 32)).alloc (.cells #[.int .i64 10, .int .i64 5, .bool false] 32)).heap[w7.heap.size]? = some (.cells #[.int .i64 2, .int .i64 2, .bool true] 32 (0, 0)) := by exact blk_alloc (by have h_ := World.alloc_heap_new w7 (.cells #[.int .i64 2, .int .i64 2, .bool true] 32); exact h_) _
  have qL9 : ((w7.alloc (.cells #[.int .i64 2, .int .i64 2, .bool true] 32)).alloc (.cells #[.int .i64 10, .int .i64 5, .bool false] 32)).heap[w7.heap.size + 1]? = some (.cells #[.int .i64 10, .int .i64 5, .bool false] 32 (0, 0)) := by have h_ := World.alloc_heap_new (w7.alloc (.cells #[.int .i64 2, .int .i64 2, .bool true] 32)) (.cells #[.int .i64 10, .int .i64 5, .bool false] 32); (simp only [World.size_alloc] at h_); exact h_
  replace L1 := Aside0.mk (Kd.C_alloc (Kd.C_alloc L1.out (.cells #[.int .i64 2, .int .i64 2, .bool true] 32)) (.cells #[.int .i64 10, .int .i64 5, .bool false] 32))
  replace L7_0 := Aside0.mk (Kd.C_alloc (Kd.C_alloc L7_0.out (.cells #[.int .i64 2, .int .i64 2, .bool true] 32)) (.cells #[.int .i64 10, .int .i64 5, .bool false] 32))
  replace HB := Aside0.mk (below_alloc (below_alloc HB.out (.cells #[.int .i64 2, .int .i64 2, .bool true] 32)) (.cells #[.int .i64 10, .int .i64 5, .bool false] 32))
  generalize hw_ : ((w7.alloc (.cells #[.int .i64 2, .int .i64 2, .bool true] 32)).alloc (.cells #[.int .i64 10, .int .i64 5, .bool false] 32)) = w10 at qL8 qL9 L1 L7_0 HB ⊢
  have L8 := Aside0.mk (C32_block ([⟨2, 2, true⟩] : List (S32)) qL8 rfl (by decide))
  have L9 := Aside0.mk (C32_block ([⟨10, 5, false⟩] : List (S32)) qL9 rfl (by decide))
  clear hw_ qL8 qL9
  refine (iso_Compose.calls _ _ ([⟨2, 2, true⟩] : List (S32)) _ _ ([⟨10, 5, false⟩] : List (S32)) ([⟨12, 2, true⟩] : List (S32)) 0 _ L8.out (by decide) L9.out (by decide) (show iso_Compose.f ([⟨2, 2, true⟩] : List (S32)) ([⟨10, 5, false⟩] : List (S32)) = some (([⟨12, 2, true⟩] : List (S32)), 0) from (by kernel_rfl))).mono ?_
  rintro e w11 ⟨v11_0, rfl, h11_0, hb⟩
  obtain ⟨A11_0, c11_0, e_, hc_L11_0, hr_L11_0⟩ := Kd.R_reads h11_0
  subst e_
  have L11_0 := Aside0.mk hr_L11_0
  have HCL11_0 := Aside0.mk hc_L11_0
  clear hr_L11_0 hc_L11_0 h11_0
  replace L1 := Aside0.mk (Kd.C_below L1.out hb)
  replace L7_0 := Aside0.mk (Kd.C_below L7_0.out hb)
  replace L8 := Aside0.mk (Kd.C_below L8.out hb)
  replace L9 := Aside0.mk (Kd.C_below L9.out hb)
  replace HB := Aside0.mk (below_then HB.out HB.out.size hb)
  clear hb
  clear L8
  clear L9
  go_wp2_with fail
  have qL12 : (w11.alloc (.cells #[.int .i64 10, .int .i64 3, .bool false] 32)).heap[w11.heap.size]? = some (.cells #[.int .i64 10, .int .i64 3, .bool false] 32 (0, 0)) := by have h_ := World.alloc_heap_new w11 (.cells #[.int .i64 10, .int .i64 3, .bool false] 32); exact h_
  replace L1 := Aside0.mk (Kd.C_alloc L1.out (.cells #[.int .i64 10, .int .i64 3, .bool false] 32))
  replace L7_0 := Aside0.mk (Kd.C_alloc L7_0.out (.cells #[.int .i64 10, .int .i64 3, .bool false] 32))
  replace L11_0 := Aside0.mk (Kd.C_alloc L11_0.out (.cells #[.int .i64 10, .int .i64 3, .bool false] 32))
  replace HB := Aside0.mk (below_alloc HB.out (.cells #[.int .i64 10, .int .i64 3, .bool false] 32))
  generalize hw_ : (w11.alloc (.cells #[.int .i64 10, .int .i64 3, .bool false] 32)) = w13 at qL12 L1 L7_0 L11_0 HB ⊢
  have L12 := Aside0.mk (C32_block ([⟨10, 3, false⟩] : List (S32)) qL12 rfl (by decide))
  clear hw_ qL12
  refine (iso_Reverse.calls _ _ ([⟨10, 3, false⟩] : List (S32)) ([⟨12, 3, true⟩] : List (S32)) 0 _ L12.out (by decide) (show iso_Reverse.f ([⟨10, 3, false⟩] : List (S32)) = some (([⟨12, 3, true⟩] : List (S32)), 0) from (by kernel_rfl))).mono ?_
  rintro e w14 ⟨v14_0, rfl, h14_0, hb⟩
  obtain ⟨A14_0, c14_0, e_, hc_L14_0, hr_L14_0⟩ := Kd.R_reads h14_0
  subst e_
  have L14_0 := Aside0.mk hr_L14_0
  have HCL14_0 := Aside0.mk hc_L14_0
  clear hr_L14_0 hc_L14_0 h14_0
  replace L1 := Aside0.mk (Kd.C_below L1.out hb)
  replace L7_0 := Aside0.mk (Kd.C_below L7_0.out hb)
  replace L11_0 := Aside0.mk (Kd.C_below L11_0.out hb)
  replace L12 := Aside0.mk (Kd.C_below L12.out hb)
  replace HB := Aside0.mk (below_then HB.out HB.out.size hb)
  clear hb
  clear L12
  go_wp2_with fail
  have qL15 : (w14.alloc (.cells #[.int .i64 10, .int .i64 3, .bool false, .int .i64 10, .int .i64 3, .bool false] 32)).heap[w14.heap.size]? = some (.cells #[.int .i64 10, .int .i64 3, .bool false, .int .i64 10, .int .i64 3, .bool false] 32 (0, 0)) := by have h_ := World.alloc_heap_new w14 (.cells #[.int .i64 10, .int .i64 3, .bool false, .int .i64 10, .int .i64 3, .bool false] 32); exact h_
  replace L1 := Aside0.mk (Kd.C_alloc L1.out (.cells #[.int .i64 10, .int .i64 3, .bool false, .int .i64 10, .int .i64 3, .bool false] 32))
  replace L7_0 := Aside0.mk (Kd.C_alloc L7_0.out (.cells #[.int .i64 10, .int .i64 3, .bool false, .int .i64 10, .int .i64 3, .bool false] 32))
  replace L11_0 := Aside0.mk (Kd.C_alloc L11_0.out (.cells #[.int .i64 10, .int .i64 3, .bool false, .int .i64 10, .int .i64 3, .bool false] 32))
  replace L14_0 := Aside0.mk (Kd.C_alloc L14_0.out (.cells #[.int .i64 10, .int .i64 3, .bool false, .int .i64 10, .int .i64 3, .bool false] 32))
  replace HB := Aside0.mk (below_alloc HB.out (.cells #[.int .i64 10, .int .i64 3, .bool false, .int .i64 10, .int .i64 3, .bool false] 32))
  generalize hw_ : (w14.alloc (.cells #[.int .i64 10, .int .i64 3, .bool false, .int .i64 10, .int .i64 3, .bool false] 32)) = w16 at qL15 L1 L7_0 L11_0 L14_0 HB ⊢
  have L15 := Aside0.mk (C32_block ([⟨10, 3, false⟩, ⟨10, 3, false⟩] : List (S32)) qL15 rfl (by decide))
  clear hw_ qL15
  refine (iso_Find.calls _ _ ([⟨10, 3, false⟩, ⟨10, 3, false⟩] : List (S32)) 11 12 ([⟨1, 2⟩, ⟨4, 5⟩] : List (S37)) 0 _ L15.out (by decide) (show iso_Find.f ([⟨10, 3, false⟩, ⟨10, 3, false⟩] : List (S32)) 11 12 = some (([⟨1, 2⟩, ⟨4, 5⟩] : List (S37)), 0) from (by kernel_rfl))).mono ?_
  rintro e w17 ⟨v17_0, rfl, h17_0, hb⟩
  obtain ⟨A17_0, c17_0, e_, hc_L17_0, hr_L17_0⟩ := Kd.R_reads h17_0
  subst e_
  have L17_0 := Aside0.mk hr_L17_0
  have HCL17_0 := Aside0.mk hc_L17_0
  clear hr_L17_0 hc_L17_0 h17_0
  replace L1 := Aside0.mk (Kd.C_below L1.out hb)
  replace L7_0 := Aside0.mk (Kd.C_below L7_0.out hb)
  replace L11_0 := Aside0.mk (Kd.C_below L11_0.out hb)
  replace L14_0 := Aside0.mk (Kd.C_below L14_0.out hb)
  replace L15 := Aside0.mk (Kd.C_below L15.out hb)
  replace HB := Aside0.mk (below_then HB.out HB.out.size hb)
  clear hb
  clear L15
  go_wp2_with fail
  have qL18 : (w17.alloc (.cells #[.int .i64 5, .int .i64 3, .bool false, .int .i64 6, .int .i64 1, .bool false] 32)).heap[w17.heap.size]? = some (.cells #[.int .i64 5, .int .i64 3, .bool false, .int .i64 6, .int .i64 1, .bool false] 32 (0, 0)) := by have h_ := World.alloc_heap_new w17 (.cells #[.int .i64 5, .int .i64 3, .bool false, .int .i64 6, .int .i64 1, .bool false] 32); exact h_
  replace L1 := Aside0.mk (Kd.C_alloc L1.out (.cells #[.int .i64 5, .int .i64 3, .bool false, .int .i64 6, .int .i64 1, .bool false] 32))
  replace L7_0 := Aside0.mk (Kd.C_alloc L7_0.out (.cells #[.int .i64 5, .int .i64 3, .bool false, .int .i64 6, .int .i64 1, .bool false] 32))
  replace L11_0 := Aside0.mk (Kd.C_alloc L11_0.out (.cells #[.int .i64 5, .int .i64 3, .bool false, .int .i64 6, .int .i64 1, .bool false] 32))
  replace L14_0 := Aside0.mk (Kd.C_alloc L14_0.out (.cells #[.int .i64 5, .int .i64 3, .bool false, .int .i64 6, .int .i64 1, .bool false] 32))
  replace L17_0 := Aside0.mk (Kd.C_alloc L17_0.out (.cells #[.int .i64 5, .int .i64 3, .bool false, .int .i64 6, .int .i64 1, .bool false] 32))
  replace HB := Aside0.mk (below_alloc HB.out (.cells #[.int .i64 5, .int .i64 3, .bool false, .int .i64 6, .int .i64 1, .bool false] 32))
  generalize hw_ : (w17.alloc (.cells #[.int .i64 5, .int .i64 3, .bool false, .int .i64 6, .int .i64 1, .bool false] 32)) = w19 at qL18 L1 L7_0 L11_0 L14_0 L17_0 HB ⊢
  have L18 := Aside0.mk (C32_block ([⟨5, 3, false⟩, ⟨6, 1, false⟩] : List (S32)) qL18 rfl (by decide))
  clear hw_ qL18
  refine (papermillref13_Same.calls 60 _ _ ([⟨5, 3, false⟩, ⟨6, 1, false⟩] : List (S32)) _ _ ([⟨5, 3, false⟩, ⟨6, 1, false⟩] : List (S32)) true _ L7_0.out HCL7_0.out L18.out (by decide) (show papermillref13_Same.f 60 ([⟨5, 3, false⟩, ⟨6, 1, false⟩] : List (S32)) ([⟨5, 3, false⟩, ⟨6, 1, false⟩] : List (S32)) = some true from (by kernel_rfl))).mono ?_
  rintro e w20 ⟨rfl, hd⟩
  replace L1 := Aside0.mk (Kd.C_below L1.out hd.below)
  replace L7_0 := Aside0.mk (Kd.C_below L7_0.out hd.below)
  replace L11_0 := Aside0.mk (Kd.C_below L11_0.out hd.below)
  replace L14_0 := Aside0.mk (Kd.C_below L14_0.out hd.below)
  replace L17_0 := Aside0.mk (Kd.C_below L17_0.out hd.below)
  replace L18 := Aside0.mk (Kd.C_below L18.out hd.below)
  replace HB := Aside0.mk (below_then HB.out HB.out.size hd.below)
  clear hd
  clear L7_0 HCL7_0
  clear L18
  go_wp2_with fail
  have qL21 : (w20.alloc (.cells #[.int .i64 12, .int .i64 2, .bool true] 32)).heap[w20.heap.size]? = some (.cells #[.int .i64 12, .int .i64 2, .bool true] 32 (0, 0)) := by have h_ := World.alloc_heap_new w20 (.cells #[.int .i64 12, .int .i64 2, .bool true] 32); exact h_
  replace L1 := Aside0.mk (Kd.C_alloc L1.out (.cells #[.int .i64 12, .int .i64 2, .bool true] 32))
  replace L11_0 := Aside0.mk (Kd.C_alloc L11_0.out (.cells #[.int .i64 12, .int .i64 2, .bool true] 32))
  replace L14_0 := Aside0.mk (Kd.C_alloc L14_0.out (.cells #[.int .i64 12, .int .i64 2, .bool true] 32))
  replace L17_0 := Aside0.mk (Kd.C_alloc L17_0.out (.cells #[.int .i64 12, .int .i64 2, .bool true] 32))
  replace HB := Aside0.mk (below_alloc HB.out (.cells #[.int .i64 12, .int .i64 2, .bool true] 32))
  generalize hw_ : (w20.alloc (.cells #[.int .i64 12, .int .i64 2, .bool true] 32)) = w22 at qL21 L1 L11_0 L14_0 L17_0 HB ⊢
  have L21 := Aside0.mk (C32_block ([⟨12, 2, true⟩] : List (S32)) qL21 rfl (by decide))
  clear hw_ qL21
  refine (papermillref13_Same.calls 60 _ _ ([⟨12, 2, true⟩] : List (S32)) _ _ ([⟨12, 2, true⟩] : List (S32)) true _ L11_0.out HCL11_0.out L21.out (by decide) (show papermillref13_Same.f 60 ([⟨12, 2, true⟩] : List (S32)) ([⟨12, 2, true⟩] : List (S32)) = some true from (by kernel_rfl))).mono ?_
  rintro e w23 ⟨rfl, hd⟩
  replace L1 := Aside0.mk (Kd.C_below L1.out hd.below)
  replace L11_0 := Aside0.mk (Kd.C_below L11_0.out hd.below)
  replace L14_0 := Aside0.mk (Kd.C_below L14_0.out hd.below)
  replace L17_0 := Aside0.mk (Kd.C_below L17_0.out hd.below)
  replace L21 := Aside0.mk (Kd.C_below L21.out hd.below)
  replace HB := Aside0.mk (below_then HB.out HB.out.size hd.below)
  clear hd
  clear L11_0 HCL11_0
  clear L21
  go_wp2_with fail
  have qL24 : (w23.alloc (.cells #[.int .i64 12, .int .i64 3, .bool true] 32)).heap[w23.heap.size]? = some (.cells #[.int .i64 12, .int .i64 3, .bool true] 32 (0, 0)) := by have h_ := World.alloc_heap_new w23 (.cells #[.int .i64 12, .int .i64 3, .bool true] 32); exact h_
  replace L1 := Aside0.mk (Kd.C_alloc L1.out (.cells #[.int .i64 12, .int .i64 3, .bool true] 32))
  replace L14_0 := Aside0.mk (Kd.C_alloc L14_0.out (.cells #[.int .i64 12, .int .i64 3, .bool true] 32))
  replace L17_0 := Aside0.mk (Kd.C_alloc L17_0.out (.cells #[.int .i64 12, .int .i64 3, .bool true] 32))
  replace HB := Aside0.mk (below_alloc HB.out (.cells #[.int .i64 12, .int .i64 3, .bool true] 32))
  generalize hw_ : (w23.alloc (.cells #[.int .i64 12, .int .i64 3, .bool true] 32)) = w25 at qL24 L1 L14_0 L17_0 HB ⊢
  have L24 := Aside0.mk (C32_block ([⟨12, 3, true⟩] : List (S32)) qL24 rfl (by decide))
  clear hw_ qL24
  refine (papermillref13_Same.calls 60 _ _ ([⟨12, 3, true⟩] : List (S32)) _ _ ([⟨12, 3, true⟩] : List (S32)) true _ L14_0.out HCL14_0.out L24.out (by decide) (show papermillref13_Same.f 60 ([⟨12, 3, true⟩] : List (S32)) ([⟨12, 3, true⟩] : List (S32)) = some true from (by kernel_rfl))).mono ?_
  rintro e w26 ⟨rfl, hd⟩
  replace L1 := Aside0.mk (Kd.C_below L1.out hd.below)
  replace L14_0 := Aside0.mk (Kd.C_below L14_0.out hd.below)
  replace L17_0 := Aside0.mk (Kd.C_below L17_0.out hd.below)
  replace L24 := Aside0.mk (Kd.C_below L24.out hd.below)
  replace HB := Aside0.mk (below_then HB.out HB.out.size hd.below)
  clear hd
  clear L14_0 HCL14_0
  clear L24
  go_wp2_with fail
  have qL27 : (w26.alloc (.cells #[.int .i64 1, .int .i64 2, .int .i64 4, .int .i64 5] 37)).heap[w26.heap.size]? = some (.cells #[.int .i64 1, .int .i64 2, .int .i64 4, .int .i64 5] 37 (0, 0)) := by have h_ := World.alloc_heap_new w26 (.cells #[.int .i64 1, .int .i64 2, .int .i64 4, .int .i64 5] 37); exact h_
  replace L1 := Aside0.mk (Kd.C_alloc L1.out (.cells #[.int .i64 1, .int .i64 2, .int .i64 4, .int .i64 5] 37))
  replace L17_0 := Aside0.mk (Kd.C_alloc L17_0.out (.cells #[.int .i64 1, .int .i64 2, .int .i64 4, .int .i64 5] 37))
  replace HB := Aside0.mk (below_alloc HB.out (.cells #[.int .i64 1, .int .i64 2, .int .i64 4, .int .i64 5] 37))
  generalize hw_ : (w26.alloc (.cells #[.int .i64 1, .int .i64 2, .int .i64 4, .int .i64 5] 37)) = w28 at qL27 L1 L17_0 HB ⊢
  have L27 := Aside0.mk (C37_block ([⟨1, 2⟩, ⟨4, 5⟩] : List (S37)) qL27 rfl (by decide))
  clear hw_ qL27
  refine (papermillref04_Same.calls 60 _ _ ([⟨1, 2⟩, ⟨4, 5⟩] : List (S37)) _ _ ([⟨1, 2⟩, ⟨4, 5⟩] : List (S37)) true _ L17_0.out HCL17_0.out L27.out (by decide) (show papermillref04_Same.f 60 ([⟨1, 2⟩, ⟨4, 5⟩] : List (S37)) ([⟨1, 2⟩, ⟨4, 5⟩] : List (S37)) = some true from (by kernel_rfl))).mono ?_
  rintro e w29 ⟨rfl, hd⟩
  replace L1 := Aside0.mk (Kd.C_below L1.out hd.below)
  replace L17_0 := Aside0.mk (Kd.C_below L17_0.out hd.below)
  replace L27 := Aside0.mk (Kd.C_below L27.out hd.below)
  replace HB := Aside0.mk (below_then HB.out HB.out.size hd.below)
  clear hd
  clear L17_0 HCL17_0
  clear L27
  go_wp2_with fail
  obtain ⟨kq1, hq1⟩ := (show Ends (fun k => iso_Single.f k ([⟨10, 3, false⟩, ⟨7, 2, true⟩] : List (S32))) true from (isingle_ends ([⟨10, 3, false⟩, ⟨7, 2, true⟩] : List (S32))).congr (by kernel_rfl)).get
  refine (iso_Single.calls kq1 _ _ ([⟨10, 3, false⟩, ⟨7, 2, true⟩] : List (S32)) true _ L1.out (by decide) hq1).mono ?_
  rintro e w30 ⟨rfl, hb⟩
  replace L1 := Aside0.mk (Kd.C_below L1.out hb)
  replace HB := Aside0.mk (below_then HB.out HB.out.size hb)
  clear hb
  clear L1
  go_wp2_with fail
  have qL31 : (w30.alloc (.cells #[.int .i64 4, .int .i64 2, .bool false, .int .i64 5, .int .i64 1, .bool false] 32)).heap[w30.heap.size]? = some (.cells #[.int .i64 4, .int .i64 2, .bool false, .int .i64 5, .int .i64 1, .bool false] 32 (0, 0)) := by have h_ := World.alloc_heap_new w30 (.cells #[.int .i64 4, .int .i64 2, .bool false, .int .i64 5, .int .i64 1, .bool false] 32); exact h_
  replace HB := Aside0.mk (below_alloc HB.out (.cells #[.int .i64 4, .int .i64 2, .bool false, .int .i64 5, .int .i64 1, .bool false] 32))
  generalize hw_ : (w30.alloc (.cells #[.int .i64 4, .int .i64 2, .bool false, .int .i64 5, .int .i64 1, .bool false] 32)) = w32 at qL31 HB ⊢
  have L31 := Aside0.mk (C32_block ([⟨4, 2, false⟩, ⟨5, 1, false⟩] : List (S32)) qL31 rfl (by decide))
  clear hw_ qL31
  obtain ⟨kq2, hq2⟩ := (show Ends (fun k => iso_Single.f k ([⟨4, 2, false⟩, ⟨5, 1, false⟩] : List (S32))) false from (isingle_ends ([⟨4, 2, false⟩, ⟨5, 1, false⟩] : List (S32))).congr (by kernel_rfl)).get
  refine (iso_Single.calls kq2 _ _ ([⟨4, 2, false⟩, ⟨5, 1, false⟩] : List (S32)) false _ L31.out (by decide) hq2).mono ?_
  rintro e w33 ⟨rfl, hb⟩
  replace L31 := Aside0.mk (Kd.C_below L31.out hb)
  replace HB := Aside0.mk (below_then HB.out HB.out.size hb)
  clear hb
  clear L31
  go_wp2
  go_ret
  exact ⟨rfl, HB.out⟩
end Go.Proofs.Ytcnkmdonbpgjiaa.G

namespace Go.Proofs.Ytcnkmdonbpgjiaa.G
open Go.RowKit Go.Proofs.YtcnkmdonbpgjiaaW.PrintWords Go.Proofs.YtcnkmdonbpgjiaaW.PrintLast Go.Proofs.YtcnkmdonbpgjiaaW.PrintMore
open Go.ChangeShapes Go.WideShapes Go.Deep
set_option linter.unusedVariables false
set_option linter.unusedSimpArgs false

theorem pick_list {α : Type} {Q : Nat → α → Prop} : ∀ (n : Nat), (∀ i, i < n → ∃ v, Q i v) → ∃ l : List α, l.length = n ∧ ∀ i v, l[i]? = some v → Q i v
  | 0, _ => ⟨[], rfl, fun i v h => by simp at h⟩
  | n + 1, h => by
    obtain ⟨l, hl, hv⟩ := pick_list n (fun i hi => h i (by omega))
    obtain ⟨v, hv1⟩ := h n (by omega)
    refine ⟨l ++ [v], by simp [hl], fun i u hu => ?_⟩
    rcases Nat.lt_or_ge i l.length with h1 | h1
    · rw [List.getElem?_append_left h1] at hu; exact hv i u hu
    · have e : i = l.length := by
        have := (List.getElem?_eq_some_iff.1 hu).1; simp at this; omega
      subst e
      have : v = u := by simpa using hu
      subst this
      rw [hl]; exact hv1
def Opens {α : Type} (P : Program) (d : Kd α) (t : TypeId) (Wf : α → Prop) : Prop :=
  ∀ {H : Type} (enc : TypeId × Value → H) (W : World) (fuel : Nat) (cs : List Value) (x : DataW H × List MemPlace), DataW.trod enc P W 0 (fun _ => true) true fuel t cs = some x → ∃ v : α, d.K W v cs ∧ Wf v
theorem Opens.int {P : Program} {t : TypeId} {k : IntKind} (ht : P.underlying t = some (.int k)) : Opens P (Kd.int k) t (fun n => (Lit.int k n).wf = true) :=
  fun enc W fuel cs x h => by obtain ⟨n, rfl, _, hw⟩ := DataW.trod_int ht h; exact ⟨n, rfl, hw⟩
theorem Opens.bool {P : Program} {t : TypeId} (ht : P.underlying t = some .bool) : Opens P Kd.bool t (fun _ => True) :=
  fun enc W fuel cs x h => by obtain ⟨n, rfl, _⟩ := DataW.trod_bool ht h; exact ⟨n, rfl, trivial⟩
theorem Opens.slice {α : Type} {P : Program} {t e : TypeId} {d : Kd α} {Wf : α → Prop} (ht : P.underlying t = some (.slice e)) (hC : P.cellsOf e = d.sz) (h : Opens P d e Wf) :
    Opens P (Kd.slice e d) t (fun l => l.length ≤ maxLen ∧ ∀ x ∈ l, Wf x) := by
  intro H enc W fuel cs x hx
  rcases open_slice ht hx with ⟨rfl, _⟩ | ⟨a, len, cap, m, n, D, Pl, rfl, _, hl, hm, hmm, _, hi⟩
  · exact ⟨[], ⟨none, 0, rfl, Nat.le_refl _, rfl, by simp, fun h => absurd h (by simp)⟩, by simp, fun x h => by simp at h⟩
  · have hml : len ≤ m := by rw [hmm]; simp only [if_true]; exact hl
    have key : ∀ i, i < len → ∃ v : α, (∃ c, c.length = d.sz ∧ d.K W v c ∧ ∀ q u, c[q]? = some u → W.cell? (a.add (i * d.sz + q)) = some u) ∧ Wf v := by
      intro i hil
      obtain ⟨cs', hc, ht'⟩ := hi i (by omega)
      rw [hC] at hc
      obtain ⟨_, hcl, hat⟩ := World.cells?_some hc
      obtain ⟨v, hK, hw⟩ := h enc W n cs' _ ht'
      refine ⟨v, ⟨cs', d.K_len hK, hK, fun q u hq => ?_⟩, hw⟩
      have hql : q < d.sz := by rw [← d.K_len hK]; exact (List.getElem?_eq_some_iff.1 hq).1
      have := hat q hql
      rw [← Go.Deep.add_add, this]; exact hq
    obtain ⟨l, rfl, hv⟩ := pick_list len key
    refine ⟨l, ⟨some a, cap, rfl, hl, rfl, by unfold maxLen at hm; omega, fun _ => ⟨a, rfl, fun j p hj => (hv j p hj).1⟩⟩, Nat.le_trans hl hm, fun x hx => ?_⟩
    obtain ⟨i, hi', rfl⟩ := List.getElem_of_mem hx
    exact (hv i _ (List.getElem?_eq_getElem hi')).2

def wf_32 (s : S32) : Prop := (Lit.int .i64 s.f0).wf = true ∧ (Lit.int .i64 s.f1).wf = true ∧ True
theorem cells_32 : Try.prog.cellsOf 32 = 3 := by kernel_rfl
theorem cells1_3 : Try.prog.cellsOf 3 = 1 := by kernel_rfl
theorem cells1_4 : Try.prog.cellsOf 4 = 1 := by kernel_rfl
set_option maxRecDepth 100000 in
theorem opens_32 : Opens Try.prog k32 32 wf_32 := by
  intro H enc W fuel cs x h
  obtain ⟨xs, n, rfl, rfl, hlen, hxl, hf⟩ := DataW.trod_struct Try.underlying32 h
  rw [cells_32] at hlen
  match cs, hlen with
  | [c0, c1, c2], _ =>
    match xs, hxl with
    | [y0, y1, y2], _ =>
      have e0 : DataW.trod enc Try.prog W 0 (fun _ => true) true n 3 (([c0, c1, c2].drop 0).take (Try.prog.cellsOf 3)) = some y0 := hf 0 _ rfl
      rw [cells1_3] at e0
      have e1 : DataW.trod enc Try.prog W 0 (fun _ => true) true n 3 (([c0, c1, c2].drop 1).take (Try.prog.cellsOf 3)) = some y1 := hf 1 _ rfl
      rw [cells1_3] at e1
      have e2 : DataW.trod enc Try.prog W 0 (fun _ => true) true n 4 (([c0, c1, c2].drop 2).take (Try.prog.cellsOf 4)) = some y2 := hf 2 _ rfl
      rw [cells1_4] at e2
      obtain ⟨v0, q0, w0⟩ := (Opens.int Try.underlying3) enc W n [c0] y0 e0
      cases q0
      obtain ⟨v1, q1, w1⟩ := (Opens.int Try.underlying3) enc W n [c1] y1 e1
      cases q1
      obtain ⟨v2, q2, w2⟩ := (Opens.bool Try.underlying4) enc W n [c2] y2 e2
      cases q2
      exact ⟨⟨v0, v1, v2⟩, k32_mk _ _, w0, w1, w2⟩
def wf_37 (s : S37) : Prop := (Lit.int .i64 s.f0).wf = true ∧ (Lit.int .i64 s.f1).wf = true
theorem cells_37 : Try.prog.cellsOf 37 = 2 := by kernel_rfl
set_option maxRecDepth 100000 in
theorem opens_37 : Opens Try.prog k37 37 wf_37 := by
  intro H enc W fuel cs x h
  obtain ⟨xs, n, rfl, rfl, hlen, hxl, hf⟩ := DataW.trod_struct Try.underlying37 h
  rw [cells_37] at hlen
  match cs, hlen with
  | [c0, c1], _ =>
    match xs, hxl with
    | [y0, y1], _ =>
      have e0 : DataW.trod enc Try.prog W 0 (fun _ => true) true n 3 (([c0, c1].drop 0).take (Try.prog.cellsOf 3)) = some y0 := hf 0 _ rfl
      rw [cells1_3] at e0
      have e1 : DataW.trod enc Try.prog W 0 (fun _ => true) true n 3 (([c0, c1].drop 1).take (Try.prog.cellsOf 3)) = some y1 := hf 1 _ rfl
      rw [cells1_3] at e1
      obtain ⟨v0, q0, w0⟩ := (Opens.int Try.underlying3) enc W n [c0] y0 e0
      cases q0
      obtain ⟨v1, q1, w1⟩ := (Opens.int Try.underlying3) enc W n [c1] y1 e1
      cases q1
      exact ⟨⟨v0, v1⟩, k37_mk _ _, w0, w1⟩
end Go.Proofs.Ytcnkmdonbpgjiaa.G

namespace Go.Proofs.Ytcnkmdonbpgjiaa.G
open Go.RowKit Go.Proofs.YtcnkmdonbpgjiaaW.PrintWords Go.Proofs.YtcnkmdonbpgjiaaW.PrintLast Go.Proofs.YtcnkmdonbpgjiaaW.PrintMore
attribute [local go_sem] max2_int min2_int max_two min_two max_three min_three max_four min_four   -- for this text's walks alone
set_option linter.unusedVariables false
set_option linter.unusedSimpArgs false

def papermilllaw13_great.f (l0 : List (S32)) : Option (Bool) := some (decide ((l0.length : Int) > 300))
set_option maxHeartbeats 8000000 in
set_option maxRecDepth 100000 in
theorem papermilllaw13_great.calls (A0 : Option Addr) (c0 : Nat) (l0 : List (S32)) (r : Bool) (w : World) (hr0 : Kd.C k32 w A0 l0.length l0) (hc0 : l0.length ≤ c0) (h : papermilllaw13_great.f l0 = some r) :
    Calls Try.prog 12 #[.slice A0 l0.length c0] w fun e w' => e = .returned (.bool r) ∧ Drawn0 w w' := by
  have HR0 := Aside0.mk hr0
  have HC0 := Aside0.mk hc0
  clear hr0 hc0
  have H : (some (decide ((l0.length : Int) > 300))) = some r := h
  clear h
  obtain rfl := Option.some.inj H
  go_enter Try.func12, Try.ntmps12
  go_wp2
  go_ret
  exact ⟨by first | rfl | (simp; done) | (simp [*]; done), by repeat (first | exact Drawn0.refl _ | apply Drawn0.step)⟩

end Go.Proofs.Ytcnkmdonbpgjiaa.G
