import Derived.Test.YtcnkmdonbpgjiaaQ1
import Derived.Test.YtcnkmdonbpgjiaaI6
import Derived.Test.YtcnkmdonbpgjiaaQ3
import Derived.Test.YtcnkmdonbpgjiaaQ4
import Derived.Test.YtcnkmdonbpgjiaaQ5
namespace Go.Proofs.Ytcnkmdonbpgjiaa.G
open Go.RowKit Go.Proofs.YtcnkmdonbpgjiaaW.PrintWords Go.Proofs.YtcnkmdonbpgjiaaW.PrintLast Go.Proofs.YtcnkmdonbpgjiaaW.PrintMore
attribute [local go_sem] max2_int min2_int max_two min_two max_three min_three max_four min_four   -- for this text's walks alone
set_option linter.unusedVariables false
set_option linter.unusedSimpArgs false

mutual
def papermillref13_more.l0 : Nat → List (S32) → Int → Int → Bool → Option ((List (S32)))
 | 0, _, _, _, _ => none
 | k + 1, x5, x53002000, x53002001, x53002002 => if x53002001 > 0 then (if (wrap64 ((x5.length : Int) - 1)) < 0 then ((papermillref13_cut.f x53002000 x53002001 x53002002 0 x53002001).bind fun bt53008 => (if x5.length < 5864062014805 then (some (x5 ++ [(⟨bt53008.1, bt53008.2.1, bt53008.2.2⟩ : S32)])) else (none))) else (if 0 ≤ (wrap64 ((x5.length : Int) - 1)) then (if (wrap64 ((x5.length : Int) - 1)) < (x5.length : Int) then ((papermillref13_image.f ((rd_T32 x5 (wrap64 ((x5.length : Int) - 1))).f0) ((rd_T32 x5 (wrap64 ((x5.length : Int) - 1))).f1) ((rd_T32 x5 (wrap64 ((x5.length : Int) - 1))).f2) (wrap64 (((rd_T32 x5 (wrap64 ((x5.length : Int) - 1))).f1) - 1))).bind fun t53016 => (if (wrap64 (x53002000 - t53016)) = 1 then (if ((rd_T32 x5 (wrap64 ((x5.length : Int) - 1))).f1) > 1 then (papermillref13_more.j1 k x5 (wrap64 ((x5.length : Int) - 1)) (wrap64 (x53002000 - t53016)) (((rd_T32 x5 (wrap64 ((x5.length : Int) - 1))).f2) != ((wrap64 (x53002000 - t53016)) == (-1))) x53002000 x53002001 x53002002 ((rd_T32 x5 (wrap64 ((x5.length : Int) - 1))).f0) ((rd_T32 x5 (wrap64 ((x5.length : Int) - 1))).f1) ((rd_T32 x5 (wrap64 ((x5.length : Int) - 1))).f2)) else (papermillref13_more.j1 k x5 (wrap64 ((x5.length : Int) - 1)) (wrap64 (x53002000 - t53016)) false x53002000 x53002001 x53002002 ((rd_T32 x5 (wrap64 ((x5.length : Int) - 1))).f0) ((rd_T32 x5 (wrap64 ((x5.length : Int) - 1))).f1) ((rd_T32 x5 (wrap64 ((x5.length : Int) - 1))).f2))) else (if (wrap64 (x53002000 - t53016)) = (-1) then (if ((rd_T32 x5 (wrap64 ((x5.length : Int) - 1))).f1) > 1 then (papermillref13_more.j1 k x5 (wrap64 ((x5.length : Int) - 1)) (wrap64 (x53002000 - t53016)) (((rd_T32 x5 (wrap64 ((x5.length : Int) - 1))).f2) != ((wrap64 (x53002000 - t53016)) == (-1))) x53002000 x53002001 x53002002 ((rd_T32 x5 (wrap64 ((x5.length : Int) - 1))).f0) ((rd_T32 x5 (wrap64 ((x5.length : Int) - 1))).f1) ((rd_T32 x5 (wrap64 ((x5.length : Int) - 1))).f2)) else (papermillref13_more.j1 k x5 (wrap64 ((x5.length : Int) - 1)) (wrap64 (x53002000 - t53016)) false x53002000 x53002001 x53002002 ((rd_T32 x5 (wrap64 ((x5.length : Int) - 1))).f0) ((rd_T32 x5 (wrap64 ((x5.length : Int) - 1))).f1) ((rd_T32 x5 (wrap64 ((x5.length : Int) - 1))).f2))) else (papermillref13_more.j1 k x5 (wrap64 ((x5.length : Int) - 1)) (wrap64 (x53002000 - t53016)) true x53002000 x53002001 x53002002 ((rd_T32 x5 (wrap64 ((x5.length : Int) - 1))).f0) ((rd_T32 x5 (wrap64 ((x5.length : Int) - 1))).f1) ((rd_T32 x5 (wrap64 ((x5.length : Int) - 1))).f2))))) else (none)) else (none))) else (some x5)
def papermillref13_more.j1 : Nat → List (S32) → Int → Int → Bool → Int → Int → Bool → Int → Int → Bool → Option ((List (S32)))
 | 0, _, _, _, _, _, _, _, _, _, _ => none
 | k + 1, x5, x6, x8, x57, x53002000, x53002001, x53002002, x53016000, x53016001, x53016002 => if x57 = true then ((papermillref13_cut.f x53002000 x53002001 x53002002 0 x53002001).bind fun bt53017 => (if x5.length < 5864062014805 then (some (x5 ++ [(⟨bt53017.1, bt53017.2.1, bt53017.2.2⟩ : S32)])) else (none))) else (if x53002001 > 1 then (papermillref13_more.j2 k x5 x6 x8 x53002001 (x53002002 != (x8 == (-1))) x53002000 x53002001 x53002002 x53016000 x53016001 x53016002) else (papermillref13_more.j2 k x5 x6 x8 x53002001 false x53002000 x53002001 x53002002 x53016000 x53016001 x53016002))
def papermillref13_more.j2 : Nat → List (S32) → Int → Int → Int → Bool → Int → Int → Bool → Int → Int → Bool → Option ((List (S32)))
 | 0, _, _, _, _, _, _, _, _, _, _, _ => none
 | k + 1, x5, x6, x8, x9, x75, x53002000, x53002001, x53002002, x53016000, x53016001, x53016002 => if x75 = true then (if 0 ≤ x6 then (if x6 < (x5.length : Int) then ((some (x5.set (x6 : Int).toNat (⟨x53016000, wrap64 (x53016001 + 1), (x8 == (-1))⟩ : S32) : List (S32))).bind fun y53023 => (if 1 = x53002001 then (some y53023) else ((papermillref13_cut.f x53002000 x53002001 x53002002 1 (wrap64 (x53002001 - 1))).bind fun bt53024 => (papermillref13_more.l0 k y53023 bt53024.1 bt53024.2.1 bt53024.2.2)))) else (none)) else (none)) else (if 0 ≤ x6 then (if x6 < (x5.length : Int) then ((some (x5.set (x6 : Int).toNat (⟨x53016000, wrap64 (x53016001 + x9), (x8 == (-1))⟩ : S32) : List (S32))).bind fun y53027 => (if x9 = x53002001 then (some y53027) else ((papermillref13_cut.f x53002000 x53002001 x53002002 x9 (wrap64 (x53002001 - x9))).bind fun bt53028 => (papermillref13_more.l0 k y53027 bt53028.1 bt53028.2.1 bt53028.2.2)))) else (none)) else (none))
end
def papermillref13_more.f (k : Nat) (l0 : List (S32)) (a1_0 : Int) (a1_1 : Int) (a1_2 : Bool) : Option ((List (S32))) := (some (([] : List (S32)) : List (S32))).bind fun y53002 => (if y53002.length + l0.length < 5864062014805 then (papermillref13_more.l0 k (y53002 ++ l0) a1_0 a1_1 a1_2) else (none))
theorem papermillref13_more.mono_l : ∀ k, (∀ y0 y1 y2 y3, LeO (papermillref13_more.l0 k y0 y1 y2 y3) (papermillref13_more.l0 (k + 1) y0 y1 y2 y3)) ∧ (∀ y0 y1 y2 y3 y4 y5 y6 y7 y8 y9, LeO (papermillref13_more.j1 k y0 y1 y2 y3 y4 y5 y6 y7 y8 y9) (papermillref13_more.j1 (k + 1) y0 y1 y2 y3 y4 y5 y6 y7 y8 y9)) ∧ (∀ y0 y1 y2 y3 y4 y5 y6 y7 y8 y9 y10, LeO (papermillref13_more.j2 k y0 y1 y2 y3 y4 y5 y6 y7 y8 y9 y10) (papermillref13_more.j2 (k + 1) y0 y1 y2 y3 y4 y5 y6 y7 y8 y9 y10))
 | 0 => ⟨fun _ _ _ _ r h => by simp [papermillref13_more.l0] at h, fun _ _ _ _ _ _ _ _ _ _ r h => by simp [papermillref13_more.j1] at h, fun _ _ _ _ _ _ _ _ _ _ _ r h => by simp [papermillref13_more.j2] at h⟩
 | k + 1 => by
  obtain ⟨ih0, ih1, ih2⟩ := papermillref13_more.mono_l k
  refine ⟨?_, ?_, ?_⟩
  ·intro y0 y1 y2 y3
   unfold papermillref13_more.l0
   repeat' first
   | (with_reducible exact ih0 _ _ _ _)
   | (with_reducible exact ih1 _ _ _ _ _ _ _ _ _ _)
   | (with_reducible exact ih2 _ _ _ _ _ _ _ _ _ _ _)
   | (with_reducible exact LeO.refl _)
   | (with_reducible exact LeO.none _)
   | (with_reducible refine LeO.ite ?_ ?_)
   | (with_reducible refine LeO.bind ?_ (fun _ => ?_))
   | exact ih0 _ _ _ _
   | exact ih1 _ _ _ _ _ _ _ _ _ _
   | exact ih2 _ _ _ _ _ _ _ _ _ _ _
   | exact LeO.none _
   | refine LeO.ite ?_ ?_
   | refine LeO.bind ?_ (fun _ => ?_)
  ·intro y0 y1 y2 y3 y4 y5 y6 y7 y8 y9
   unfold papermillref13_more.j1
   repeat' first
   | (with_reducible exact ih0 _ _ _ _)
   | (with_reducible exact ih1 _ _ _ _ _ _ _ _ _ _)
   | (with_reducible exact ih2 _ _ _ _ _ _ _ _ _ _ _)
   | (with_reducible exact LeO.refl _)
   | (with_reducible exact LeO.none _)
   | (with_reducible refine LeO.ite ?_ ?_)
   | (with_reducible refine LeO.bind ?_ (fun _ => ?_))
   | exact ih0 _ _ _ _
   | exact ih1 _ _ _ _ _ _ _ _ _ _
   | exact ih2 _ _ _ _ _ _ _ _ _ _ _
   | exact LeO.none _
   | refine LeO.ite ?_ ?_
   | refine LeO.bind ?_ (fun _ => ?_)
  ·intro y0 y1 y2 y3 y4 y5 y6 y7 y8 y9 y10
   unfold papermillref13_more.j2
   repeat' first
   | (with_reducible exact ih0 _ _ _ _)
   | (with_reducible exact ih1 _ _ _ _ _ _ _ _ _ _)
   | (with_reducible exact ih2 _ _ _ _ _ _ _ _ _ _ _)
   | (with_reducible exact LeO.refl _)
   | (with_reducible exact LeO.none _)
   | (with_reducible refine LeO.ite ?_ ?_)
   | (with_reducible refine LeO.bind ?_ (fun _ => ?_))
   | exact ih0 _ _ _ _
   | exact ih1 _ _ _ _ _ _ _ _ _ _
   | exact ih2 _ _ _ _ _ _ _ _ _ _ _
   | exact LeO.none _
   | refine LeO.ite ?_ ?_
   | refine LeO.bind ?_ (fun _ => ?_)
theorem papermillref13_more.mono : ∀ a0 a1 a2 a3 k, LeO (papermillref13_more.f k a0 a1 a2 a3) (papermillref13_more.f (k + 1) a0 a1 a2 a3) := by
 intro a0 a1 a2 a3 k
 obtain ⟨ih0, ih1, ih2⟩ := papermillref13_more.mono_l k
 unfold papermillref13_more.f
 repeat' first
   | (with_reducible exact ih0 _ _ _ _)
   | (with_reducible exact ih1 _ _ _ _ _ _ _ _ _ _)
   | (with_reducible exact ih2 _ _ _ _ _ _ _ _ _ _ _)
   | (with_reducible exact LeO.refl _)
   | (with_reducible exact LeO.none _)
   | (with_reducible refine LeO.ite ?_ ?_)
   | (with_reducible refine LeO.bind ?_ (fun _ => ?_))
   | exact ih0 _ _ _ _
   | exact ih1 _ _ _ _ _ _ _ _ _ _
   | exact ih2 _ _ _ _ _ _ _ _ _ _ _
   | exact LeO.none _
   | refine LeO.ite ?_ ?_
   | refine LeO.bind ?_ (fun _ => ?_)
def papermillref13_more.T7 : Bool × List (List Nat × List Nat) := (true, [([], []), ([0], [0]), ([], []), ([], []), ([3], [3]), ([4], [4]), ([2, 5], [2, 5]), ([1, 6], [1, 6]), ([7, 6, 0, 1, 2, 3, 4, 5, 6, 7], [7])])
def papermillref13_more.B7 : List Nat := [0, 1, 0, 0, 8, 24, 60, 127, 255]
theorem papermillref13_more.tab7 : rtab .any (opsOf Try.f52 7) = papermillref13_more.T7 := by kernel_rfl
theorem papermillref13_more.bits7 : waitsOk papermillref13_more.T7.2 papermillref13_more.B7 = true := by kernel_rfl
set_option maxHeartbeats 8000000 in
set_option maxRecDepth 100000 in
theorem papermillref13_more.calls (k : Nat) (A0 : Option Addr) (c0 : Nat) (l0 : List (S32)) (a1_0 : Int) (a1_1 : Int) (a1_2 : Bool) (r : List (S32)) (w : World) (hr0 : Kd.C k32 w A0 l0.length l0) (hc0 : l0.length ≤ c0) (h : papermillref13_more.f k l0 a1_0 a1_1 a1_2 = some r) :
  Calls Try.prog 52 #[.slice A0 l0.length c0, .agg #[.int .i64 a1_0, .int .i64 a1_1, .bool a1_2]] w fun e w' => ∃ v0_ : Value, e = .returned (v0_) ∧ Kd.R k32 32 w' w.heap.size (fun _ => True) v0_ r ∧ Below w.heap.size w w' := by
 have hu32 := Try.underlying32
 have HR0 := Aside0.mk hr0
 have HC0 := Aside0.mk hc0
 clear hr0 hc0
 have HB := Aside0.mk (Below.refl w.heap.size w)
 have H : ((some (([] : List (S32)) : List (S32))).bind fun y53002 => (if y53002.length + l0.length < 5864062014805 then (papermillref13_more.l0 k (y53002 ++ l0) a1_0 a1_1 a1_2) else (none))) = some r := h
 clear h
 obtain ⟨y53002, hy53002⟩ : ∃ y_ : List (S32), y_ = (([] : List (S32))) := ⟨_, rfl⟩
 replace H : (if y53002.length + l0.length < 5864062014805 then (papermillref13_more.l0 k (y53002 ++ l0) a1_0 a1_1 a1_2) else (none)) = some r := by first | (rw [hy53002]; with_reducible exact H) | (have H2_ := (Option.bind_some _ _).symm.trans H; rw [hy53002]; with_reducible exact H2_) | (have H2_ := (Option.bind_some _ _).symm.trans H; with_reducible exact H2_) | with_reducible exact H | (rw [hy53002]; exact H) | exact H
 have Ny53002 := Aside0.mk hy53002
 clear hy53002
 by_cases c3 : y53002.length + l0.length < 5864062014805
 ·rw [if_pos c3] at H
  have LMc3 := Aside0.mk c3
  clear c3
  obtain ⟨y53005, hy53005⟩ : ∃ y_ : List (S32), y_ = (y53002 ++ l0) := ⟨_, rfl⟩
  replace H : (papermillref13_more.l0 k y53005 a1_0 a1_1 a1_2) = some r := by first | (rw [hy53005]; with_reducible exact H) | (have H2_ := (Option.bind_some _ _).symm.trans H; rw [hy53005]; with_reducible exact H2_) | (have H2_ := (Option.bind_some _ _).symm.trans H; with_reducible exact H2_) | with_reducible exact H | (rw [hy53005]; exact H) | exact H
  have Ny53005 := Aside0.mk hy53005
  clear hy53005
  have H' := Aside0.mk H
  clear H
  go_enter Try.func52, Try.ntmps52
  go_wp2_with (first | ((with_reducible refine gate_dst (N := 3) rfl ?_); refine box_event ?hg (N := 3) ?hd (cs := #[.int .i64 a1_0, .int .i64 a1_1, .bool a1_2]) (t := 32) ?hr ?_; (case hd => rfl); (case hg => rfl); (case hr => first | (go_simp; done) | (go_simp; rfl)); intro gb53001 hg w4 hbox hb; have n0_ := Aside0.mk (below_step (by repeat (first | exact HB.out | apply below_alloc | apply pw_below_drewN | apply below_drew1)) hb); have n1_ := Aside0.mk (hbox); have n2_ := Aside0.mk ((by rw [hg]; exact (below_size (by repeat (first | exact HB.out | apply below_alloc | apply pw_below_drewN | apply below_drew1))) : w.heap.size ≤ gb53001)); have n3_ := Aside0.mk ((by rw [hg]; exact (below_size (by repeat (first | exact HB.out | apply below_alloc | apply pw_below_drewN | apply below_drew1))) : w.heap.size ≤ gb53001)); clear HB; have HB := n0_; have BK53001 := n1_; have GW53001 := n2_; have GE53001 := n3_; clear n0_ n1_ n2_ n3_; clear hb hbox hg) | ((with_reducible refine gate_dst (N := 10) rfl ?_); refine Kd.R_lit k32 _ 32 ?hg (N := 10) ?hd (xs := ([] : List (S32))) (inner := []) (ok := fun _ => True) (okp := fun _ => True) ?hr ?hp (fun _ hk => hk) trivial (Below.refl _ _) (Nat.le_refl _) (by simp) ?_; (case hd => rfl); (case hg => rfl); (case hr => first | (go_simp; done) | (go_simp; rfl)); (case hp => exact (Reps.none _ _)); intro v53003 w5 ho6 hb hg_ hnew_; clear hg_ hnew_; (first | rw [← Ny53002.out] at ho6 | (simp only [Int.reduceToNat] at ho6; rw [← Ny53002.out] at ho6)); have n0_ := Aside0.mk (Kd.R_lower (Kd.R_newB ho6 (g := gb53001) (o := .cells #[.int .i64 a1_0, .int .i64 a1_1, .bool a1_2] 32 (0, 0)) (BK53001.out)) (below_size (by repeat (first | exact HB.out | apply below_alloc | apply pw_below_drewN | apply below_drew1 | refine below_set ?_ GE53001.out)))); have n1_ := Aside0.mk (blk_below (g := gb53001) (o := .cells #[.int .i64 a1_0, .int .i64 a1_1, .bool a1_2] 32 (0, 0)) (BK53001.out) hb); have n2_ := Aside0.mk (below_step (by repeat (first | exact HB.out | apply below_alloc | apply pw_below_drewN | apply below_drew1 | refine below_set ?_ GE53001.out)) hb); clear BK53001; clear HB; have HO53004 := n0_; have BK53001 := n1_; have HB := n2_; clear n0_ n1_ n2_; clear hb ho6) | ((with_reducible refine gate_builtin (b := .append) (xs := #[.tmp 10, .tmp 11]) rfl ?_); at_builtin; refine Kd.R_append_rows k32 (w0 := w) w.heap.size rfl (.tmp 10) (.tmp 11) 22 32 (.agg #[(.int .i64 0), (.int .i64 0), (.bool false)]) 24 rfl Try.underlying22 info32 rfl (by decide) (by omega) v53003 y53002 l0 _ _ _ (fun k_ => k_ ≠ gb53001) (fun _ => False) rfl rfl ?aO ?aR (fun _ _ h => h) (fun _ h => h.elim) ?aF ?aB ?aS ?aL ?_; (case aR => exact (Kd.C_below HR0.out HB.out)); (case aB => exact (by repeat (first | exact HB.out | apply below_alloc | apply pw_below_drewN | apply below_drew1 | refine below_set ?_ GE53001.out))); (case aF => exact (fun k_ hk => Kd.freshB (g := gb53001) (o := .cells #[.int .i64 a1_0, .int .i64 a1_1, .bool a1_2] 32 (0, 0)) (BK53001.out) k_ hk)); (case aO => exact (by exact Kd.R_mono HO53004.out (fun _ hk => hk.2))); (case aS => exact (below_size (by repeat (first | exact HB.out | apply below_alloc | apply pw_below_drewN | apply below_drew1 | refine below_set ?_ GE53001.out)))); (case aL => have := LMc3.out; omega); intro v53006 w7 ho hb hg hat; rw [← Ny53005.out] at ho; have n0_ := Aside0.mk (blk_grown (g := gb53001) (o := .cells #[.int .i64 a1_0, .int .i64 a1_1, .bool a1_2] 32 (0, 0)) (BK53001.out) hg (Kd.R_away HO53004.out (fun _ hk => hk.2))); have n1_ := Aside0.mk (hb); have n2_ := Aside0.mk (ho); clear BK53001; clear HB; clear HO53004; have BK53001 := n0_; have HB := n1_; have HO53007 := n2_; clear n0_ n1_ n2_; clear ho hb hg hat))
  go_loopg [] k (fun kq w' => ∃ (x5_1 : List (S32)) (x53002000_1 : Int) (x53002001_1 : Int) (x53002002_1 : Bool), Aside0 (papermillref13_more.l0 kq x5_1 x53002000_1 x53002001_1 x53002002_1 = some r) ∧ Aside0 (kq ≤ k) ∧ Aside0 (Kd.R k32 32 w' w.heap.size (fun k_ => k_ ≠ gb53001) v53006 x5_1) ∧ Aside0 (w'.heap[gb53001]? = some (.cells #[.int .i64 x53002000_1, .int .i64 x53002001_1, .bool x53002002_1] 32 (0, 0))) ∧ Aside0 (Below w.heap.size w w'))
  case atStart => exact ⟨(y53005), (a1_0), (a1_1), (a1_2), H', ⟨Nat.le_refl _⟩, ⟨HO53007.out⟩, ⟨BK53001.out⟩, ⟨by repeat (first | exact HB.out | apply below_alloc | apply pw_below_drewN | apply below_drew1 | refine below_set ?_ GE53001.out)⟩⟩
  case round =>
   clear H'
   try clear p2
   try clear c3
   try clear c5
   obtain ⟨x5_1, x53002000_1, x53002001_1, x53002002_1, HA, HK1, HO_5, BK53001, HB⟩ := hrel
   cases gk with
   | zero => exact absurd HA.out (by simp [papermillref13_more.l0])
   | succ k1 =>
    have H := HA.out
    clear HA
    simp only [papermillref13_more.l0] at H
    by_cases c8 : x53002001_1 > 0
    ·rw [if_pos c8] at H
     have c8b0 : decide (0 < x53002001_1) = true := decide_eq_true c8
     clear c8
     by_cases c9 : (wrap64 ((x5_1.length : Int) - 1)) < 0
     ·rw [if_pos c9] at H
      have c9b0 : decide ((wrap64 ((x5_1.length : Int) - 1)) < 0) = true := decide_eq_true c9
      clear c9
      replace H := Option.bind_eq_some_iff.mp H
      obtain ⟨⟨t53008, t53009, t53010⟩, A100, H⟩ := H
      replace H : (if x5_1.length < 5864062014805 then (some (x5_1 ++ [(⟨t53008, t53009, t53010⟩ : S32)])) else (none)) = some r := H
      have A10 := Aside0.mk A100
      clear A100
      by_cases c11 : x5_1.length < 5864062014805
      ·rw [if_pos c11] at H
       have LMc11 := Aside0.mk c11
       clear c11
       obtain ⟨y53011, hy53011⟩ : ∃ y_ : List (S32), y_ = (x5_1 ++ [(⟨t53008, t53009, t53010⟩ : S32)]) := ⟨_, rfl⟩
       replace H : (some y53011) = some r := by first | (rw [hy53011]; with_reducible exact H) | (have H2_ := (Option.bind_some _ _).symm.trans H; rw [hy53011]; with_reducible exact H2_) | (have H2_ := (Option.bind_some _ _).symm.trans H; with_reducible exact H2_) | with_reducible exact H | (rw [hy53011]; exact H) | exact H
       have Ny53011 := Aside0.mk hy53011
       clear hy53011
       obtain rfl := Option.some.inj H
       have hcz12_0 : wr.cell? ⟨gb53001, 0, none⟩ = some (.int .i64 x53002000_1) := (blk_cell BK53001.out 0).trans rfl
       have hcz12_1 : wr.cell? ⟨gb53001, 1, none⟩ = some (.int .i64 x53002001_1) := (blk_cell BK53001.out 1).trans rfl
       have hcz12_2 : wr.cell? ⟨gb53001, 2, none⟩ = some (.bool x53002002_1) := (blk_cell BK53001.out 2).trans rfl
       have hfz12_0 := blk_frozen BK53001.out 0
       have hfz12_1 := blk_frozen BK53001.out 1
       have hfz12_2 := blk_frozen BK53001.out 2
       obtain ⟨Ao13, co13, eo13⟩ := Kd.R_slice HO_5.out
       subst eo13
       go_wp2_with (first | ((with_reducible refine gate_callee (f := 64) rfl ?_); refine goesL_ (some 25) rfl rfl Try.func64 (by kernel_rfl) rfl #[.agg #[.int .i64 x53002000_1, .int .i64 x53002001_1, .bool x53002002_1], .int .i64 0, .int .i64 x53002001_1] rfl (by (try simp only [List.map_toArray, List.map_cons, List.map_nil]); first | done | rfl | (simp only [List.length_drop, List.length_take]; rfl)) ?_; (with_reducible refine (papermillref13_cut.calls x53002000_1 x53002001_1 x53002002_1 0 x53002001_1 t53008 t53009 t53010 _ A10.out).mono ?_); rintro e w14 ⟨rfl, hb⟩; refine ⟨_, rfl, ?_⟩; have n0_ := Aside0.mk (Kd.R_below (HO_5.out) hb); have n1_ := Aside0.mk (blk_below (g := gb53001) (o := .cells #[.int .i64 x53002000_1, .int .i64 x53002001_1, .bool x53002002_1] 32 (0, 0)) (BK53001.out) hb); have n2_ := Aside0.mk (below_step (by repeat (first | exact HB.out | apply below_alloc | apply pw_below_drewN | apply below_drew1 | refine below_set ?_ GE53001.out)) hb); clear HO_5; clear BK53001; clear HB; have HO_5 := n0_; have BK53001 := n1_; have HB := n2_; clear n0_ n1_ n2_; (try clear hb); (try clear hb2); (try clear hk); (try clear hi)) | ((with_reducible refine gate_builtin (b := .append) (xs := #[.tmp 21, .tmp 26]) rfl ?_); at_builtin; refine Kd.R_append k32 (w0 := w) w.heap.size rfl (.tmp 21) (.tmp 26) 22 32 (.agg #[(.int .i64 0), (.int .i64 0), (.bool false)]) 24 rfl Try.underlying22 info32 rfl (by decide) (by omega) (.slice Ao13 x5_1.length co13) x5_1 (⟨t53008, t53009, t53010⟩ : S32) [.int .i64 t53008, .int .i64 t53009, .bool t53010] (fun k_ => k_ ≠ gb53001) (fun _ => False) rfl rfl ?aP (fun _ hk => hk.elim) ?aF ?aO ?aB ?aS ?aL ?_; (case aP => exact k32_mkM _ _ _ (⟨t53008, t53009, t53010⟩ : S32)); (case aB => exact (by repeat (first | exact HB.out | apply below_alloc | apply pw_below_drewN | apply below_drew1 | refine below_set ?_ GE53001.out))); (case aF => exact (fun k_ hk => Kd.freshB (g := gb53001) (o := .cells #[.int .i64 x53002000_1, .int .i64 x53002001_1, .bool x53002002_1] 32 (0, 0)) (BK53001.out) k_ hk)); (case aO => exact (HO_5.out)); (case aS => exact (below_size (by repeat (first | exact HB.out | apply below_alloc | apply pw_below_drewN | apply below_drew1 | refine below_set ?_ GE53001.out)))); (case aL => have := LMc11.out; omega); intro v53012 w15 ho hb hg hat; rw [← Ny53011.out] at ho; have n0_ := Aside0.mk (blk_grown (g := gb53001) (o := .cells #[.int .i64 x53002000_1, .int .i64 x53002001_1, .bool x53002002_1] 32 (0, 0)) (BK53001.out) hg (Kd.R_away HO_5.out (fun _ hk => hk))); have n1_ := Aside0.mk (hb); have n2_ := Aside0.mk (ho); clear BK53001; clear HB; clear HO_5; have BK53001 := n0_; have HB := n1_; have HO53013 := n2_; clear n0_ n1_ n2_; clear ho hb hg hat))
       go_ret
       exact ⟨_, by first | rfl | (simp [errW_none, errW_some] <;> rfl) | (simp [*, errW_none, errW_some] <;> rfl), by exact Kd.R_mono HO53013.out (fun _ hk => trivial), by repeat (first | exact HB.out | apply below_alloc | apply pw_below_drewN | apply below_drew1 | refine below_set ?_ GE53001.out)⟩
      ·rw [if_neg c11] at H
       exact absurd H (by simp)
     ·rw [if_neg c9] at H
      have c9b0 : decide ((wrap64 ((x5_1.length : Int) - 1)) < 0) = false := decide_eq_false c9
      clear c9
      obtain ⟨ji16, hji16⟩ : ∃ j_ : Int, (wrap64 ((x5_1.length : Int) - 1)) = j_ := ⟨_, rfl⟩
      replace H : (if 0 ≤ (ji16) then (if (ji16) < (x5_1.length : Int) then ((papermillref13_image.f ((rd_T32 x5_1 (ji16)).f0) ((rd_T32 x5_1 (ji16)).f1) ((rd_T32 x5_1 (ji16)).f2) (wrap64 (((rd_T32 x5_1 (ji16)).f1) - 1))).bind fun t53016 => (if (wrap64 (x53002000_1 - t53016)) = 1 then (if ((rd_T32 x5_1 (ji16)).f1) > 1 then (papermillref13_more.j1 k1 x5_1 ji16 (wrap64 (x53002000_1 - t53016)) (((rd_T32 x5_1 (ji16)).f2) != ((wrap64 (x53002000_1 - t53016)) == (-1))) x53002000_1 x53002001_1 x53002002_1 ((rd_T32 x5_1 (ji16)).f0) ((rd_T32 x5_1 (ji16)).f1) ((rd_T32 x5_1 (ji16)).f2)) else (papermillref13_more.j1 k1 x5_1 ji16 (wrap64 (x53002000_1 - t53016)) false x53002000_1 x53002001_1 x53002002_1 ((rd_T32 x5_1 (ji16)).f0) ((rd_T32 x5_1 (ji16)).f1) ((rd_T32 x5_1 (ji16)).f2))) else (if (wrap64 (x53002000_1 - t53016)) = (-1) then (if ((rd_T32 x5_1 (ji16)).f1) > 1 then (papermillref13_more.j1 k1 x5_1 ji16 (wrap64 (x53002000_1 - t53016)) (((rd_T32 x5_1 (ji16)).f2) != ((wrap64 (x53002000_1 - t53016)) == (-1))) x53002000_1 x53002001_1 x53002002_1 ((rd_T32 x5_1 (ji16)).f0) ((rd_T32 x5_1 (ji16)).f1) ((rd_T32 x5_1 (ji16)).f2)) else (papermillref13_more.j1 k1 x5_1 ji16 (wrap64 (x53002000_1 - t53016)) false x53002000_1 x53002001_1 x53002002_1 ((rd_T32 x5_1 (ji16)).f0) ((rd_T32 x5_1 (ji16)).f1) ((rd_T32 x5_1 (ji16)).f2))) else (papermillref13_more.j1 k1 x5_1 ji16 (wrap64 (x53002000_1 - t53016)) true x53002000_1 x53002001_1 x53002002_1 ((rd_T32 x5_1 (ji16)).f0) ((rd_T32 x5_1 (ji16)).f1) ((rd_T32 x5_1 (ji16)).f2))))) else (none)) else (none)) = some r := by first | (rw [hji16] at H; exact H) | (simp only [hji16] at H ⊢; exact H)
      (try rw [hji16] at c9b0)
      have hji16w : (IntKind.i64.wrap ((x5_1.length : Int) - 1)) = ji16 := (i64_w _).trans hji16
      by_cases c17 : 0 ≤ (ji16)
      ·rw [if_pos c17] at H
       have c17b0 : decide (0 ≤ (ji16)) = true := decide_eq_true c17
       clear c17
       by_cases c18 : (ji16) < (x5_1.length : Int)
       ·rw [if_pos c18] at H
        have c18b0 : decide ((ji16) < (x5_1.length : Int)) = true := decide_eq_true c18
        clear c18
        replace H := Option.bind_eq_some_iff.mp H
        obtain ⟨t53016, A190, H⟩ := H
        replace H : (if (wrap64 (x53002000_1 - t53016)) = 1 then (if ((rd_T32 x5_1 (ji16)).f1) > 1 then (papermillref13_more.j1 k1 x5_1 ji16 (wrap64 (x53002000_1 - t53016)) (((rd_T32 x5_1 (ji16)).f2) != ((wrap64 (x53002000_1 - t53016)) == (-1))) x53002000_1 x53002001_1 x53002002_1 ((rd_T32 x5_1 (ji16)).f0) ((rd_T32 x5_1 (ji16)).f1) ((rd_T32 x5_1 (ji16)).f2)) else (papermillref13_more.j1 k1 x5_1 ji16 (wrap64 (x53002000_1 - t53016)) false x53002000_1 x53002001_1 x53002002_1 ((rd_T32 x5_1 (ji16)).f0) ((rd_T32 x5_1 (ji16)).f1) ((rd_T32 x5_1 (ji16)).f2))) else (if (wrap64 (x53002000_1 - t53016)) = (-1) then (if ((rd_T32 x5_1 (ji16)).f1) > 1 then (papermillref13_more.j1 k1 x5_1 ji16 (wrap64 (x53002000_1 - t53016)) (((rd_T32 x5_1 (ji16)).f2) != ((wrap64 (x53002000_1 - t53016)) == (-1))) x53002000_1 x53002001_1 x53002002_1 ((rd_T32 x5_1 (ji16)).f0) ((rd_T32 x5_1 (ji16)).f1) ((rd_T32 x5_1 (ji16)).f2)) else (papermillref13_more.j1 k1 x5_1 ji16 (wrap64 (x53002000_1 - t53016)) false x53002000_1 x53002001_1 x53002002_1 ((rd_T32 x5_1 (ji16)).f0) ((rd_T32 x5_1 (ji16)).f1) ((rd_T32 x5_1 (ji16)).f2))) else (papermillref13_more.j1 k1 x5_1 ji16 (wrap64 (x53002000_1 - t53016)) true x53002000_1 x53002001_1 x53002002_1 ((rd_T32 x5_1 (ji16)).f0) ((rd_T32 x5_1 (ji16)).f1) ((rd_T32 x5_1 (ji16)).f2)))) = some r := H
        have A19 := Aside0.mk A190
        clear A190
        have HC20 := Aside0.mk H
        clear H
        have hcz21_0 : wr.cell? ⟨gb53001, 0, none⟩ = some (.int .i64 x53002000_1) := (blk_cell BK53001.out 0).trans rfl
        have hcz21_1 : wr.cell? ⟨gb53001, 1, none⟩ = some (.int .i64 x53002001_1) := (blk_cell BK53001.out 1).trans rfl
        have hcz21_2 : wr.cell? ⟨gb53001, 2, none⟩ = some (.bool x53002002_1) := (blk_cell BK53001.out 2).trans rfl
        have hfz21_0 := blk_frozen BK53001.out 0
        have hfz21_1 := blk_frozen BK53001.out 1
        have hfz21_2 := blk_frozen BK53001.out 2
        obtain ⟨Ao22, co22, eo22⟩ := Kd.R_slice HO_5.out
        subst eo22
        have p53014 : 0 ≤ ((ji16) : Int) := of_decide_eq_true (by assumption)
        have q53014 : (ji16) < (x5_1.length : Int) := of_decide_eq_true (by assumption)
        obtain ⟨ad53014, e53014, hx53014_0, hx53014_1, hx53014_2⟩ := at_T32 (Kd.R_reads' HO_5.out).2.2 (ji16) p53014 q53014
        cases e53014
        replace p53014 := eq_true p53014
        replace q53014 := eq_true q53014
        try go_wp2_with (first | ((with_reducible refine gate_dst (N := 7) rfl ?_); refine box_event ?hg (N := 7) ?hd (cs := #[.int .i64 0, .int .i64 0, .bool false]) (t := 32) ?hr ?_; (case hd => rfl); (case hg => rfl); (case hr => first | (go_simp; done) | (go_simp; rfl)); intro gb53015 hg w23 hbox hb; have n0_ := Aside0.mk (Kd.R_below (Kd.R_elderB (HO_5.out) gb53015 (Nat.le_of_eq hg.symm)) hb); have n1_ := Aside0.mk (blk_below (g := gb53001) (o := .cells #[.int .i64 x53002000_1, .int .i64 x53002001_1, .bool x53002002_1] 32 (0, 0)) (BK53001.out) hb); have n2_ := Aside0.mk (below_step (by repeat (first | exact HB.out | apply below_alloc | apply pw_below_drewN | apply below_drew1 | refine below_set ?_ GE53001.out)) hb); have n3_ := Aside0.mk (hbox); have n4_ := Aside0.mk ((by rw [hg]; exact (below_size (by repeat (first | exact HB.out | apply below_alloc | apply pw_below_drewN | apply below_drew1 | refine below_set ?_ GE53001.out))) : w.heap.size ≤ gb53015)); have n5_ := Aside0.mk ((by rw [hg]; exact (below_size (by repeat (first | exact HB.out | apply below_alloc | apply pw_below_drewN | apply below_drew1 | refine below_set ?_ GE53001.out))) : w.heap.size ≤ gb53015)); have n6_ := Aside0.mk ((by rw [hg]; exact Nat.ne_of_lt (blk_lt (g := gb53001) (o := .cells #[.int .i64 x53002000_1, .int .i64 x53002001_1, .bool x53002002_1] 32 (0, 0)) (BK53001.out)) : gb53001 ≠ gb53015)); have n7_ := Aside0.mk ((by rw [hg]; exact Nat.ne_of_gt (blk_lt (g := gb53001) (o := .cells #[.int .i64 x53002000_1, .int .i64 x53002001_1, .bool x53002002_1] 32 (0, 0)) (BK53001.out)) : gb53015 ≠ gb53001)); clear HO_5; clear BK53001; clear HB; have HO_5 := n0_; have BK53001 := n1_; have HB := n2_; have BK53015 := n3_; have GW53015 := n4_; have GE53015 := n5_; have NB53001_53015 := n6_; have NB53015_53001 := n7_; clear n0_ n1_ n2_ n3_ n4_ n5_ n6_ n7_; clear hb hbox hg; have hnb24 := NB53015_53001.out; have hnc24 := NB53001_53015.out; have hcz25_0 : w23.cell? ⟨gb53015, 0, none⟩ = some (.int .i64 0) := (blk_cell BK53015.out 0).trans rfl; have hcz25_1 : w23.cell? ⟨gb53015, 1, none⟩ = some (.int .i64 0) := (blk_cell BK53015.out 1).trans rfl; have hcz25_2 : w23.cell? ⟨gb53015, 2, none⟩ = some (.bool false) := (blk_cell BK53015.out 2).trans rfl; have hfz25_0 := blk_frozen BK53015.out 0; have hfz25_1 := blk_frozen BK53015.out 1; have hfz25_2 := blk_frozen BK53015.out 2))
        have n0_ : Aside0 (Kd.R k32 32 (((w23.setCell ⟨gb53015, 0, none⟩ (.int .i64 ((rd_T32 x5_1 (ji16)).f0))).setCell ⟨gb53015, 1, none⟩ (.int .i64 ((rd_T32 x5_1 (ji16)).f1))).setCell ⟨gb53015, 2, none⟩ (.bool ((rd_T32 x5_1 (ji16)).f2))) w.heap.size (fun k_ => k_ ≠ gb53001 ∧ k_ ≠ gb53015) (.slice (some ad53014) x5_1.length co22) x5_1) := ⟨by exact Kd.R_mono (Kd.R_far (p := ⟨gb53015, 2, none⟩) (Kd.R_far (p := ⟨gb53015, 1, none⟩) (Kd.R_far (p := ⟨gb53015, 0, none⟩) (Kd.R_mono HO_5.out (fun k_ hk => (⟨hk, hk.2⟩ : _ ∧ k_ ≠ gb53015))) (fun _ hk => hk.2) (.int .i64 ((rd_T32 x5_1 (ji16)).f0))) (fun _ hk => hk.2) (.int .i64 ((rd_T32 x5_1 (ji16)).f1))) (fun _ hk => hk.2) (.bool ((rd_T32 x5_1 (ji16)).f2))) (fun _ hk => ⟨hk.1.1, hk.1.2⟩)⟩
        have n1_ : Aside0 ((((w23.setCell ⟨gb53015, 0, none⟩ (.int .i64 ((rd_T32 x5_1 (ji16)).f0))).setCell ⟨gb53015, 1, none⟩ (.int .i64 ((rd_T32 x5_1 (ji16)).f1))).setCell ⟨gb53015, 2, none⟩ (.bool ((rd_T32 x5_1 (ji16)).f2))).heap[gb53001]? = some (.cells #[.int .i64 x53002000_1, .int .i64 x53002001_1, .bool x53002002_1] 32 (0, 0))) := ⟨by refine blk_far ?_ NB53001_53015.out _; refine blk_far ?_ NB53001_53015.out _; refine blk_far ?_ NB53001_53015.out _; exact BK53001.out⟩
        have n2_ : Aside0 ((((w23.setCell ⟨gb53015, 0, none⟩ (.int .i64 ((rd_T32 x5_1 (ji16)).f0))).setCell ⟨gb53015, 1, none⟩ (.int .i64 ((rd_T32 x5_1 (ji16)).f1))).setCell ⟨gb53015, 2, none⟩ (.bool ((rd_T32 x5_1 (ji16)).f2))).heap[gb53015]? = some (.cells #[.int .i64 ((rd_T32 x5_1 (ji16)).f0), .int .i64 ((rd_T32 x5_1 (ji16)).f1), .bool ((rd_T32 x5_1 (ji16)).f2)] 32 (0, 0))) := ⟨by refine blk_put (cs := #[.int .i64 ((rd_T32 x5_1 (ji16)).f0), .int .i64 ((rd_T32 x5_1 (ji16)).f1), .bool false]) ?_ 2 _ rfl; refine blk_put (cs := #[.int .i64 ((rd_T32 x5_1 (ji16)).f0), .int .i64 0, .bool false]) ?_ 1 _ rfl; refine blk_put (cs := #[.int .i64 0, .int .i64 0, .bool false]) ?_ 0 _ rfl; exact BK53015.out⟩
        have n3_ : Aside0 (Below w.heap.size w (((w23.setCell ⟨gb53015, 0, none⟩ (.int .i64 ((rd_T32 x5_1 (ji16)).f0))).setCell ⟨gb53015, 1, none⟩ (.int .i64 ((rd_T32 x5_1 (ji16)).f1))).setCell ⟨gb53015, 2, none⟩ (.bool ((rd_T32 x5_1 (ji16)).f2)))) := ⟨by repeat (first | exact HB.out | apply below_alloc | apply pw_below_drewN | apply below_drew1 | refine below_set ?_ GE53001.out | refine below_set ?_ GE53015.out)⟩
        (try clear HO_5)
        (try clear BK53001)
        (try clear BK53015)
        (try clear HB)
        generalize (((w23.setCell ⟨gb53015, 0, none⟩ (.int .i64 ((rd_T32 x5_1 (ji16)).f0))).setCell ⟨gb53015, 1, none⟩ (.int .i64 ((rd_T32 x5_1 (ji16)).f1))).setCell ⟨gb53015, 2, none⟩ (.bool ((rd_T32 x5_1 (ji16)).f2))) = w26 at n0_ n1_ n2_ n3_ ⊢
        have HO_5 := n0_
        have BK53001 := n1_
        have BK53015 := n2_
        have HB := n3_
        clear n0_ n1_ n2_ n3_
        have n0_ := Aside0.mk (Kd.R_drew HO_5.out)
        have n1_ := Aside0.mk (blk_drew BK53001.out)
        have n2_ := Aside0.mk (blk_drew BK53015.out)
        have n3_ := Aside0.mk (below_drew1 HB.out)
        clear HO_5
        clear BK53001
        clear BK53015
        clear HB
        have HO_5 := n0_
        have BK53001 := n1_
        have BK53015 := n2_
        have HB := n3_
        clear n0_ n1_ n2_ n3_
        refine start_ (n := 9) (S := fun w' => w'.cell? ⟨gb53001, 0, none⟩ = some (.int .i64 x53002000_1) ∧ w'.cell? ⟨gb53001, 1, none⟩ = some (.int .i64 x53002001_1) ∧ w'.cell? ⟨gb53001, 2, none⟩ = some (.bool x53002002_1) ∧ w'.cell? ⟨gb53015, 0, none⟩ = some (.int .i64 ((rd_T32 x5_1 (ji16)).f0)) ∧ w'.cell? ⟨gb53015, 1, none⟩ = some (.int .i64 ((rd_T32 x5_1 (ji16)).f1)) ∧ w'.cell? ⟨gb53015, 2, none⟩ = some (.bool ((rd_T32 x5_1 (ji16)).f2))) (ds := []) #[false, false, false, false, false, false, false, false, false] (by kernel_rfl) rfl rfl ⟨(blk_cell BK53001.out 0).trans rfl, (blk_cell BK53001.out 1).trans rfl, (blk_cell BK53001.out 2).trans rfl, (blk_cell BK53015.out 0).trans rfl, (blk_cell BK53015.out 1).trans rfl, (blk_cell BK53015.out 2).trans rfl⟩ (fun hHeld => ?_); refine with_tabW papermillref13_more.tab7 papermillref13_more.bits7 (fun HT_ HW_ => ?_)
        generalize w26.drew = w27 at HO_5 BK53001 BK53015 HB hHeld ⊢
        refine pure_ (i := 0) (N := some 32) (v := ?_) (a' := ?_) #[true, false, false, false, false, false, false, false, false] rfl rfl (any_of HT_.out (by kernel_rfl)) (fun _ _ _ h => h) (Or.inl ⟨by rfl, ?_⟩) ?_ ?_
        rotate_left
        ·intro w'
         go_simp
         with_reducible rfl
        rotate_left
        ·simp only [Act.put, List.setIfInBounds_toArray, List.set_cons_zero, List.set_cons_succ, i64_w, i32_w]
         rfl
        refine pure_ (i := 3) (N := some 35) (v := ?_) (a' := ?_) #[true, false, false, true, false, false, false, false, false] rfl rfl (any_of HT_.out (by kernel_rfl)) (fun _ _ _ h => h) (Or.inl ⟨by rfl, ?_⟩) ?_ ?_
        rotate_left
        ·intro w'
         go_simp
         with_reducible rfl
        rotate_left
        ·simp only [Act.put, List.setIfInBounds_toArray, List.set_cons_zero, List.set_cons_succ, i64_w, i32_w]
         rfl
        refine take_ (i := 1) (N := some 33) (v := ?_) (a' := ?_) #[true, true, false, true, false, false, false, false, false] rfl rfl (take_ofW HT_.out HW_.out (by kernel_rfl)) (fun _ _ _ h => h) (Or.inl ⟨by rfl, ?_⟩) hHeld ?_ ?_
        rotate_left
        ·rintro w' ⟨s0, s1, s2, s3, s4, s5⟩
         go_simp
         with_reducible rfl
        rotate_left
        ·simp only [Act.put, List.setIfInBounds_toArray, List.set_cons_zero, List.set_cons_succ, i64_w, i32_w]
         rfl
        refine take_ (i := 2) (N := some 34) (v := ?_) (a' := ?_) #[true, true, true, true, false, false, false, false, false] rfl rfl (take_ofW HT_.out HW_.out (by kernel_rfl)) (fun _ _ _ h => h) (Or.inl ⟨by rfl, ?_⟩) hHeld ?_ ?_
        rotate_left
        ·rintro w' ⟨s0, s1, s2, s3, s4, s5⟩
         go_simp
         with_reducible rfl
        rotate_left
        ·simp only [Act.put, List.setIfInBounds_toArray, List.set_cons_zero, List.set_cons_succ, i64_w, i32_w]
         rfl
        refine take_ (i := 4) (N := some 36) (v := ?_) (a' := ?_) #[true, true, true, true, true, false, false, false, false] rfl rfl (take_ofW HT_.out HW_.out (by kernel_rfl)) (fun _ _ _ h => h) (Or.inl ⟨by rfl, ?_⟩) hHeld ?_ ?_
        rotate_left
        ·rintro w' ⟨s0, s1, s2, s3, s4, s5⟩
         go_simp
         with_reducible rfl
        rotate_left
        ·simp only [Act.put, List.setIfInBounds_toArray, List.set_cons_zero, List.set_cons_succ, i64_w, i32_w]
         rfl
        refine pure_ (i := 5) (N := some 37) (v := ?_) (a' := ?_) #[true, true, true, true, true, true, false, false, false] rfl rfl (any_of HT_.out (by kernel_rfl)) (fun _ _ _ h => h) (Or.inl ⟨by rfl, ?_⟩) ?_ ?_
        rotate_left
        ·intro w'
         go_simp
         with_reducible rfl
        rotate_left
        ·simp only [Act.put, List.setIfInBounds_toArray, List.set_cons_zero, List.set_cons_succ, i64_w, i32_w]
         rfl
        refine one_ (i := 6) (N := some 38) #[true, true, true, true, true, true, true, false, false] rfl rfl (one_of HT_.out (by kernel_rfl)) (by decide) (fun K hK => ?_)
        refine goes_ Try.func53 (by kernel_rfl) rfl #[.agg #[.int .i64 ((rd_T32 x5_1 (ji16)).f0), .int .i64 ((rd_T32 x5_1 (ji16)).f1), .bool ((rd_T32 x5_1 (ji16)).f2)], .int .i64 (wrap64 (((rd_T32 x5_1 (ji16)).f1) - 1))] (by rfl) rfl rfl (by (try simp only [List.map_toArray, List.map_cons, List.map_nil]); first | done | (simp only [hji16]; rfl) | rfl | (simp only [List.length_drop, List.length_take]; rfl)) ?_
        with_reducible refine (papermillref13_image.calls ((rd_T32 x5_1 (ji16)).f0) ((rd_T32 x5_1 (ji16)).f1) ((rd_T32 x5_1 (ji16)).f2) (wrap64 (((rd_T32 x5_1 (ji16)).f1) - 1)) t53016 _ A19.out).mono ?_
        rintro e w28 ⟨rfl, hb⟩
        refine ⟨_, rfl, ?_⟩
        have n0_ := Aside0.mk (Kd.R_below (HO_5.out) hb)
        have n1_ := Aside0.mk (blk_below (g := gb53001) (o := .cells #[.int .i64 x53002000_1, .int .i64 x53002001_1, .bool x53002002_1] 32 (0, 0)) (BK53001.out) hb)
        have n2_ := Aside0.mk (blk_below (g := gb53015) (o := .cells #[.int .i64 ((rd_T32 x5_1 (ji16)).f0), .int .i64 ((rd_T32 x5_1 (ji16)).f1), .bool ((rd_T32 x5_1 (ji16)).f2)] 32 (0, 0)) (BK53015.out) hb)
        have n3_ := Aside0.mk (below_step (by repeat (first | exact HB.out | apply below_alloc | apply pw_below_drewN | apply below_drew1 | refine below_set ?_ GE53001.out | refine below_set ?_ GE53015.out)) hb)
        clear HO_5
        clear BK53001
        clear BK53015
        clear HB
        have HO_5 := n0_
        have BK53001 := n1_
        have BK53015 := n2_
        have HB := n3_
        clear n0_ n1_ n2_ n3_
        (try clear hb)
        (try clear hb2)
        (try clear hk)
        (try clear hi)
        refine hK.out _ _ ⟨(blk_cell BK53001.out 0).trans rfl, (blk_cell BK53001.out 1).trans rfl, (blk_cell BK53001.out 2).trans rfl, (blk_cell BK53015.out 0).trans rfl, (blk_cell BK53015.out 1).trans rfl, (blk_cell BK53015.out 2).trans rfl⟩ (fun hHeld => ?_)
        clear hK K
        refine norm_ (a' := ?_) ?_ ?_
        rotate_left
        ·show Act.put _ (some 38) _ = _
         simp only [Act.put, List.setIfInBounds_toArray, List.set_cons_zero, List.set_cons_succ, i64_w, i32_w]
         rfl
        refine pure_ (i := 7) (N := some 39) (v := ?_) (a' := ?_) #[true, true, true, true, true, true, true, true, false] rfl rfl (any_of HT_.out (by kernel_rfl)) (fun _ _ _ h => h) (Or.inl ⟨by rfl, ?_⟩) ?_ ?_
        rotate_left
        ·intro w'
         go_simp
         with_reducible rfl
        rotate_left
        ·simp only [Act.put, List.setIfInBounds_toArray, List.set_cons_zero, List.set_cons_succ, i64_w, i32_w]
         rfl
        refine pure_ (i := 8) (N := some 8) (v := ?_) (a' := ?_) #[true, true, true, true, true, true, true, true, true] rfl rfl (any_of HT_.out (by kernel_rfl)) (fun _ _ _ h => h) (Or.inl ⟨by rfl, ?_⟩) ?_ ?_
        rotate_left
        ·intro w'
         go_simp
         with_reducible rfl
        rotate_left
        ·simp only [Act.put, List.setIfInBounds_toArray, List.set_cons_zero, List.set_cons_succ, i64_w, i32_w]
         rfl
        refine done_ (done_of HT_.out (by kernel_rfl)) ?_
        go_upto_region 8 with (fail)
        go_cut [57] (fun v57 wc => ∃ (kq : Nat) (x57_19 : Bool), v57 = .bool x57_19 ∧ Aside0 (papermillref13_more.j1 kq x5_1 ji16 (wrap64 (x53002000_1 - t53016)) x57_19 x53002000_1 x53002001_1 x53002002_1 ((rd_T32 x5_1 (ji16)).f0) ((rd_T32 x5_1 (ji16)).f1) ((rd_T32 x5_1 (ji16)).f2) = some r) ∧ Aside0 (kq ≤ k1) ∧ Aside0 (Kd.R k32 32 wc w.heap.size (fun k_ => k_ ≠ gb53001 ∧ k_ ≠ gb53015) (.slice (some ad53014) x5_1.length co22) x5_1) ∧ Aside0 (wc.heap[gb53001]? = some (.cells #[.int .i64 x53002000_1, .int .i64 x53002001_1, .bool x53002002_1] 32 (0, 0))) ∧ Aside0 (wc.heap[gb53015]? = some (.cells #[.int .i64 ((rd_T32 x5_1 (ji16)).f0), .int .i64 ((rd_T32 x5_1 (ji16)).f1), .bool ((rd_T32 x5_1 (ji16)).f2)] 32 (0, 0))) ∧ Aside0 (Below w.heap.size w wc))
        case first =>
         have H := HC20.out
         clear HC20
         by_cases c29 : (wrap64 (x53002000_1 - t53016)) = 1
         ·rw [if_pos c29] at H
          have c29b0 : ((wrap64 (x53002000_1 - t53016)) == 1) = true := beq_iff_eq.mpr c29
          have c29b1 : ((wrap64 (x53002000_1 - t53016)) != 1) = false := bne_eq_false_iff_eq.mpr c29
          clear c29
          (first | rw [c29b0] | (simp only [i64_w, i32_w]; rw [c29b0]) | skip)
          by_cases c30 : ((rd_T32 x5_1 (ji16)).f1) > 1
          ·rw [if_pos c30] at H
           have c30b0 : decide (1 < ((rd_T32 x5_1 (ji16)).f1)) = true := decide_eq_true c30
           clear c30
           have H' := Aside0.mk H
           clear H
           have hnb31 := NB53015_53001.out
           have hnc31 := NB53001_53015.out
           have hcz32_0 : w28.cell? ⟨gb53015, 0, none⟩ = some (.int .i64 ((rd_T32 x5_1 (ji16)).f0)) := (blk_cell BK53015.out 0).trans rfl
           have hcz32_1 : w28.cell? ⟨gb53015, 1, none⟩ = some (.int .i64 ((rd_T32 x5_1 (ji16)).f1)) := (blk_cell BK53015.out 1).trans rfl
           have hcz32_2 : w28.cell? ⟨gb53015, 2, none⟩ = some (.bool ((rd_T32 x5_1 (ji16)).f2)) := (blk_cell BK53015.out 2).trans rfl
           have hfz32_0 := blk_frozen BK53015.out 0
           have hfz32_1 := blk_frozen BK53015.out 1
           have hfz32_2 := blk_frozen BK53015.out 2
           go_wp2
           go_meet
           case rel => exact ⟨_, ((((rd_T32 x5_1 (ji16)).f2) != ((wrap64 (x53002000_1 - t53016)) == (-1)))), (by first | rfl | (simp; done) | (simp only [← hji16] <;> (first | rfl | (simp; done))) | (simp [*]; done)), H', ⟨by have := HK1.out; first | omega | exact Nat.le_refl _⟩, ⟨HO_5.out⟩, ⟨BK53001.out⟩, ⟨BK53015.out⟩, ⟨by repeat (first | exact HB.out | apply below_alloc | apply pw_below_drewN | apply below_drew1 | refine below_set ?_ GE53001.out | refine below_set ?_ GE53015.out)⟩⟩
          ·rw [if_neg c30] at H
           have c30b0 : decide (1 < ((rd_T32 x5_1 (ji16)).f1)) = false := decide_eq_false c30
           clear c30
           have H' := Aside0.mk H
           clear H
           have hnb33 := NB53015_53001.out
           have hnc33 := NB53001_53015.out
           have hcz34_0 : w28.cell? ⟨gb53015, 0, none⟩ = some (.int .i64 ((rd_T32 x5_1 (ji16)).f0)) := (blk_cell BK53015.out 0).trans rfl
           have hcz34_1 : w28.cell? ⟨gb53015, 1, none⟩ = some (.int .i64 ((rd_T32 x5_1 (ji16)).f1)) := (blk_cell BK53015.out 1).trans rfl
           have hcz34_2 : w28.cell? ⟨gb53015, 2, none⟩ = some (.bool ((rd_T32 x5_1 (ji16)).f2)) := (blk_cell BK53015.out 2).trans rfl
           have hfz34_0 := blk_frozen BK53015.out 0
           have hfz34_1 := blk_frozen BK53015.out 1
           have hfz34_2 := blk_frozen BK53015.out 2
           go_wp2
           go_meet
           case rel => exact ⟨_, (false), (by first | rfl | (simp; done) | (simp [*]; done)), H', ⟨by have := HK1.out; first | omega | exact Nat.le_refl _⟩, ⟨HO_5.out⟩, ⟨BK53001.out⟩, ⟨BK53015.out⟩, ⟨by repeat (first | exact HB.out | apply below_alloc | apply pw_below_drewN | apply below_drew1 | refine below_set ?_ GE53001.out | refine below_set ?_ GE53015.out)⟩⟩
         ·rw [if_neg c29] at H
          have c29b0 : ((wrap64 (x53002000_1 - t53016)) == 1) = false := beq_eq_false_iff_ne.mpr c29
          have c29b1 : ((wrap64 (x53002000_1 - t53016)) != 1) = true := bne_iff_ne.mpr c29
          (first | rw [c29b0] | (simp only [i64_w, i32_w]; rw [c29b0]) | skip)
          by_cases c35 : (wrap64 (x53002000_1 - t53016)) = (-1)
          ·rw [if_pos c35] at H
           have c35b0 : ((wrap64 (x53002000_1 - t53016)) == (-1)) = true := beq_iff_eq.mpr c35
           have c35b1 : ((wrap64 (x53002000_1 - t53016)) != (-1)) = false := bne_eq_false_iff_eq.mpr c35
           clear c35
           by_cases c36 : ((rd_T32 x5_1 (ji16)).f1) > 1
           ·rw [if_pos c36] at H
            have c36b0 : decide (1 < ((rd_T32 x5_1 (ji16)).f1)) = true := decide_eq_true c36
            clear c36
            have H' := Aside0.mk H
            clear H
            have hnb37 := NB53015_53001.out
            have hnc37 := NB53001_53015.out
            have hcz38_0 : w28.cell? ⟨gb53015, 0, none⟩ = some (.int .i64 ((rd_T32 x5_1 (ji16)).f0)) := (blk_cell BK53015.out 0).trans rfl
            have hcz38_1 : w28.cell? ⟨gb53015, 1, none⟩ = some (.int .i64 ((rd_T32 x5_1 (ji16)).f1)) := (blk_cell BK53015.out 1).trans rfl
            have hcz38_2 : w28.cell? ⟨gb53015, 2, none⟩ = some (.bool ((rd_T32 x5_1 (ji16)).f2)) := (blk_cell BK53015.out 2).trans rfl
            have hfz38_0 := blk_frozen BK53015.out 0
            have hfz38_1 := blk_frozen BK53015.out 1
            have hfz38_2 := blk_frozen BK53015.out 2
            go_wp2
            go_meet
            case rel => exact ⟨_, ((((rd_T32 x5_1 (ji16)).f2) != ((wrap64 (x53002000_1 - t53016)) == (-1)))), (by first | rfl | (simp; done) | (simp only [← hji16] <;> (first | rfl | (simp; done))) | (simp [*]; done)), H', ⟨by have := HK1.out; first | omega | exact Nat.le_refl _⟩, ⟨HO_5.out⟩, ⟨BK53001.out⟩, ⟨BK53015.out⟩, ⟨by repeat (first | exact HB.out | apply below_alloc | apply pw_below_drewN | apply below_drew1 | refine below_set ?_ GE53001.out | refine below_set ?_ GE53015.out)⟩⟩
           ·rw [if_neg c36] at H
            have c36b0 : decide (1 < ((rd_T32 x5_1 (ji16)).f1)) = false := decide_eq_false c36
            clear c36
            have H' := Aside0.mk H
            clear H
            have hnb39 := NB53015_53001.out
            have hnc39 := NB53001_53015.out
            have hcz40_0 : w28.cell? ⟨gb53015, 0, none⟩ = some (.int .i64 ((rd_T32 x5_1 (ji16)).f0)) := (blk_cell BK53015.out 0).trans rfl
            have hcz40_1 : w28.cell? ⟨gb53015, 1, none⟩ = some (.int .i64 ((rd_T32 x5_1 (ji16)).f1)) := (blk_cell BK53015.out 1).trans rfl
            have hcz40_2 : w28.cell? ⟨gb53015, 2, none⟩ = some (.bool ((rd_T32 x5_1 (ji16)).f2)) := (blk_cell BK53015.out 2).trans rfl
            have hfz40_0 := blk_frozen BK53015.out 0
            have hfz40_1 := blk_frozen BK53015.out 1
            have hfz40_2 := blk_frozen BK53015.out 2
            go_wp2
            go_meet
            case rel => exact ⟨_, (false), (by first | rfl | (simp; done) | (simp [*]; done)), H', ⟨by have := HK1.out; first | omega | exact Nat.le_refl _⟩, ⟨HO_5.out⟩, ⟨BK53001.out⟩, ⟨BK53015.out⟩, ⟨by repeat (first | exact HB.out | apply below_alloc | apply pw_below_drewN | apply below_drew1 | refine below_set ?_ GE53001.out | refine below_set ?_ GE53015.out)⟩⟩
          ·rw [if_neg c35] at H
           have c35b0 : ((wrap64 (x53002000_1 - t53016)) == (-1)) = false := beq_eq_false_iff_ne.mpr c35
           have c35b1 : ((wrap64 (x53002000_1 - t53016)) != (-1)) = true := bne_iff_ne.mpr c35
           have H' := Aside0.mk H
           clear H
           go_wp2
           go_meet
           case rel => exact ⟨_, (true), (by first | rfl | (simp; done) | (simp [*]; done)), H', ⟨by have := HK1.out; first | omega | exact Nat.le_refl _⟩, ⟨HO_5.out⟩, ⟨BK53001.out⟩, ⟨BK53015.out⟩, ⟨by repeat (first | exact HB.out | apply below_alloc | apply pw_below_drewN | apply below_drew1 | refine below_set ?_ GE53001.out | refine below_set ?_ GE53015.out)⟩⟩
        case rest =>
         clear HC20
         try clear c1
         try clear c2
         try clear p2
         try clear c3
         try clear c5
         try clear p5
         try clear q5
         try clear hx5
         try clear c6
         try clear p6
         try clear c8
         try clear c8b0
         try clear c9
         try clear c9b0
         try clear c11
         try clear c17
         try clear c17b0
         try clear c18
         try clear c18b0
         try clear c24
         try clear c29
         try clear c29b0
         try clear c29b1
         try clear c30
         try clear c30b0
         try clear c31
         try clear c33
         try clear c35
         try clear c35b0
         try clear c35b1
         try clear c36
         try clear c36b0
         try clear c37
         try clear c39
         try clear hcz12_0
         try clear hcz12_1
         try clear hcz12_2
         try clear hcz21_0
         try clear hcz21_1
         try clear hcz21_2
         try clear hcz25_0
         try clear hcz25_1
         try clear hcz25_2
         try clear hcz32_0
         try clear hcz32_1
         try clear hcz32_2
         try clear hcz34_0
         try clear hcz34_1
         try clear hcz34_2
         try clear hcz38_0
         try clear hcz38_1
         try clear hcz38_2
         try clear hcz40_0
         try clear hcz40_1
         try clear hcz40_2
         try clear hfz12_0
         try clear hfz12_1
         try clear hfz12_2
         try clear hfz21_0
         try clear hfz21_1
         try clear hfz21_2
         try clear hfz25_0
         try clear hfz25_1
         try clear hfz25_2
         try clear hfz32_0
         try clear hfz32_1
         try clear hfz32_2
         try clear hfz34_0
         try clear hfz34_1
         try clear hfz34_2
         try clear hfz38_0
         try clear hfz38_1
         try clear hfz38_2
         try clear hfz40_0
         try clear hfz40_1
         try clear hfz40_2
         try clear hx53014_0
         try clear hx53014_1
         try clear hx53014_2
         try clear p2
         try clear p53014
         try clear q53014
         obtain ⟨kq, x57_19, rfl, HA, HJ19, HO_5, BK53001, BK53015, HB⟩ := hcut
         cases kq with
         | zero => exact absurd HA.out (by simp [papermillref13_more.j1])
         | succ kj19 =>
          have H := HA.out
          clear HA
          simp only [papermillref13_more.j1] at H
          by_cases c41 : x57_19 = true
          ·subst c41
           have H1 : ((papermillref13_cut.f x53002000_1 x53002001_1 x53002002_1 0 x53002001_1).bind fun bt53017 => (if x5_1.length < 5864062014805 then (some (x5_1 ++ [(⟨bt53017.1, bt53017.2.1, bt53017.2.2⟩ : S32)])) else (none))) = some r := by rw [if_pos rfl] at H; exact H
           clear H
           have H := H1
           clear H1
           replace H := Option.bind_eq_some_iff.mp H
           obtain ⟨⟨t53017, t53018, t53019⟩, A420, H⟩ := H
           replace H : (if x5_1.length < 5864062014805 then (some (x5_1 ++ [(⟨t53017, t53018, t53019⟩ : S32)])) else (none)) = some r := H
           have A42 := Aside0.mk A420
           clear A420
           by_cases c43 : x5_1.length < 5864062014805
           ·rw [if_pos c43] at H
            have LMc43 := Aside0.mk c43
            clear c43
            obtain ⟨y53020, hy53020⟩ : ∃ y_ : List (S32), y_ = (x5_1 ++ [(⟨t53017, t53018, t53019⟩ : S32)]) := ⟨_, rfl⟩
            replace H : (some y53020) = some r := by first | (rw [hy53020]; with_reducible exact H) | (have H2_ := (Option.bind_some _ _).symm.trans H; rw [hy53020]; with_reducible exact H2_) | (have H2_ := (Option.bind_some _ _).symm.trans H; with_reducible exact H2_) | with_reducible exact H | (rw [hy53020]; exact H) | exact H
            have Ny53020 := Aside0.mk hy53020
            clear hy53020
            obtain rfl := Option.some.inj H
            have hnb44 := NB53001_53015.out
            have hnc44 := NB53015_53001.out
            have hcz45_0 : wc.cell? ⟨gb53001, 0, none⟩ = some (.int .i64 x53002000_1) := (blk_cell BK53001.out 0).trans rfl
            have hcz45_1 : wc.cell? ⟨gb53001, 1, none⟩ = some (.int .i64 x53002001_1) := (blk_cell BK53001.out 1).trans rfl
            have hcz45_2 : wc.cell? ⟨gb53001, 2, none⟩ = some (.bool x53002002_1) := (blk_cell BK53001.out 2).trans rfl
            have hfz45_0 := blk_frozen BK53001.out 0
            have hfz45_1 := blk_frozen BK53001.out 1
            have hfz45_2 := blk_frozen BK53001.out 2
            go_wp2_with (first | ((with_reducible refine gate_callee (f := 64) rfl ?_); refine goesL_ (some 62) rfl rfl Try.func64 (by kernel_rfl) rfl #[.agg #[.int .i64 x53002000_1, .int .i64 x53002001_1, .bool x53002002_1], .int .i64 0, .int .i64 x53002001_1] rfl (by (try simp only [List.map_toArray, List.map_cons, List.map_nil]); first | done | rfl | (simp only [List.length_drop, List.length_take]; rfl)) ?_; (with_reducible refine (papermillref13_cut.calls x53002000_1 x53002001_1 x53002002_1 0 x53002001_1 t53017 t53018 t53019 _ A42.out).mono ?_); rintro e w46 ⟨rfl, hb⟩; refine ⟨_, rfl, ?_⟩; have n0_ := Aside0.mk (Kd.R_below (HO_5.out) hb); have n1_ := Aside0.mk (blk_below (g := gb53001) (o := .cells #[.int .i64 x53002000_1, .int .i64 x53002001_1, .bool x53002002_1] 32 (0, 0)) (BK53001.out) hb); have n2_ := Aside0.mk (blk_below (g := gb53015) (o := .cells #[.int .i64 ((rd_T32 x5_1 (ji16)).f0), .int .i64 ((rd_T32 x5_1 (ji16)).f1), .bool ((rd_T32 x5_1 (ji16)).f2)] 32 (0, 0)) (BK53015.out) hb); have n3_ := Aside0.mk (below_step (by repeat (first | exact HB.out | apply below_alloc | apply pw_below_drewN | apply below_drew1 | refine below_set ?_ GE53001.out | refine below_set ?_ GE53015.out)) hb); clear HO_5; clear BK53001; clear BK53015; clear HB; have HO_5 := n0_; have BK53001 := n1_; have BK53015 := n2_; have HB := n3_; clear n0_ n1_ n2_ n3_; (try clear hb); (try clear hb2); (try clear hk); (try clear hi)) | ((with_reducible refine gate_builtin (b := .append) (xs := #[.tmp 58, .tmp 63]) rfl ?_); at_builtin; refine Kd.R_append k32 (w0 := w) w.heap.size rfl (.tmp 58) (.tmp 63) 22 32 (.agg #[(.int .i64 0), (.int .i64 0), (.bool false)]) 24 rfl Try.underlying22 info32 rfl (by decide) (by omega) (.slice (some ad53014) x5_1.length co22) x5_1 (⟨t53017, t53018, t53019⟩ : S32) [.int .i64 t53017, .int .i64 t53018, .bool t53019] (fun k_ => k_ ≠ gb53001 ∧ k_ ≠ gb53015) (fun _ => False) rfl rfl ?aP (fun _ hk => hk.elim) ?aF ?aO ?aB ?aS ?aL ?_; (case aP => exact k32_mkM _ _ _ (⟨t53017, t53018, t53019⟩ : S32)); (case aB => exact (by repeat (first | exact HB.out | apply below_alloc | apply pw_below_drewN | apply below_drew1 | refine below_set ?_ GE53001.out | refine below_set ?_ GE53015.out))); (case aF => exact (fun k_ hk => ⟨Kd.freshB (g := gb53001) (o := .cells #[.int .i64 x53002000_1, .int .i64 x53002001_1, .bool x53002002_1] 32 (0, 0)) (BK53001.out) k_ hk, Kd.freshB (g := gb53015) (o := .cells #[.int .i64 ((rd_T32 x5_1 (ji16)).f0), .int .i64 ((rd_T32 x5_1 (ji16)).f1), .bool ((rd_T32 x5_1 (ji16)).f2)] 32 (0, 0)) (BK53015.out) k_ hk⟩)); (case aO => exact (HO_5.out)); (case aS => exact (below_size (by repeat (first | exact HB.out | apply below_alloc | apply pw_below_drewN | apply below_drew1 | refine below_set ?_ GE53001.out | refine below_set ?_ GE53015.out)))); (case aL => have := LMc43.out; omega); intro v53021 w47 ho hb hg hat; rw [← Ny53020.out] at ho; have n0_ := Aside0.mk (blk_grown (g := gb53001) (o := .cells #[.int .i64 x53002000_1, .int .i64 x53002001_1, .bool x53002002_1] 32 (0, 0)) (BK53001.out) hg (Kd.R_away HO_5.out (fun _ hk => hk.1))); have n1_ := Aside0.mk (blk_grown (g := gb53015) (o := .cells #[.int .i64 ((rd_T32 x5_1 (ji16)).f0), .int .i64 ((rd_T32 x5_1 (ji16)).f1), .bool ((rd_T32 x5_1 (ji16)).f2)] 32 (0, 0)) (BK53015.out) hg (Kd.R_away HO_5.out (fun _ hk => hk.2))); have n2_ := Aside0.mk (hb); have n3_ := Aside0.mk (ho); clear BK53001; clear BK53015; clear HB; clear HO_5; have BK53001 := n0_; have BK53015 := n1_; have HB := n2_; have HO53022 := n3_; clear n0_ n1_ n2_ n3_; clear ho hb hg hat))
            go_ret
            exact ⟨_, by first | rfl | (simp [errW_none, errW_some] <;> rfl) | (simp only [← hji16]; first | rfl | (simp [errW_none, errW_some] <;> rfl)) | (simp [*, errW_none, errW_some] <;> rfl), by exact Kd.R_mono HO53022.out (fun _ hk => trivial), by repeat (first | exact HB.out | apply below_alloc | apply pw_below_drewN | apply below_drew1 | refine below_set ?_ GE53001.out | refine below_set ?_ GE53015.out)⟩
           ·rw [if_neg c43] at H
            exact absurd H (by simp)
          ·replace c41 := Bool.eq_false_iff.mpr c41
           subst c41
           have H1 : (if x53002001_1 > 1 then (papermillref13_more.j2 kj19 x5_1 ji16 (wrap64 (x53002000_1 - t53016)) x53002001_1 (x53002002_1 != ((wrap64 (x53002000_1 - t53016)) == (-1))) x53002000_1 x53002001_1 x53002002_1 ((rd_T32 x5_1 (ji16)).f0) ((rd_T32 x5_1 (ji16)).f1) ((rd_T32 x5_1 (ji16)).f2)) else (papermillref13_more.j2 kj19 x5_1 ji16 (wrap64 (x53002000_1 - t53016)) x53002001_1 false x53002000_1 x53002001_1 x53002002_1 ((rd_T32 x5_1 (ji16)).f0) ((rd_T32 x5_1 (ji16)).f1) ((rd_T32 x5_1 (ji16)).f2))) = some r := by rw [if_neg (show ¬ (false = true) by decide)] at H; first | exact H | simpa using H
           clear H
           have H := H1
           clear H1
           have HC48 := Aside0.mk H
           clear H
           have hnb49 := NB53001_53015.out
           have hnc49 := NB53015_53001.out
           have hcz50_0 : wc.cell? ⟨gb53001, 0, none⟩ = some (.int .i64 x53002000_1) := (blk_cell BK53001.out 0).trans rfl
           have hcz50_1 : wc.cell? ⟨gb53001, 1, none⟩ = some (.int .i64 x53002001_1) := (blk_cell BK53001.out 1).trans rfl
           have hcz50_2 : wc.cell? ⟨gb53001, 2, none⟩ = some (.bool x53002002_1) := (blk_cell BK53001.out 2).trans rfl
           have hfz50_0 := blk_frozen BK53001.out 0
           have hfz50_1 := blk_frozen BK53001.out 1
           have hfz50_2 := blk_frozen BK53001.out 2
           go_upto_region 11 with (fail)
           go_cut [75] (fun v75 wc => ∃ (kq : Nat) (x75_47 : Bool), v75 = .bool x75_47 ∧ Aside0 (papermillref13_more.j2 kq x5_1 ji16 (wrap64 (x53002000_1 - t53016)) x53002001_1 x75_47 x53002000_1 x53002001_1 x53002002_1 ((rd_T32 x5_1 (ji16)).f0) ((rd_T32 x5_1 (ji16)).f1) ((rd_T32 x5_1 (ji16)).f2) = some r) ∧ Aside0 (kq ≤ kj19) ∧ Aside0 (Kd.R k32 32 wc w.heap.size (fun k_ => k_ ≠ gb53001 ∧ k_ ≠ gb53015) (.slice (some ad53014) x5_1.length co22) x5_1) ∧ Aside0 (wc.heap[gb53001]? = some (.cells #[.int .i64 x53002000_1, .int .i64 x53002001_1, .bool x53002002_1] 32 (0, 0))) ∧ Aside0 (wc.heap[gb53015]? = some (.cells #[.int .i64 ((rd_T32 x5_1 (ji16)).f0), .int .i64 ((rd_T32 x5_1 (ji16)).f1), .bool ((rd_T32 x5_1 (ji16)).f2)] 32 (0, 0))) ∧ Aside0 (Below w.heap.size w wc))
           case first =>
            have H := HC48.out
            clear HC48
            by_cases c51 : x53002001_1 > 1
            ·rw [if_pos c51] at H
             have c51b0 : decide (1 < x53002001_1) = true := decide_eq_true c51
             clear c51
             (first | rw [c51b0] | (simp only [i64_w, i32_w]; rw [c51b0]) | skip)
             have H' := Aside0.mk H
             clear H
             have hnb52 := NB53001_53015.out
             have hnc52 := NB53015_53001.out
             have hcz53_0 : wc.cell? ⟨gb53001, 0, none⟩ = some (.int .i64 x53002000_1) := (blk_cell BK53001.out 0).trans rfl
             have hcz53_1 : wc.cell? ⟨gb53001, 1, none⟩ = some (.int .i64 x53002001_1) := (blk_cell BK53001.out 1).trans rfl
             have hcz53_2 : wc.cell? ⟨gb53001, 2, none⟩ = some (.bool x53002002_1) := (blk_cell BK53001.out 2).trans rfl
             have hfz53_0 := blk_frozen BK53001.out 0
             have hfz53_1 := blk_frozen BK53001.out 1
             have hfz53_2 := blk_frozen BK53001.out 2
             go_wp2
             go_meet
             case rel => exact ⟨_, ((x53002002_1 != ((wrap64 (x53002000_1 - t53016)) == (-1)))), (by first | rfl | (simp; done) | (simp [*]; done)), H', ⟨by have := HK1.out; have := HJ19.out; first | omega | exact Nat.le_refl _⟩, ⟨HO_5.out⟩, ⟨BK53001.out⟩, ⟨BK53015.out⟩, ⟨by repeat (first | exact HB.out | apply below_alloc | apply pw_below_drewN | apply below_drew1 | refine below_set ?_ GE53001.out | refine below_set ?_ GE53015.out)⟩⟩
            ·rw [if_neg c51] at H
             have c51b0 : decide (1 < x53002001_1) = false := decide_eq_false c51
             clear c51
             (first | rw [c51b0] | (simp only [i64_w, i32_w]; rw [c51b0]) | skip)
             have H' := Aside0.mk H
             clear H
             go_wp2
             go_meet
             case rel => exact ⟨_, (false), (by first | rfl | (simp; done) | (simp [*]; done)), H', ⟨by have := HK1.out; have := HJ19.out; first | omega | exact Nat.le_refl _⟩, ⟨HO_5.out⟩, ⟨BK53001.out⟩, ⟨BK53015.out⟩, ⟨by repeat (first | exact HB.out | apply below_alloc | apply pw_below_drewN | apply below_drew1 | refine below_set ?_ GE53001.out | refine below_set ?_ GE53015.out)⟩⟩
           case rest =>
            clear HC48
            try clear c1
            try clear c2
            try clear p2
            try clear c3
            try clear c4
            try clear c5
            try clear p5
            try clear q5
            try clear hx5
            try clear c6
            try clear p6
            try clear c8
            try clear c8b0
            try clear c9
            try clear c9b0
            try clear c11
            try clear c17
            try clear c17b0
            try clear c18
            try clear c18b0
            try clear c24
            try clear c29
            try clear c29b0
            try clear c29b1
            try clear c30
            try clear c30b0
            try clear c31
            try clear c33
            try clear c35
            try clear c35b0
            try clear c35b1
            try clear c36
            try clear c36b0
            try clear c37
            try clear c39
            try clear c41
            try clear c43
            try clear c44
            try clear c49
            try clear c51
            try clear c51b0
            try clear c52
            try clear c53
            try clear p53
            try clear q53
            try clear hx53
            try clear hcz12_0
            try clear hcz12_1
            try clear hcz12_2
            try clear hcz21_0
            try clear hcz21_1
            try clear hcz21_2
            try clear hcz25_0
            try clear hcz25_1
            try clear hcz25_2
            try clear hcz32_0
            try clear hcz32_1
            try clear hcz32_2
            try clear hcz34_0
            try clear hcz34_1
            try clear hcz34_2
            try clear hcz38_0
            try clear hcz38_1
            try clear hcz38_2
            try clear hcz40_0
            try clear hcz40_1
            try clear hcz40_2
            try clear hcz45_0
            try clear hcz45_1
            try clear hcz45_2
            try clear hcz50_0
            try clear hcz50_1
            try clear hcz50_2
            try clear hcz53_0
            try clear hcz53_1
            try clear hcz53_2
            try clear hfz12_0
            try clear hfz12_1
            try clear hfz12_2
            try clear hfz21_0
            try clear hfz21_1
            try clear hfz21_2
            try clear hfz25_0
            try clear hfz25_1
            try clear hfz25_2
            try clear hfz32_0
            try clear hfz32_1
            try clear hfz32_2
            try clear hfz34_0
            try clear hfz34_1
            try clear hfz34_2
            try clear hfz38_0
            try clear hfz38_1
            try clear hfz38_2
            try clear hfz40_0
            try clear hfz40_1
            try clear hfz40_2
            try clear hfz45_0
            try clear hfz45_1
            try clear hfz45_2
            try clear hfz50_0
            try clear hfz50_1
            try clear hfz50_2
            try clear hfz53_0
            try clear hfz53_1
            try clear hfz53_2
            try clear hx53014_0
            try clear hx53014_1
            try clear hx53014_2
            try clear p2
            try clear p5
            try clear p53014
            try clear p6
            try clear q5
            try clear q53014
            obtain ⟨kq, x75_47, rfl, HA, HJ47, HO_5, BK53001, BK53015, HB⟩ := hcut
            cases kq with
            | zero => exact absurd HA.out (by simp [papermillref13_more.j2])
            | succ kj47 =>
             have H := HA.out
             clear HA
             simp only [papermillref13_more.j2] at H
             by_cases c54 : x75_47 = true
             ·subst c54
              have H1 : (if 0 ≤ ji16 then (if ji16 < (x5_1.length : Int) then ((some (x5_1.set (ji16 : Int).toNat (⟨((rd_T32 x5_1 (ji16)).f0), wrap64 (((rd_T32 x5_1 (ji16)).f1) + 1), ((wrap64 (x53002000_1 - t53016)) == (-1))⟩ : S32) : List (S32))).bind fun y53023 => (if 1 = x53002001_1 then (some y53023) else ((papermillref13_cut.f x53002000_1 x53002001_1 x53002002_1 1 (wrap64 (x53002001_1 - 1))).bind fun bt53024 => (papermillref13_more.l0 kj47 y53023 bt53024.1 bt53024.2.1 bt53024.2.2)))) else (none)) else (none)) = some r := by rw [if_pos rfl] at H; exact H
              clear H
              have H := H1
              clear H1
              by_cases c55 : 0 ≤ ji16
              ·rw [if_pos c55] at H
               have c55b0 : decide (0 ≤ ji16) = true := decide_eq_true c55
               clear c55
               by_cases c56 : ji16 < (x5_1.length : Int)
               ·rw [if_pos c56] at H
                have c56b0 : decide (ji16 < (x5_1.length : Int)) = true := decide_eq_true c56
                clear c56
                obtain ⟨y53023, hy53023⟩ : ∃ y_ : List (S32), y_ = (x5_1.set (ji16 : Int).toNat (⟨((rd_T32 x5_1 (ji16)).f0), wrap64 (((rd_T32 x5_1 (ji16)).f1) + 1), ((wrap64 (x53002000_1 - t53016)) == (-1))⟩ : S32)) := ⟨_, rfl⟩
                replace H : (if 1 = x53002001_1 then (some y53023) else ((papermillref13_cut.f x53002000_1 x53002001_1 x53002002_1 1 (wrap64 (x53002001_1 - 1))).bind fun bt53024 => (papermillref13_more.l0 kj47 y53023 bt53024.1 bt53024.2.1 bt53024.2.2))) = some r := by first | (rw [hy53023]; with_reducible exact H) | (have H2_ := (Option.bind_some _ _).symm.trans H; rw [hy53023]; with_reducible exact H2_) | (have H2_ := (Option.bind_some _ _).symm.trans H; with_reducible exact H2_) | with_reducible exact H | (rw [hy53023]; exact H) | exact H
                have Ny53023 := Aside0.mk hy53023
                clear hy53023
                by_cases c58 : 1 = x53002001_1
                ·rw [if_pos c58] at H
                 have c58b0 : (1 == x53002001_1) = true := beq_iff_eq.mpr c58
                 have c58b1 : (1 != x53002001_1) = false := bne_eq_false_iff_eq.mpr c58
                 clear c58
                 obtain rfl := Option.some.inj H
                 have hnb59 := NB53015_53001.out
                 have hnc59 := NB53001_53015.out
                 have hcz60_0 : wc.cell? ⟨gb53015, 0, none⟩ = some (.int .i64 ((rd_T32 x5_1 (ji16)).f0)) := (blk_cell BK53015.out 0).trans rfl
                 have hcz60_1 : wc.cell? ⟨gb53015, 1, none⟩ = some (.int .i64 ((rd_T32 x5_1 (ji16)).f1)) := (blk_cell BK53015.out 1).trans rfl
                 have hcz60_2 : wc.cell? ⟨gb53015, 2, none⟩ = some (.bool ((rd_T32 x5_1 (ji16)).f2)) := (blk_cell BK53015.out 2).trans rfl
                 have hfz60_0 := blk_frozen BK53015.out 0
                 have hfz60_1 := blk_frozen BK53015.out 1
                 have hfz60_2 := blk_frozen BK53015.out 2
                 have p57 : 0 ≤ (ji16 : Int) := of_decide_eq_true (by assumption)
                 have q57 : (ji16 : Int) < ((x5_1.length : Int) : Int) := of_decide_eq_true (by assumption)
                 obtain ⟨go57, co57, eo57, gb57, gl57, cl57, HG57⟩ := Kd.R_form HO_5.out (by omega)
                 (first | cases eo57 | (injection eo57 with ea_ en_ ec_; (first | subst ea_ | (injection ea_ with ea_; subst ea_)); subst ec_; clear en_))
                 have GB57 := Aside0.mk gb57
                 have GG57 := Aside0.mk HG57
                 clear gb57 gl57 HG57
                 (first | simp only [add_plain] at hx53014_0 | skip)
                 (first | simp only [add_plain] at hx53014_1 | skip)
                 (first | simp only [add_plain] at hx53014_2 | skip)
                 obtain ⟨ce57, hcl57, hM57, hcc57, hfr57⟩ := Kd.R_elem HO_5.out z32 (ji16 : Int) p57 q57
                 obtain rfl := k32_openM hM57
                 have hx57_0 : wc.cell? ⟨go57, (ji16 : Int).toNat * 3, none⟩ = some (.int .i64 ((rd_T32 x5_1 ji16).f0)) := hcc57 0 _ rfl
                 have hx57_1 : wc.cell? ⟨go57, (ji16 : Int).toNat * 3 + 1, none⟩ = some (.int .i64 ((rd_T32 x5_1 ji16).f1)) := hcc57 1 _ rfl
                 have hx57_2 : wc.cell? ⟨go57, (ji16 : Int).toNat * 3 + 2, none⟩ = some (.bool ((rd_T32 x5_1 ji16).f2)) := hcc57 2 _ rfl
                 have hf57_0 : wc.frozen? ⟨go57, (ji16 : Int).toNat * 3, none⟩ = false := hfr57 0
                 have hf57_1 : wc.frozen? ⟨go57, (ji16 : Int).toNat * 3 + 1, none⟩ = false := hfr57 1
                 have hf57_2 : wc.frozen? ⟨go57, (ji16 : Int).toNat * 3 + 2, none⟩ = false := hfr57 2
                 clear hcl57 hcc57 hfr57 hM57
                 replace p57 := eq_true p57
                 replace q57 := eq_true q57
                 have HX61 := Aside0.mk (show Kd.R k32 32 wc w.heap.size (fun k_ => k_ ≠ gb53001 ∧ k_ ≠ gb53015) (.slice (some ⟨go57, 0, none⟩) x5_1.length co22) x5_1 from (HO_5.out))
                 obtain ⟨ce61, hcl61, hM61, hcc61, hfr61⟩ := Kd.R_elem HX61.out z32 (ji16 : Int) (of_decide_eq_true (by assumption)) (by have h_ : (ji16 : Int) < ((x5_1.length : Int) : Int) := of_decide_eq_true (by assumption); first | exact h_ | (have e_ := (Kd.R_reads' HO_5.out).1; omega) | simpa using h_)
                 obtain rfl := k32_openM hM61
                 have HP61 := Kd.R_seg HX61.out (ji16 : Int) (of_decide_eq_true (by assumption)) (by have h_ : (ji16 : Int) < ((x5_1.length : Int) : Int) := of_decide_eq_true (by assumption); first | exact h_ | (have e_ := (Kd.R_reads' HO_5.out).1; omega) | simpa using h_) (seg := [.int .i64 ((rd_T32 x5_1 (ji16)).f0), .int .i64 (wrap64 (((rd_T32 x5_1 (ji16)).f1) + 1)), .bool ((wrap64 (x53002000_1 - t53016)) == (-1))]) (j := 0) hcl61 hcc61 (show 3 ≤ 3 from by decide) (x' := (⟨((rd_T32 x5_1 (ji16)).f0), wrap64 (((rd_T32 x5_1 (ji16)).f1) + 1), ((wrap64 (x53002000_1 - t53016)) == (-1))⟩ : S32)) (k32_mkM _ _ _ (⟨((rd_T32 x5_1 (ji16)).f0), wrap64 (((rd_T32 x5_1 (ji16)).f1) + 1), ((wrap64 (x53002000_1 - t53016)) == (-1))⟩ : S32) ) (fun _ hk => hk)
                 have hx61_0 := hcc61 0 _ rfl
                 (try simp only [show (k32).sz = 3 from rfl, Nat.mul_one, Nat.add_zero] at hx61_0)
                 have hf61_0 := hfr61 0
                 (try simp only [show (k32).sz = 3 from rfl, Nat.mul_one, Nat.add_zero] at hf61_0)
                 have hx61_1 := hcc61 1 _ rfl
                 (try simp only [show (k32).sz = 3 from rfl, Nat.mul_one, Nat.add_zero] at hx61_1)
                 have hf61_1 := hfr61 1
                 (try simp only [show (k32).sz = 3 from rfl, Nat.mul_one, Nat.add_zero] at hf61_1)
                 have hx61_2 := hcc61 2 _ rfl
                 (try simp only [show (k32).sz = 3 from rfl, Nat.mul_one, Nat.add_zero] at hx61_2)
                 have hf61_2 := hfr61 2
                 (try simp only [show (k32).sz = 3 from rfl, Nat.mul_one, Nat.add_zero] at hf61_2)
                 clear hcl61 hcc61 hfr61 hM61
                 go_wp2_with (first | ((with_reducible refine gate_store (t := 32) (p := 87) rfl ?_); refine store_event (t := 32) (p := 87) (v := ?vo_w62) (w1 := (((wc.setCell ⟨go57, (ji16 : Int).toNat * 3, none⟩ (.int .i64 ((rd_T32 x5_1 (ji16)).f0))).setCell ⟨go57, (ji16 : Int).toNat * 3 + 1, none⟩ (.int .i64 (wrap64 (((rd_T32 x5_1 (ji16)).f1) + 1)))).setCell ⟨go57, (ji16 : Int).toNat * 3 + 2, none⟩ (.bool ((wrap64 (x53002000_1 - t53016)) == (-1))))) ?hg ?ho ?hn ?hr ?_; (case ho => rfl); (case hg => rfl); (case hn => rfl); (case hr => first | (go_simp; done) | (go_simp; rfl)); intro w62 hw; have hg : wc.grownBy w62 (some go57) := (by rw [hw]; exact HP61.2); have hp_ : Kd.R k32 32 w62 w.heap.size (fun k_ => k_ ≠ gb53001 ∧ k_ ≠ gb53015) (.slice (some ⟨go57, 0, none⟩) x5_1.length co22) y53023 := (by rw [hw, Ny53023.out]; exact HP61.1); clear HP61; have n0_ := Aside0.mk (hp_); have n1_ := Aside0.mk (blk_grown (g := gb53001) (o := .cells #[.int .i64 x53002000_1, .int .i64 x53002001_1, .bool x53002002_1] 32 (0, 0)) (BK53001.out) hg (Kd.R_away HO_5.out (fun _ hk => hk.1))); have n2_ := Aside0.mk (blk_grown (g := gb53015) (o := .cells #[.int .i64 ((rd_T32 x5_1 (ji16)).f0), .int .i64 ((rd_T32 x5_1 (ji16)).f1), .bool ((rd_T32 x5_1 (ji16)).f2)] 32 (0, 0)) (BK53015.out) hg (Kd.R_away HO_5.out (fun _ hk => hk.2))); have n3_ := Aside0.mk ((by rw [hw]; exact below_set (below_set (below_set (HB.out) GB57.out) GB57.out) GB57.out : Below w.heap.size w w62)); clear HO_5; clear BK53001; clear BK53015; clear HB; have HO_5 := n0_; have BK53001 := n1_; have BK53015 := n2_; have HB := n3_; clear n0_ n1_ n2_ n3_; clear hg hw hp_; have hcz63_0 : w62.cell? ⟨gb53001, 0, none⟩ = some (.int .i64 x53002000_1) := (blk_cell BK53001.out 0).trans rfl; have hcz63_1 : w62.cell? ⟨gb53001, 1, none⟩ = some (.int .i64 x53002001_1) := (blk_cell BK53001.out 1).trans rfl; have hcz63_2 : w62.cell? ⟨gb53001, 2, none⟩ = some (.bool x53002002_1) := (blk_cell BK53001.out 2).trans rfl; have hfz63_0 := blk_frozen BK53001.out 0; have hfz63_1 := blk_frozen BK53001.out 1; have hfz63_2 := blk_frozen BK53001.out 2))
                 go_ret
                 exact ⟨_, by first | rfl | (simp [errW_none, errW_some] <;> rfl) | (simp only [← hji16]; first | rfl | (simp [errW_none, errW_some] <;> rfl)) | (simp [*, errW_none, errW_some] <;> rfl), by exact Kd.R_mono HO_5.out (fun _ hk => trivial), by repeat (first | exact HB.out | apply below_alloc | apply pw_below_drewN | apply below_drew1 | refine below_set ?_ GE53001.out | refine below_set ?_ GE53015.out)⟩
                ·rw [if_neg c58] at H
                 have c58b0 : (1 == x53002001_1) = false := beq_eq_false_iff_ne.mpr c58
                 have c58b1 : (1 != x53002001_1) = true := bne_iff_ne.mpr c58
                 replace H := Option.bind_eq_some_iff.mp H
                 obtain ⟨⟨t53024, t53025, t53026⟩, A640, H⟩ := H
                 replace H : (papermillref13_more.l0 kj47 y53023 t53024 t53025 t53026) = some r := H
                 have A64 := Aside0.mk A640
                 clear A640
                 have H' := Aside0.mk H
                 clear H
                 have hnb65 := NB53015_53001.out
                 have hnc65 := NB53001_53015.out
                 have hcz66_0 : wc.cell? ⟨gb53015, 0, none⟩ = some (.int .i64 ((rd_T32 x5_1 (ji16)).f0)) := (blk_cell BK53015.out 0).trans rfl
                 have hcz66_1 : wc.cell? ⟨gb53015, 1, none⟩ = some (.int .i64 ((rd_T32 x5_1 (ji16)).f1)) := (blk_cell BK53015.out 1).trans rfl
                 have hcz66_2 : wc.cell? ⟨gb53015, 2, none⟩ = some (.bool ((rd_T32 x5_1 (ji16)).f2)) := (blk_cell BK53015.out 2).trans rfl
                 have hfz66_0 := blk_frozen BK53015.out 0
                 have hfz66_1 := blk_frozen BK53015.out 1
                 have hfz66_2 := blk_frozen BK53015.out 2
                 have p57 : 0 ≤ (ji16 : Int) := of_decide_eq_true (by assumption)
                 have q57 : (ji16 : Int) < ((x5_1.length : Int) : Int) := of_decide_eq_true (by assumption)
                 obtain ⟨go57, co57, eo57, gb57, gl57, cl57, HG57⟩ := Kd.R_form HO_5.out (by omega)
                 (first | cases eo57 | (injection eo57 with ea_ en_ ec_; (first | subst ea_ | (injection ea_ with ea_; subst ea_)); subst ec_; clear en_))
                 have GB57 := Aside0.mk gb57
                 have GG57 := Aside0.mk HG57
                 clear gb57 gl57 HG57
                 obtain ⟨ce57, hcl57, hM57, hcc57, hfr57⟩ := Kd.R_elem HO_5.out z32 (ji16 : Int) p57 q57
                 obtain rfl := k32_openM hM57
                 have hx57_0 : wc.cell? ⟨go57, (ji16 : Int).toNat * 3, none⟩ = some (.int .i64 ((rd_T32 x5_1 ji16).f0)) := hcc57 0 _ rfl
                 have hx57_1 : wc.cell? ⟨go57, (ji16 : Int).toNat * 3 + 1, none⟩ = some (.int .i64 ((rd_T32 x5_1 ji16).f1)) := hcc57 1 _ rfl
                 have hx57_2 : wc.cell? ⟨go57, (ji16 : Int).toNat * 3 + 2, none⟩ = some (.bool ((rd_T32 x5_1 ji16).f2)) := hcc57 2 _ rfl
                 have hf57_0 : wc.frozen? ⟨go57, (ji16 : Int).toNat * 3, none⟩ = false := hfr57 0
                 have hf57_1 : wc.frozen? ⟨go57, (ji16 : Int).toNat * 3 + 1, none⟩ = false := hfr57 1
                 have hf57_2 : wc.frozen? ⟨go57, (ji16 : Int).toNat * 3 + 2, none⟩ = false := hfr57 2
                 clear hcl57 hcc57 hfr57 hM57
                 replace p57 := eq_true p57
                 replace q57 := eq_true q57
                 have HX67 := Aside0.mk (show Kd.R k32 32 wc w.heap.size (fun k_ => k_ ≠ gb53001 ∧ k_ ≠ gb53015) (.slice (some ⟨go57, 0, none⟩) x5_1.length co22) x5_1 from (HO_5.out))
                 obtain ⟨ce67, hcl67, hM67, hcc67, hfr67⟩ := Kd.R_elem HX67.out z32 (ji16 : Int) (of_decide_eq_true (by assumption)) (by have h_ : (ji16 : Int) < ((x5_1.length : Int) : Int) := of_decide_eq_true (by assumption); first | exact h_ | (have e_ := (Kd.R_reads' HO_5.out).1; omega) | simpa using h_)
                 obtain rfl := k32_openM hM67
                 have HP67 := Kd.R_seg HX67.out (ji16 : Int) (of_decide_eq_true (by assumption)) (by have h_ : (ji16 : Int) < ((x5_1.length : Int) : Int) := of_decide_eq_true (by assumption); first | exact h_ | (have e_ := (Kd.R_reads' HO_5.out).1; omega) | simpa using h_) (seg := [.int .i64 ((rd_T32 x5_1 (ji16)).f0), .int .i64 (wrap64 (((rd_T32 x5_1 (ji16)).f1) + 1)), .bool ((wrap64 (x53002000_1 - t53016)) == (-1))]) (j := 0) hcl67 hcc67 (show 3 ≤ 3 from by decide) (x' := (⟨((rd_T32 x5_1 (ji16)).f0), wrap64 (((rd_T32 x5_1 (ji16)).f1) + 1), ((wrap64 (x53002000_1 - t53016)) == (-1))⟩ : S32)) (k32_mkM _ _ _ (⟨((rd_T32 x5_1 (ji16)).f0), wrap64 (((rd_T32 x5_1 (ji16)).f1) + 1), ((wrap64 (x53002000_1 - t53016)) == (-1))⟩ : S32) ) (fun _ hk => hk)
                 have hx67_0 := hcc67 0 _ rfl
                 (try simp only [show (k32).sz = 3 from rfl, Nat.mul_one, Nat.add_zero] at hx67_0)
                 have hf67_0 := hfr67 0
                 (try simp only [show (k32).sz = 3 from rfl, Nat.mul_one, Nat.add_zero] at hf67_0)
                 have hx67_1 := hcc67 1 _ rfl
                 (try simp only [show (k32).sz = 3 from rfl, Nat.mul_one, Nat.add_zero] at hx67_1)
                 have hf67_1 := hfr67 1
                 (try simp only [show (k32).sz = 3 from rfl, Nat.mul_one, Nat.add_zero] at hf67_1)
                 have hx67_2 := hcc67 2 _ rfl
                 (try simp only [show (k32).sz = 3 from rfl, Nat.mul_one, Nat.add_zero] at hx67_2)
                 have hf67_2 := hfr67 2
                 (try simp only [show (k32).sz = 3 from rfl, Nat.mul_one, Nat.add_zero] at hf67_2)
                 clear hcl67 hcc67 hfr67 hM67
                 go_wp2_with (first | ((with_reducible refine gate_store (t := 32) (p := 87) rfl ?_); refine store_event (t := 32) (p := 87) (v := ?vo_w68) (w1 := (((wc.setCell ⟨go57, (ji16 : Int).toNat * 3, none⟩ (.int .i64 ((rd_T32 x5_1 (ji16)).f0))).setCell ⟨go57, (ji16 : Int).toNat * 3 + 1, none⟩ (.int .i64 (wrap64 (((rd_T32 x5_1 (ji16)).f1) + 1)))).setCell ⟨go57, (ji16 : Int).toNat * 3 + 2, none⟩ (.bool ((wrap64 (x53002000_1 - t53016)) == (-1))))) ?hg ?ho ?hn ?hr ?_; (case ho => rfl); (case hg => rfl); (case hn => rfl); (case hr => first | (go_simp; done) | (go_simp; rfl)); intro w68 hw; have hg : wc.grownBy w68 (some go57) := (by rw [hw]; exact HP67.2); have hp_ : Kd.R k32 32 w68 w.heap.size (fun k_ => k_ ≠ gb53001 ∧ k_ ≠ gb53015) (.slice (some ⟨go57, 0, none⟩) x5_1.length co22) y53023 := (by rw [hw, Ny53023.out]; exact HP67.1); clear HP67; have n0_ := Aside0.mk (hp_); have n1_ := Aside0.mk (blk_grown (g := gb53001) (o := .cells #[.int .i64 x53002000_1, .int .i64 x53002001_1, .bool x53002002_1] 32 (0, 0)) (BK53001.out) hg (Kd.R_away HO_5.out (fun _ hk => hk.1))); have n2_ := Aside0.mk (blk_grown (g := gb53015) (o := .cells #[.int .i64 ((rd_T32 x5_1 (ji16)).f0), .int .i64 ((rd_T32 x5_1 (ji16)).f1), .bool ((rd_T32 x5_1 (ji16)).f2)] 32 (0, 0)) (BK53015.out) hg (Kd.R_away HO_5.out (fun _ hk => hk.2))); have n3_ := Aside0.mk ((by rw [hw]; exact below_set (below_set (below_set (HB.out) GB57.out) GB57.out) GB57.out : Below w.heap.size w w68)); clear HO_5; clear BK53001; clear BK53015; clear HB; have HO_5 := n0_; have BK53001 := n1_; have BK53015 := n2_; have HB := n3_; clear n0_ n1_ n2_ n3_; clear hg hw hp_; have hcz69_0 : w68.cell? ⟨gb53001, 0, none⟩ = some (.int .i64 x53002000_1) := (blk_cell BK53001.out 0).trans rfl; have hcz69_1 : w68.cell? ⟨gb53001, 1, none⟩ = some (.int .i64 x53002001_1) := (blk_cell BK53001.out 1).trans rfl; have hcz69_2 : w68.cell? ⟨gb53001, 2, none⟩ = some (.bool x53002002_1) := (blk_cell BK53001.out 2).trans rfl; have hfz69_0 := blk_frozen BK53001.out 0; have hfz69_1 := blk_frozen BK53001.out 1; have hfz69_2 := blk_frozen BK53001.out 2) | ((with_reducible refine gate_callee (f := 64) rfl ?_); refine goesL_ (some 99) rfl rfl Try.func64 (by kernel_rfl) rfl #[.agg #[.int .i64 x53002000_1, .int .i64 x53002001_1, .bool x53002002_1], .int .i64 1, .int .i64 (wrap64 (x53002001_1 - 1))] rfl (by (try simp only [List.map_toArray, List.map_cons, List.map_nil]); first | done | rfl | (simp only [List.length_drop, List.length_take]; rfl)) ?_; (with_reducible refine (papermillref13_cut.calls x53002000_1 x53002001_1 x53002002_1 1 (wrap64 (x53002001_1 - 1)) t53024 t53025 t53026 _ A64.out).mono ?_); rintro e w70 ⟨rfl, hb⟩; refine ⟨_, rfl, ?_⟩; have n0_ := Aside0.mk (Kd.R_below (HO_5.out) hb); have n1_ := Aside0.mk (blk_below (g := gb53001) (o := .cells #[.int .i64 x53002000_1, .int .i64 x53002001_1, .bool x53002002_1] 32 (0, 0)) (BK53001.out) hb); have n2_ := Aside0.mk (blk_below (g := gb53015) (o := .cells #[.int .i64 ((rd_T32 x5_1 (ji16)).f0), .int .i64 ((rd_T32 x5_1 (ji16)).f1), .bool ((rd_T32 x5_1 (ji16)).f2)] 32 (0, 0)) (BK53015.out) hb); have n3_ := Aside0.mk (below_step (by repeat (first | exact HB.out | apply below_alloc | apply pw_below_drewN | apply below_drew1 | refine below_set ?_ GE53001.out | refine below_set ?_ GE53015.out)) hb); clear HO_5; clear BK53001; clear BK53015; clear HB; have HO_5 := n0_; have BK53001 := n1_; have BK53015 := n2_; have HB := n3_; clear n0_ n1_ n2_ n3_; (try clear hb); (try clear hb2); (try clear hk); (try clear hi); have hcz71_0 : w70.cell? ⟨gb53001, 0, none⟩ = some (.int .i64 x53002000_1) := (blk_cell BK53001.out 0).trans rfl; have hcz71_1 : w70.cell? ⟨gb53001, 1, none⟩ = some (.int .i64 x53002001_1) := (blk_cell BK53001.out 1).trans rfl; have hcz71_2 : w70.cell? ⟨gb53001, 2, none⟩ = some (.bool x53002002_1) := (blk_cell BK53001.out 2).trans rfl; have hfz71_0 := blk_frozen BK53001.out 0; have hfz71_1 := blk_frozen BK53001.out 1; have hfz71_2 := blk_frozen BK53001.out 2))
                 go_roundg kj47
                 case measure => have := HK1.out; have := HJ19.out; have := HJ47.out; omega
                 case rel => exact ⟨(y53023), (t53024), (t53025), (t53026), H', ⟨by have := HK1.out; have := HJ19.out; have := HJ47.out; omega⟩, ⟨by exact Kd.R_mono (Kd.R_far (p := ⟨gb53001, 2, none⟩) (Kd.R_far (p := ⟨gb53001, 1, none⟩) (Kd.R_far (p := ⟨gb53001, 0, none⟩) (Kd.R_mono HO_5.out (fun k_ hk => (⟨hk, hk.1⟩ : _ ∧ k_ ≠ gb53001))) (fun _ hk => hk.2) (.int .i64 t53024)) (fun _ hk => hk.2) (.int .i64 t53025)) (fun _ hk => hk.2) (.bool t53026)) (fun _ hk => hk.1.1)⟩, ⟨by refine blk_put (cs := #[.int .i64 t53024, .int .i64 t53025, .bool x53002002_1]) ?_ 2 _ rfl; refine blk_put (cs := #[.int .i64 t53024, .int .i64 x53002001_1, .bool x53002002_1]) ?_ 1 _ rfl; refine blk_put (cs := #[.int .i64 x53002000_1, .int .i64 x53002001_1, .bool x53002002_1]) ?_ 0 _ rfl; exact BK53001.out⟩, ⟨by repeat (first | exact HB.out | apply below_alloc | apply pw_below_drewN | apply below_drew1 | refine below_set ?_ GE53001.out | refine below_set ?_ GE53015.out)⟩⟩
               ·rw [if_neg c56] at H
                exact absurd H (by simp)
              ·rw [if_neg c55] at H
               exact absurd H (by simp)
             ·replace c54 := Bool.eq_false_iff.mpr c54
              subst c54
              have H1 : (if 0 ≤ ji16 then (if ji16 < (x5_1.length : Int) then ((some (x5_1.set (ji16 : Int).toNat (⟨((rd_T32 x5_1 (ji16)).f0), wrap64 (((rd_T32 x5_1 (ji16)).f1) + x53002001_1), ((wrap64 (x53002000_1 - t53016)) == (-1))⟩ : S32) : List (S32))).bind fun y53027 => (if x53002001_1 = x53002001_1 then (some y53027) else ((papermillref13_cut.f x53002000_1 x53002001_1 x53002002_1 x53002001_1 (wrap64 (x53002001_1 - x53002001_1))).bind fun bt53028 => (papermillref13_more.l0 kj47 y53027 bt53028.1 bt53028.2.1 bt53028.2.2)))) else (none)) else (none)) = some r := by rw [if_neg (show ¬ (false = true) by decide)] at H; first | exact H | simpa using H
              clear H
              have H := H1
              clear H1
              by_cases c72 : 0 ≤ ji16
              ·rw [if_pos c72] at H
               have c72b0 : decide (0 ≤ ji16) = true := decide_eq_true c72
               clear c72
               by_cases c73 : ji16 < (x5_1.length : Int)
               ·rw [if_pos c73] at H
                have c73b0 : decide (ji16 < (x5_1.length : Int)) = true := decide_eq_true c73
                clear c73
                obtain ⟨y53027, hy53027⟩ : ∃ y_ : List (S32), y_ = (x5_1.set (ji16 : Int).toNat (⟨((rd_T32 x5_1 (ji16)).f0), wrap64 (((rd_T32 x5_1 (ji16)).f1) + x53002001_1), ((wrap64 (x53002000_1 - t53016)) == (-1))⟩ : S32)) := ⟨_, rfl⟩
                replace H : (if x53002001_1 = x53002001_1 then (some y53027) else ((papermillref13_cut.f x53002000_1 x53002001_1 x53002002_1 x53002001_1 (wrap64 (x53002001_1 - x53002001_1))).bind fun bt53028 => (papermillref13_more.l0 kj47 y53027 bt53028.1 bt53028.2.1 bt53028.2.2))) = some r := by first | (rw [hy53027]; with_reducible exact H) | (have H2_ := (Option.bind_some _ _).symm.trans H; rw [hy53027]; with_reducible exact H2_) | (have H2_ := (Option.bind_some _ _).symm.trans H; with_reducible exact H2_) | with_reducible exact H | (rw [hy53027]; exact H) | exact H
                have Ny53027 := Aside0.mk hy53027
                clear hy53027
                by_cases c75 : x53002001_1 = x53002001_1
                ·rw [if_pos c75] at H
                 have c75b0 : (x53002001_1 == x53002001_1) = true := beq_iff_eq.mpr c75
                 have c75b1 : (x53002001_1 != x53002001_1) = false := bne_eq_false_iff_eq.mpr c75
                 clear c75
                 obtain rfl := Option.some.inj H
                 have hnb76 := NB53015_53001.out
                 have hnc76 := NB53001_53015.out
                 have hcz77_0 : wc.cell? ⟨gb53015, 0, none⟩ = some (.int .i64 ((rd_T32 x5_1 (ji16)).f0)) := (blk_cell BK53015.out 0).trans rfl
                 have hcz77_1 : wc.cell? ⟨gb53015, 1, none⟩ = some (.int .i64 ((rd_T32 x5_1 (ji16)).f1)) := (blk_cell BK53015.out 1).trans rfl
                 have hcz77_2 : wc.cell? ⟨gb53015, 2, none⟩ = some (.bool ((rd_T32 x5_1 (ji16)).f2)) := (blk_cell BK53015.out 2).trans rfl
                 have hfz77_0 := blk_frozen BK53015.out 0
                 have hfz77_1 := blk_frozen BK53015.out 1
                 have hfz77_2 := blk_frozen BK53015.out 2
                 have p74 : 0 ≤ (ji16 : Int) := of_decide_eq_true (by assumption)
                 have q74 : (ji16 : Int) < ((x5_1.length : Int) : Int) := of_decide_eq_true (by assumption)
                 obtain ⟨go74, co74, eo74, gb74, gl74, cl74, HG74⟩ := Kd.R_form HO_5.out (by omega)
                 (first | cases eo74 | (injection eo74 with ea_ en_ ec_; (first | subst ea_ | (injection ea_ with ea_; subst ea_)); subst ec_; clear en_))
                 have GB74 := Aside0.mk gb74
                 have GG74 := Aside0.mk HG74
                 clear gb74 gl74 HG74
                 obtain ⟨ce74, hcl74, hM74, hcc74, hfr74⟩ := Kd.R_elem HO_5.out z32 (ji16 : Int) p74 q74
                 obtain rfl := k32_openM hM74
                 have hx74_0 : wc.cell? ⟨go74, (ji16 : Int).toNat * 3, none⟩ = some (.int .i64 ((rd_T32 x5_1 ji16).f0)) := hcc74 0 _ rfl
                 have hx74_1 : wc.cell? ⟨go74, (ji16 : Int).toNat * 3 + 1, none⟩ = some (.int .i64 ((rd_T32 x5_1 ji16).f1)) := hcc74 1 _ rfl
                 have hx74_2 : wc.cell? ⟨go74, (ji16 : Int).toNat * 3 + 2, none⟩ = some (.bool ((rd_T32 x5_1 ji16).f2)) := hcc74 2 _ rfl
                 have hf74_0 : wc.frozen? ⟨go74, (ji16 : Int).toNat * 3, none⟩ = false := hfr74 0
                 have hf74_1 : wc.frozen? ⟨go74, (ji16 : Int).toNat * 3 + 1, none⟩ = false := hfr74 1
                 have hf74_2 : wc.frozen? ⟨go74, (ji16 : Int).toNat * 3 + 2, none⟩ = false := hfr74 2
                 clear hcl74 hcc74 hfr74 hM74
                 replace p74 := eq_true p74
                 replace q74 := eq_true q74
                 have HX78 := Aside0.mk (show Kd.R k32 32 wc w.heap.size (fun k_ => k_ ≠ gb53001 ∧ k_ ≠ gb53015) (.slice (some ⟨go74, 0, none⟩) x5_1.length co22) x5_1 from (HO_5.out))
                 obtain ⟨ce78, hcl78, hM78, hcc78, hfr78⟩ := Kd.R_elem HX78.out z32 (ji16 : Int) (of_decide_eq_true (by assumption)) (by have h_ : (ji16 : Int) < ((x5_1.length : Int) : Int) := of_decide_eq_true (by assumption); first | exact h_ | (have e_ := (Kd.R_reads' HO_5.out).1; omega) | simpa using h_)
                 obtain rfl := k32_openM hM78
                 have HP78 := Kd.R_seg HX78.out (ji16 : Int) (of_decide_eq_true (by assumption)) (by have h_ : (ji16 : Int) < ((x5_1.length : Int) : Int) := of_decide_eq_true (by assumption); first | exact h_ | (have e_ := (Kd.R_reads' HO_5.out).1; omega) | simpa using h_) (seg := [.int .i64 ((rd_T32 x5_1 (ji16)).f0), .int .i64 (wrap64 (((rd_T32 x5_1 (ji16)).f1) + x53002001_1)), .bool ((wrap64 (x53002000_1 - t53016)) == (-1))]) (j := 0) hcl78 hcc78 (show 3 ≤ 3 from by decide) (x' := (⟨((rd_T32 x5_1 (ji16)).f0), wrap64 (((rd_T32 x5_1 (ji16)).f1) + x53002001_1), ((wrap64 (x53002000_1 - t53016)) == (-1))⟩ : S32)) (k32_mkM _ _ _ (⟨((rd_T32 x5_1 (ji16)).f0), wrap64 (((rd_T32 x5_1 (ji16)).f1) + x53002001_1), ((wrap64 (x53002000_1 - t53016)) == (-1))⟩ : S32) ) (fun _ hk => hk)
                 have hx78_0 := hcc78 0 _ rfl
                 (try simp only [show (k32).sz = 3 from rfl, Nat.mul_one, Nat.add_zero] at hx78_0)
                 have hf78_0 := hfr78 0
                 (try simp only [show (k32).sz = 3 from rfl, Nat.mul_one, Nat.add_zero] at hf78_0)
                 have hx78_1 := hcc78 1 _ rfl
                 (try simp only [show (k32).sz = 3 from rfl, Nat.mul_one, Nat.add_zero] at hx78_1)
                 have hf78_1 := hfr78 1
                 (try simp only [show (k32).sz = 3 from rfl, Nat.mul_one, Nat.add_zero] at hf78_1)
                 have hx78_2 := hcc78 2 _ rfl
                 (try simp only [show (k32).sz = 3 from rfl, Nat.mul_one, Nat.add_zero] at hx78_2)
                 have hf78_2 := hfr78 2
                 (try simp only [show (k32).sz = 3 from rfl, Nat.mul_one, Nat.add_zero] at hf78_2)
                 clear hcl78 hcc78 hfr78 hM78
                 go_wp2_with (first | ((with_reducible refine gate_store (t := 32) (p := 87) rfl ?_); refine store_event (t := 32) (p := 87) (v := ?vo_w79) (w1 := (((wc.setCell ⟨go74, (ji16 : Int).toNat * 3, none⟩ (.int .i64 ((rd_T32 x5_1 (ji16)).f0))).setCell ⟨go74, (ji16 : Int).toNat * 3 + 1, none⟩ (.int .i64 (wrap64 (((rd_T32 x5_1 (ji16)).f1) + x53002001_1)))).setCell ⟨go74, (ji16 : Int).toNat * 3 + 2, none⟩ (.bool ((wrap64 (x53002000_1 - t53016)) == (-1))))) ?hg ?ho ?hn ?hr ?_; (case ho => rfl); (case hg => rfl); (case hn => rfl); (case hr => first | (go_simp; done) | (go_simp; rfl)); intro w79 hw; have hg : wc.grownBy w79 (some go74) := (by rw [hw]; exact HP78.2); have hp_ : Kd.R k32 32 w79 w.heap.size (fun k_ => k_ ≠ gb53001 ∧ k_ ≠ gb53015) (.slice (some ⟨go74, 0, none⟩) x5_1.length co22) y53027 := (by rw [hw, Ny53027.out]; exact HP78.1); clear HP78; have n0_ := Aside0.mk (hp_); have n1_ := Aside0.mk (blk_grown (g := gb53001) (o := .cells #[.int .i64 x53002000_1, .int .i64 x53002001_1, .bool x53002002_1] 32 (0, 0)) (BK53001.out) hg (Kd.R_away HO_5.out (fun _ hk => hk.1))); have n2_ := Aside0.mk (blk_grown (g := gb53015) (o := .cells #[.int .i64 ((rd_T32 x5_1 (ji16)).f0), .int .i64 ((rd_T32 x5_1 (ji16)).f1), .bool ((rd_T32 x5_1 (ji16)).f2)] 32 (0, 0)) (BK53015.out) hg (Kd.R_away HO_5.out (fun _ hk => hk.2))); have n3_ := Aside0.mk ((by rw [hw]; exact below_set (below_set (below_set (HB.out) GB74.out) GB74.out) GB74.out : Below w.heap.size w w79)); clear HO_5; clear BK53001; clear BK53015; clear HB; have HO_5 := n0_; have BK53001 := n1_; have BK53015 := n2_; have HB := n3_; clear n0_ n1_ n2_ n3_; clear hg hw hp_; have hcz80_0 : w79.cell? ⟨gb53001, 0, none⟩ = some (.int .i64 x53002000_1) := (blk_cell BK53001.out 0).trans rfl; have hcz80_1 : w79.cell? ⟨gb53001, 1, none⟩ = some (.int .i64 x53002001_1) := (blk_cell BK53001.out 1).trans rfl; have hcz80_2 : w79.cell? ⟨gb53001, 2, none⟩ = some (.bool x53002002_1) := (blk_cell BK53001.out 2).trans rfl; have hfz80_0 := blk_frozen BK53001.out 0; have hfz80_1 := blk_frozen BK53001.out 1; have hfz80_2 := blk_frozen BK53001.out 2))
                 go_ret
                 exact ⟨_, by first | rfl | (simp [errW_none, errW_some] <;> rfl) | (simp only [← hji16]; first | rfl | (simp [errW_none, errW_some] <;> rfl)) | (simp [*, errW_none, errW_some] <;> rfl), by exact Kd.R_mono HO_5.out (fun _ hk => trivial), by repeat (first | exact HB.out | apply below_alloc | apply pw_below_drewN | apply below_drew1 | refine below_set ?_ GE53001.out | refine below_set ?_ GE53015.out)⟩
                ·rw [if_neg c75] at H
                 exact absurd rfl c75
               ·rw [if_neg c73] at H
                exact absurd H (by simp)
              ·rw [if_neg c72] at H
               exact absurd H (by simp)
       ·rw [if_neg c18] at H
        exact absurd H (by simp)
      ·rw [if_neg c17] at H
       exact absurd H (by simp)
    ·rw [if_neg c8] at H
     have c8b0 : decide (0 < x53002001_1) = false := decide_eq_false c8
     clear c8
     obtain rfl := Option.some.inj H
     have hcz89_0 : wr.cell? ⟨gb53001, 0, none⟩ = some (.int .i64 x53002000_1) := (blk_cell BK53001.out 0).trans rfl
     have hcz89_1 : wr.cell? ⟨gb53001, 1, none⟩ = some (.int .i64 x53002001_1) := (blk_cell BK53001.out 1).trans rfl
     have hcz89_2 : wr.cell? ⟨gb53001, 2, none⟩ = some (.bool x53002002_1) := (blk_cell BK53001.out 2).trans rfl
     have hfz89_0 := blk_frozen BK53001.out 0
     have hfz89_1 := blk_frozen BK53001.out 1
     have hfz89_2 := blk_frozen BK53001.out 2
     go_wp2
     go_ret
     exact ⟨_, by first | rfl | (simp [errW_none, errW_some] <;> rfl) | (simp [*, errW_none, errW_some] <;> rfl), by exact Kd.R_mono HO_5.out (fun _ hk => trivial), by repeat (first | exact HB.out | apply below_alloc | apply pw_below_drewN | apply below_drew1 | refine below_set ?_ GE53001.out)⟩
 ·rw [if_neg c3] at H
  exact absurd H (by simp)

end Go.Proofs.Ytcnkmdonbpgjiaa.G

namespace Go.Proofs.Ytcnkmdonbpgjiaa.G
open Go.RowKit Go.Proofs.YtcnkmdonbpgjiaaW.PrintWords Go.Proofs.YtcnkmdonbpgjiaaW.PrintLast Go.Proofs.YtcnkmdonbpgjiaaW.PrintMore
attribute [local go_sem] max2_int min2_int max_two min_two max_three min_three max_four min_four   -- for this text's walks alone
set_option linter.unusedVariables false
set_option linter.unusedSimpArgs false

def papermillref13_all.l0 : Nat → List (S32) → List (S32) → Int → Option ((List (S32)))
 | 0, _, _, _ => none
 | k + 1, x0, x3, x4 => if x4 < (x0.length : Int) then (if 0 ≤ x4 then ((papermillref13_more.f k x3 ((rd_T32 x0 x4).f0) ((rd_T32 x0 x4).f1) ((rd_T32 x0 x4).f2)).bind fun t57002 => (papermillref13_all.l0 k x0 t57002 (wrap64 (x4 + 1)))) else (none)) else (some x3)
def papermillref13_all.f (k : Nat) (l0 : List (S32)) : Option ((List (S32))) := papermillref13_all.l0 k l0 ([] : List (S32)) 0
theorem papermillref13_all.mono_l : ∀ k, (∀ y0 y1 y2, LeO (papermillref13_all.l0 k y0 y1 y2) (papermillref13_all.l0 (k + 1) y0 y1 y2))
 | 0 => fun _ _ _ r h => by simp [papermillref13_all.l0] at h
 | k + 1 => by
  have ih0 := papermillref13_all.mono_l k
  ·intro y0 y1 y2
   unfold papermillref13_all.l0
   repeat' first
   | (with_reducible exact ih0 _ _ _)
   | (with_reducible exact papermillref13_more.mono _ _ _ _ _)
   | (with_reducible exact LeO.refl _)
   | (with_reducible exact LeO.none _)
   | (with_reducible refine LeO.ite ?_ ?_)
   | (with_reducible refine LeO.bind ?_ (fun _ => ?_))
   | exact ih0 _ _ _
   | exact papermillref13_more.mono _ _ _ _ _
   | exact LeO.none _
   | refine LeO.ite ?_ ?_
   | refine LeO.bind ?_ (fun _ => ?_)
theorem papermillref13_all.mono : ∀ a0 k, LeO (papermillref13_all.f k a0) (papermillref13_all.f (k + 1) a0) := by
 intro a0 k
 have ih0 := papermillref13_all.mono_l k
 unfold papermillref13_all.f
 repeat' first
   | (with_reducible exact ih0 _ _ _)
   | (with_reducible exact papermillref13_more.mono _ _ _ _ _)
   | (with_reducible exact LeO.refl _)
   | (with_reducible exact LeO.none _)
   | (with_reducible refine LeO.ite ?_ ?_)
   | (with_reducible refine LeO.bind ?_ (fun _ => ?_))
   | exact ih0 _ _ _
   | exact papermillref13_more.mono _ _ _ _ _
   | exact LeO.none _
   | refine LeO.ite ?_ ?_
   | refine LeO.bind ?_ (fun _ => ?_)
set_option maxHeartbeats 8000000 in
set_option maxRecDepth 100000 in
theorem papermillref13_all.calls (k : Nat) (A0 : Option Addr) (c0 : Nat) (l0 : List (S32)) (r : List (S32)) (w : World) (hr0 : Kd.C k32 w A0 l0.length l0) (hc0 : l0.length ≤ c0) (h : papermillref13_all.f k l0 = some r) :
  Calls Try.prog 56 #[.slice A0 l0.length c0] w fun e w' => ∃ v0_ : Value, e = .returned (v0_) ∧ Kd.R k32 32 w' w.heap.size (fun _ => True) v0_ r ∧ Below w.heap.size w w' := by
 have hu32 := Try.underlying32
 have HR0 := Aside0.mk hr0
 have HC0 := Aside0.mk hc0
 clear hr0 hc0
 have HB := Aside0.mk (Below.refl w.heap.size w)
 have H : (papermillref13_all.l0 k l0 ([] : List (S32)) 0) = some r := h
 clear h
 have H' := Aside0.mk H
 clear H
 go_enter Try.func56, Try.ntmps56
 go_wp2
 go_loopg [3, 4] k (fun kq v3 v4 w' => ∃ (x3_1 : List (S32)) (x4_1 : Int), v4 = .int .i64 x4_1 ∧ Aside0 (papermillref13_all.l0 kq l0 x3_1 x4_1 = some r) ∧ Aside0 (kq ≤ k) ∧ Aside0 (Kd.R k32 32 w' w.heap.size (fun _ => True) v3 x3_1) ∧ Aside0 (Below w.heap.size w w'))
 case atStart => exact ⟨(([] : List (S32))), (0), (by first | rfl | (simp; done) | (simp [*]; done)), H', ⟨Nat.le_refl _⟩, ⟨by first | exact Kd.R_nil _ _ _ _ _ | exact Kd.N_nil _ _ _ _ _ | exact Kd.V_nil _ _ _ _ _ | exact Kd.Q_nil _ _ _ _ _ | exact Kd.S_nil _ _ _ _ _⟩, ⟨by repeat (first | exact HB.out | apply below_alloc | apply pw_below_drewN | apply below_drew1)⟩⟩
 case round =>
  clear H'
  obtain ⟨x3_1, x4_1, rfl, HA, HK1, HO_3, HB⟩ := hrel
  cases gk with
  | zero => exact absurd HA.out (by simp [papermillref13_all.l0])
  | succ k1 =>
   have H := HA.out
   clear HA
   simp only [papermillref13_all.l0] at H
   by_cases c2 : x4_1 < (l0.length : Int)
   ·rw [if_pos c2] at H
    have c2b0 : decide (x4_1 < (l0.length : Int)) = true := decide_eq_true c2
    clear c2
    by_cases c3 : 0 ≤ x4_1
    ·rw [if_pos c3] at H
     have c3b0 : decide (0 ≤ x4_1) = true := decide_eq_true c3
     clear c3
     replace H := Option.bind_eq_some_iff.mp H
     obtain ⟨t57002, A40, H⟩ := H
     replace H : (papermillref13_all.l0 k1 l0 t57002 (wrap64 (x4_1 + 1))) = some r := H
     have A4 := Aside0.mk A40
     clear A40
     have H' := Aside0.mk H
     clear H
     have p57001 : 0 ≤ (x4_1 : Int) := of_decide_eq_true (by assumption)
     have q57001 : x4_1 < (l0.length : Int) := of_decide_eq_true (by assumption)
     obtain ⟨ad57001, e57001, hx57001_0, hx57001_1, hx57001_2⟩ := at_T32 HR0.out x4_1 p57001 q57001
     cases e57001
     replace hx57001_0 := (HB.out.cell (World.block_lt_of_cell? w _ hx57001_0)).trans hx57001_0
     replace hx57001_1 := (HB.out.cell (World.block_lt_of_cell? w _ hx57001_1)).trans hx57001_1
     replace hx57001_2 := (HB.out.cell (World.block_lt_of_cell? w _ hx57001_2)).trans hx57001_2
     replace p57001 := eq_true p57001
     replace q57001 := eq_true q57001
     obtain ⟨Ao5, co5, eo5⟩ := Kd.R_slice HO_3.out
     subst eo5
     go_wp2_with (first | ((with_reducible refine gate_callee (f := 52) rfl ?_); refine goesL_ (some 16) rfl rfl Try.func52 (by kernel_rfl) rfl #[.slice Ao5 x3_1.length co5, .agg #[.int .i64 ((rd_T32 l0 x4_1).f0), .int .i64 ((rd_T32 l0 x4_1).f1), .bool ((rd_T32 l0 x4_1).f2)]] rfl (by (try simp only [List.map_toArray, List.map_cons, List.map_nil]); first | done | rfl | (simp only [List.length_drop, List.length_take]; rfl)) ?_; (with_reducible refine (papermillref13_more.calls k1 _ _ x3_1 ((rd_T32 l0 x4_1).f0) ((rd_T32 l0 x4_1).f1) ((rd_T32 l0 x4_1).f2) t57002 _ ?side1 ?side2 A4.out).mono ?_); (case side1 => exact (Kd.R_reads' HO_3.out).2.2); (case side2 => exact (Kd.R_reads' HO_3.out).2.1); rintro e w6 ⟨v57003, rfl, ho0, hb⟩; refine ⟨_, rfl, ?_⟩; have n0_ := Aside0.mk (Kd.R_elder' (HO_3.out) (Kd.R_base ho0) hb); have n1_ := Aside0.mk (Kd.R_lower (Kd.R_new' ho0 (Kd.R_lt (HO_3.out))) (below_size (by repeat (first | exact HB.out | apply below_alloc | apply pw_below_drewN | apply below_drew1)))); have n2_ := Aside0.mk (below_step (by repeat (first | exact HB.out | apply below_alloc | apply pw_below_drewN | apply below_drew1)) hb); clear HO_3; clear HB; have HO_3 := n0_; have HO57004 := n1_; have HB := n2_; clear n0_ n1_ n2_; (try clear hb); (try clear hb2); (try clear hk); (try clear hi); (try clear ho0)))
     go_roundg k1
     case measure => have := HK1.out; omega
     case rel => exact ⟨(t57002), (wrap64 (x4_1 + 1)), (by first | rfl | (simp; done) | (simp [*]; done)), H', ⟨by have := HK1.out; omega⟩, ⟨by exact Kd.R_mono HO57004.out (fun _ hk => trivial)⟩, ⟨by repeat (first | exact HB.out | apply below_alloc | apply pw_below_drewN | apply below_drew1)⟩⟩
    ·rw [if_neg c3] at H
     exact absurd H (by simp)
   ·rw [if_neg c2] at H
    have c2b0 : decide (x4_1 < (l0.length : Int)) = false := decide_eq_false c2
    clear c2
    obtain rfl := Option.some.inj H
    go_wp2
    go_ret
    exact ⟨_, by first | rfl | (simp [errW_none, errW_some] <;> rfl) | (simp [*, errW_none, errW_some] <;> rfl), by exact HO_3.out, by repeat (first | exact HB.out | apply below_alloc | apply pw_below_drewN | apply below_drew1)⟩

end Go.Proofs.Ytcnkmdonbpgjiaa.G

namespace Go.Proofs.Ytcnkmdonbpgjiaa.G
open Go.RowKit Go.Proofs.YtcnkmdonbpgjiaaW.PrintWords Go.Proofs.YtcnkmdonbpgjiaaW.PrintLast Go.Proofs.YtcnkmdonbpgjiaaW.PrintMore
attribute [local go_sem] max2_int min2_int max_two min_two max_three min_three max_four min_four   -- for this text's walks alone
set_option linter.unusedVariables false
set_option linter.unusedSimpArgs false

def papermillref13_Norm.f (k : Nat) (l0 : List (S32)) : Option ((List (S32)) × Int) := (papermillref13_Check.f k l0).bind fun t29001 => (if t29001 = 0 then ((papermillref13_all.f k l0).bind fun t29002 => (some (t29002, 0))) else (some (([] : List (S32)), t29001)))
theorem papermillref13_Norm.mono : ∀ a0 k, LeO (papermillref13_Norm.f k a0) (papermillref13_Norm.f (k + 1) a0) := by
 intro a0 k
 unfold papermillref13_Norm.f
 repeat' first
   | (with_reducible exact papermillref13_Check.mono _ _)
   | (with_reducible exact papermillref13_all.mono _ _)
   | (with_reducible exact LeO.refl _)
   | (with_reducible exact LeO.none _)
   | (with_reducible refine LeO.ite ?_ ?_)
   | (with_reducible refine LeO.bind ?_ (fun _ => ?_))
   | exact papermillref13_Check.mono _ _
   | exact papermillref13_all.mono _ _
   | exact LeO.none _
   | refine LeO.ite ?_ ?_
   | refine LeO.bind ?_ (fun _ => ?_)
set_option maxHeartbeats 8000000 in
set_option maxRecDepth 100000 in
theorem papermillref13_Norm.calls (k : Nat) (A0 : Option Addr) (c0 : Nat) (l0 : List (S32)) (r1 : List (S32)) (r2 : Int) (w : World) (hr0 : Kd.C k32 w A0 l0.length l0) (hc0 : l0.length ≤ c0) (h : papermillref13_Norm.f k l0 = some (r1, r2)) :
  Calls Try.prog 28 #[.slice A0 l0.length c0] w fun e w' => ∃ v0_ : Value, e = .returned (.tuple #[v0_, .int .i64 r2]) ∧ Kd.R k32 32 w' w.heap.size (fun _ => True) v0_ r1 ∧ Below w.heap.size w w' := by
 have HR0 := Aside0.mk hr0
 have HC0 := Aside0.mk hc0
 clear hr0 hc0
 have HB := Aside0.mk (Below.refl w.heap.size w)
 have H : ((papermillref13_Check.f k l0).bind fun t29001 => (if t29001 = 0 then ((papermillref13_all.f k l0).bind fun t29002 => (some (t29002, 0))) else (some (([] : List (S32)), t29001)))) = some (r1, r2) := h
 clear h
 replace H := Option.bind_eq_some_iff.mp H
 obtain ⟨t29001, A20, H⟩ := H
 replace H : (if t29001 = 0 then ((papermillref13_all.f k l0).bind fun t29002 => (some (t29002, 0))) else (some (([] : List (S32)), t29001))) = some (r1, r2) := H
 have A2 := Aside0.mk A20
 clear A20
 by_cases c3 : t29001 = 0
 ·rw [if_pos c3] at H
  have c3b0 : (t29001 == 0) = true := beq_iff_eq.mpr c3
  have c3b1 : (t29001 != 0) = false := bne_eq_false_iff_eq.mpr c3
  clear c3
  replace H := Option.bind_eq_some_iff.mp H
  obtain ⟨t29002, A40, H⟩ := H
  replace H : (some (t29002, 0)) = some (r1, r2) := H
  have A4 := Aside0.mk A40
  clear A40
  simp only [Option.some.injEq, Prod.mk.injEq] at H
  obtain ⟨rfl, rfl⟩ := H
  go_enter Try.func28, Try.ntmps28
  go_wp2_with (first | ((with_reducible refine gate_callee (f := 15) rfl ?_); refine goesL_ (some 6) rfl rfl Try.func15 (by kernel_rfl) rfl #[.slice A0 l0.length c0] rfl (by (try simp only [List.map_toArray, List.map_cons, List.map_nil]); first | done | rfl | (simp only [List.length_drop, List.length_take]; rfl)) ?_; (with_reducible refine (papermillref13_Check.calls k _ _ l0 t29001 _ ?side1 ?side2 A2.out).mono ?_); (case side1 => exact HR0.out); (case side2 => exact HC0.out); rintro e w5 ⟨rfl, hb⟩; refine ⟨_, rfl, ?_⟩; have n0_ := Aside0.mk (below_step (by repeat (first | exact HB.out | apply below_alloc | apply pw_below_drewN | apply below_drew1)) hb); clear HB; have HB := n0_; clear n0_; (try clear hb); (try clear hb2); (try clear hk); (try clear hi)) | ((with_reducible refine gate_callee (f := 56) rfl ?_); refine goesL_ (some 11) rfl rfl Try.func56 (by kernel_rfl) rfl #[.slice A0 l0.length c0] rfl (by (try simp only [List.map_toArray, List.map_cons, List.map_nil]); first | done | rfl | (simp only [List.length_drop, List.length_take]; rfl)) ?_; (with_reducible refine (papermillref13_all.calls k _ _ l0 t29002 _ ?side1 ?side2 A4.out).mono ?_); (case side1 => exact (Kd.C_below HR0.out HB.out)); (case side2 => exact HC0.out); rintro e w6 ⟨v29003, rfl, ho0, hb⟩; refine ⟨_, rfl, ?_⟩; have n0_ := Aside0.mk (Kd.R_lower ho0 (below_size (by repeat (first | exact HB.out | apply below_alloc | apply pw_below_drewN | apply below_drew1)))); have n1_ := Aside0.mk (below_step (by repeat (first | exact HB.out | apply below_alloc | apply pw_below_drewN | apply below_drew1)) hb); clear HB; have HO29004 := n0_; have HB := n1_; clear n0_ n1_; (try clear hb); (try clear hb2); (try clear hk); (try clear hi); (try clear ho0)))
  go_ret2
  exact ⟨_, by first | rfl | (simp [errW_none, errW_some] <;> rfl) | (simp [*, errW_none, errW_some] <;> rfl), by exact HO29004.out, by repeat (first | exact HB.out | apply below_alloc | apply pw_below_drewN | apply below_drew1)⟩
 ·rw [if_neg c3] at H
  have c3b0 : (t29001 == 0) = false := beq_eq_false_iff_ne.mpr c3
  have c3b1 : (t29001 != 0) = true := bne_iff_ne.mpr c3
  simp only [Option.some.injEq, Prod.mk.injEq] at H
  obtain ⟨rfl, rfl⟩ := H
  go_enter Try.func28, Try.ntmps28
  go_wp2_with (first | ((with_reducible refine gate_callee (f := 15) rfl ?_); refine goesL_ (some 6) rfl rfl Try.func15 (by kernel_rfl) rfl #[.slice A0 l0.length c0] rfl (by (try simp only [List.map_toArray, List.map_cons, List.map_nil]); first | done | rfl | (simp only [List.length_drop, List.length_take]; rfl)) ?_; (with_reducible refine (papermillref13_Check.calls k _ _ l0 t29001 _ ?side1 ?side2 A2.out).mono ?_); (case side1 => exact HR0.out); (case side2 => exact HC0.out); rintro e w7 ⟨rfl, hb⟩; refine ⟨_, rfl, ?_⟩; have n0_ := Aside0.mk (below_step (by repeat (first | exact HB.out | apply below_alloc | apply pw_below_drewN | apply below_drew1)) hb); clear HB; have HB := n0_; clear n0_; (try clear hb); (try clear hb2); (try clear hk); (try clear hi)))
  go_ret2
  exact ⟨_, by first | rfl | (simp [errW_none, errW_some] <;> rfl) | (simp [*, errW_none, errW_some] <;> rfl), by first | exact Kd.R_nil _ _ _ _ _ | exact Kd.N_nil _ _ _ _ _ | exact Kd.V_nil _ _ _ _ _ | exact Kd.Q_nil _ _ _ _ _ | exact Kd.S_nil _ _ _ _ _, by repeat (first | exact HB.out | apply below_alloc | apply pw_below_drewN | apply below_drew1)⟩

end Go.Proofs.Ytcnkmdonbpgjiaa.G

namespace Go.Proofs.Ytcnkmdonbpgjiaa.G
open Go.RowKit Go.Proofs.YtcnkmdonbpgjiaaW.PrintWords Go.Proofs.YtcnkmdonbpgjiaaW.PrintLast Go.Proofs.YtcnkmdonbpgjiaaW.PrintMore
set_option linter.unusedVariables false
set_option linter.unusedSimpArgs false
theorem rgood_ends (r : S32) : Ends (fun k => papermillref13_good.f k r.f0 r.f1 r.f2) (decide (¬ badR r)) := by
 have key : ∀ z : Bool, z = decide (r.f1 < 1 ∨ r.f1 > 17179869184 ∨ r.f0 < 0 ∨ r.f0 ≥ 17179869184) → Ends (fun k => papermillref13_good.j0 k z r.f0 r.f1 r.f2) (decide (¬ badR r)) := fun z hz => by
  refine Ends.succ ?_
  simp only [papermillref13_good.j0]
  by_cases hb : r.f1 < 1 ∨ r.f1 > 17179869184 ∨ r.f0 < 0 ∨ r.f0 ≥ 17179869184
  ·exact Ends.pos (by rw [hz]; simpa using hb) ((Ends.ret false).congr (by symm; rw [decide_eq_false_iff_not, Classical.not_not]; unfold badR; omega))
  ·refine Ends.neg (by rw [hz]; simpa using hb) ?_
   cases hf : r.f2 with
   | true =>
    have ew : wrap64 (wrap64 (r.f0 - r.f1) + 1) = r.f0 - r.f1 + 1 := by
     have : wrap64 (r.f0 - r.f1) = r.f0 - r.f1 := by unfold wrap64; omega
     rw [this]; unfold wrap64; omega
    refine Ends.pos rfl ((Ends.ret _).congr ?_)
    rw [ew]
    unfold badR
    rw [decide_eq_decide]
    simp [hf]
    omega
   | false =>
    have ew : wrap64 (r.f0 + r.f1) = r.f0 + r.f1 := by unfold wrap64; omega
    refine Ends.neg (by simp) ((Ends.ret _).congr ?_)
    rw [ew]
    unfold badR
    rw [decide_eq_decide]
    simp [hf]
    omega
 unfold papermillref13_good.f
 by_cases c1 : r.f1 < 1
 ·exact Ends.pos c1 (key true (by simp [c1]))
 ·refine Ends.neg c1 ?_
  by_cases c2 : r.f1 > 17179869184
  ·exact Ends.pos c2 (key true (by simp [c2]))
  ·refine Ends.neg c2 ?_
   by_cases c3 : r.f0 < 0
   ·exact Ends.pos c3 (key true (by simp [c3]))
   ·exact Ends.neg c3 (key _ (by simp [c1, c2, c3]))
theorem rlength_l0 (l : List S32) (hl : l.length ≤ 65536) (hv : ∀ r ∈ l, 0 ≤ r.f1 ∧ r.f1 ≤ 17179869184) : ∀ (d i : Nat) (n : Int), l.length - i = d → i ≤ l.length → 0 ≤ n → n ≤ i * 17179869184 → Ends (fun k => papermillref13_length.l0 k l n (i : Int)) (n + tot13 (l.drop i)) := by
 intro d
 induction d with
 | zero =>
  intro i n hd hi h0 h1
  refine Ends.succ ?_
  simp only [papermillref13_length.l0]
  rw [List.drop_of_length_le (by omega)]
  exact Ends.neg (by omega) ((Ends.ret _).congr (by simp [tot13]))
 | succ d ih =>
  intro i n hd hi h0 h1
  refine Ends.succ ?_
  have hx := hv (rd_T32 l (i : Int)) (by rw [rdR l i (by omega)]; exact List.getElem_mem _)
  rw [dropR l i (by omega), tot13_cons]
  simp only [papermillref13_length.l0, wrap_nat i (by omega)]
  generalize rd_T32 l (i : Int) = r at *
  have ew : wrap64 (n + r.f1) = n + r.f1 := by unfold wrap64; omega
  rw [ew]
  exact Ends.pos (by omega) (Ends.pos (by omega) ((ih (i + 1) (n + r.f1) (by omega) (by omega) (by omega) (by omega)).congr (by rw [Int.add_assoc])))
theorem rlength_ends (l : List S32) (hl : l.length ≤ 65536) (hv : ∀ r ∈ l, 0 ≤ r.f1 ∧ r.f1 ≤ 17179869184) : Ends (fun k => papermillref13_length.f k l) (tot13 l) := by
 unfold papermillref13_length.f
 exact (rlength_l0 l hl hv _ 0 0 rfl (by omega) (by omega) (by omega)).congr (by simp)
theorem rcheck_l0 (l : List S32) (hl : l.length ≤ 256) : ∀ (d i : Nat), l.length - i = d → i ≤ l.length → anyBad (l.take i) = false → Ends (fun k => papermillref13_Check.l0 k l (i : Int)) (if anyBad l = true then 1 else if tot13 l > 17179869184 then 21 else 0) := by
 intro d
 induction d with
 | zero =>
  intro i hd hi hn
  refine Ends.succ ?_
  simp only [papermillref13_Check.l0]
  rw [List.take_of_length_le (by omega)] at hn
  have hg : ∀ r ∈ l, ¬ badR r := fun r hr hb => by
   have : anyBad l = true := List.any_eq_true.mpr ⟨r, hr, by simpa using hb⟩
   rw [hn] at this; cases this
  refine Ends.neg (by omega) (Ends.bind (rlength_ends l (by omega) (fun r hr => by have := fit_of (hg r hr); unfold fitR at this; omega)) ?_)
  by_cases h : tot13 l > 17179869184
  ·exact Ends.pos h ((Ends.ret 21).congr (by rw [hn, if_neg (by simp), if_pos h]))
  ·exact Ends.neg h ((Ends.ret 0).congr (by rw [hn, if_neg (by simp), if_neg h]))
 | succ d ih =>
  intro i hd hi hn
  refine Ends.succ ?_
  simp only [papermillref13_Check.l0, wrap_nat i (by omega)]
  have hmem : rd_T32 l (i : Int) ∈ l := by rw [rdR l i (by omega)]; exact List.getElem_mem _
  have htk : l.take (i + 1) = l.take i ++ [rd_T32 l (i : Int)] := by rw [List.take_succ_eq_append_getElem (by omega : i < l.length), rdR l i (by omega)]
  generalize rd_T32 l (i : Int) = r at *
  refine Ends.pos (by omega) (Ends.pos (by omega) (Ends.bind (rgood_ends r) ?_))
  by_cases hb : badR r
  ·have : anyBad l = true := List.any_eq_true.mpr ⟨r, hmem, by simpa using hb⟩
   rw [if_pos this]
   exact Ends.neg (by simpa using hb) (Ends.ret _)
  ·exact Ends.pos (by simpa using hb) (ih (i + 1) (by omega) (by omega) (by rw [htk]; simp only [anyBad, List.any_append] at hn ⊢; rw [hn]; simpa using hb))
theorem rcheck_ends (l : List S32) : Ends (fun k => papermillref13_Check.f k l) (check13 l) := by
 unfold papermillref13_Check.f check13
 by_cases h : l.length > 256
 ·rw [if_pos h]; exact Ends.pos (by omega) (Ends.ret _)
 ·rw [if_neg h]
  exact Ends.neg (by omega) (rcheck_l0 l (by omega) _ 0 rfl (by omega) (by simp [anyBad]))
end Go.Proofs.Ytcnkmdonbpgjiaa.G

namespace Go.Proofs.Ytcnkmdonbpgjiaa.G
open Go.RowKit Go.Proofs.YtcnkmdonbpgjiaaW.PrintWords Go.Proofs.YtcnkmdonbpgjiaaW.PrintLast Go.Proofs.YtcnkmdonbpgjiaaW.PrintMore
set_option linter.unusedVariables false
set_option linter.unusedSimpArgs false
theorem comb_ends (a b : List S37) (ha : a.length ≤ 256) (hb : b.length ≤ 256) (w : Int) (hw : w = 0 ∨ w = 1 ∨ w = 2) : Ends (fun _ => papermillref04_combine.f a b w) (combOf a b w) :=
 Ends.const (by unfold papermillref04_combine.f; rw [if_pos ⟨ha, hb, hw⟩])
theorem check_l0 (l : List S37) (hl : l.length ≤ 256) : ∀ (d i : Nat), l.length - i = d → i ≤ l.length → Ends (fun k => papermillref04_Check.l0 k l (i : Int)) (if ∃ s ∈ l.drop i, badS s then 1 else 0) := by
 intro d
 induction d with
 | zero =>
  intro i hd hi
  rw [List.drop_of_length_le (by omega)]
  refine Ends.succ ?_
  simp only [papermillref04_Check.l0]
  exact Ends.neg (by omega) (by simpa using Ends.ret (0 : Int))
 | succ d ih =>
  intro i hd hi
  have := ih (i + 1) (by omega) (by omega)
  rw [drop36 l i (by omega)]
  refine Ends.succ ?_
  simp only [papermillref04_Check.l0, wrap_nat i (by omega)]
  refine Ends.pos (by omega) (Ends.pos (by omega) ?_)
  by_cases hb : badS (rd_T37 l i)
  ·rw [if_pos ⟨_, by simp, hb⟩]
   unfold badS at hb
   by_cases h1 : (rd_T37 l i).f0 < 0
   ·exact Ends.pos h1 (Ends.ret _)
   ·refine Ends.neg h1 ?_
    by_cases h2 : (rd_T37 l i).f0 > (rd_T37 l i).f1
    ·exact Ends.pos h2 (Ends.ret _)
    ·exact Ends.neg h2 (Ends.pos (by omega) (Ends.ret _))
  ·have e : (∃ s ∈ rd_T37 l i :: l.drop (i + 1), badS s) ↔ ∃ s ∈ l.drop (i + 1), badS s := by
    constructor
    ·rintro ⟨s, hs, k⟩
     rcases List.mem_cons.1 hs with rfl | hs
     ·exact absurd k hb
     ·exact ⟨s, hs, k⟩
    ·rintro ⟨s, hs, k⟩; exact ⟨s, by simp [hs], k⟩
   simp only [e]
   unfold badS at hb
   exact Ends.neg (by omega) (Ends.neg (by omega) (Ends.neg (by omega) this))
theorem check04_ends (l : List S37) : Ends (fun k => papermillref04_Check.f k l) (check04 l) := by
 simp only [papermillref04_Check.f, check04]
 by_cases h : l.length > 256
 ·rw [if_pos h]; exact Ends.pos (by omega) (Ends.ret _)
 ·rw [if_neg h]; exact Ends.neg (by omega) (by simpa using check_l0 l (by omega) l.length 0 rfl (Nat.zero_le _))
theorem both_ends (a b : List S37) (w : Int) (hw : w = 0 ∨ w = 1 ∨ w = 2) : Ends (fun k => papermillref04_both.f k a b w) (bothOf a b w) := by
 unfold papermillref04_both.f bothOf
 refine Ends.bind (check04_ends a) ?_
 by_cases h1 : check04 a = 0
 ·rw [if_pos h1]; refine Ends.pos h1 (Ends.bind (check04_ends b) ?_)
  by_cases h2 : check04 b = 0
  ·simp only [if_pos h2]; refine Ends.bind (comb_ends a b (check04_zero h1).1 (check04_zero h2).1 w hw) ?_
   by_cases h3 : (combOf a b w).length > 256
   ·rw [if_pos h3]; exact Ends.pos (by omega) (Ends.ret _)
   ·rw [if_neg h3]; exact Ends.neg (by omega) (Ends.ret _)
  ·simp only [if_neg h2]; exact Ends.ret _
 ·rw [if_neg h1]; exact Ends.neg h1 (Ends.ret _)
end Go.Proofs.Ytcnkmdonbpgjiaa.G

namespace Go.Proofs.Ytcnkmdonbpgjiaa.G
open Go.RowKit Go.Proofs.YtcnkmdonbpgjiaaW.PrintWords Go.Proofs.YtcnkmdonbpgjiaaW.PrintLast Go.Proofs.YtcnkmdonbpgjiaaW.PrintMore
set_option linter.unusedVariables false
set_option linter.unusedSimpArgs false
theorem same_l0 (l : List S37) (hl : l.length ≤ 1000000) : ∀ (d i : Nat), l.length - i = d → i ≤ l.length → Ends (fun k => papermillref04_Same.l0 k l l (i : Int)) true := by
 intro d
 induction d with
 | zero =>
  intro i hd hi
  refine Ends.succ ?_
  simp only [papermillref04_Same.l0]
  exact Ends.neg (by omega) (Ends.ret _)
 | succ d ih =>
  intro i hd hi
  refine Ends.succ ?_
  simp only [papermillref04_Same.l0, wrap_nat i (by omega)]
  exact Ends.pos (by omega) (Ends.pos (by omega) (Ends.pos (by omega) (Ends.neg (by simp) (ih (i + 1) (by omega) (by omega)))))
theorem same_ends (l : List S37) (hl : l.length ≤ 1000000) : Ends (fun k => papermillref04_Same.f k l l) true := by
 unfold papermillref04_Same.f
 exact Ends.pos rfl (same_l0 l hl _ 0 rfl (by omega))
end Go.Proofs.Ytcnkmdonbpgjiaa.G

namespace Go.Proofs.Ytcnkmdonbpgjiaa.G
open Go.RowKit Go.Proofs.YtcnkmdonbpgjiaaW.PrintWords Go.Proofs.YtcnkmdonbpgjiaaW.PrintLast Go.Proofs.YtcnkmdonbpgjiaaW.PrintMore
set_option linter.unusedVariables false
set_option linter.unusedSimpArgs false
theorem rnorm_ends (l : List S37) : Ends (fun k => papermillref04_Norm.f k l) (bothOf l [] 0) := by
 unfold papermillref04_Norm.f
 exact Ends.bind (both_ends l [] 0 (.inl rfl)) (Ends.ret _)
end Go.Proofs.Ytcnkmdonbpgjiaa.G

namespace Go.Proofs.Ytcnkmdonbpgjiaa.G
open Go.RowKit Go.Proofs.YtcnkmdonbpgjiaaW.PrintWords Go.Proofs.YtcnkmdonbpgjiaaW.PrintLast Go.Proofs.YtcnkmdonbpgjiaaW.PrintMore
attribute [local go_sem] max2_int min2_int max_two min_two max_three min_three max_four min_four   -- for this text's walks alone
set_option linter.unusedVariables false
set_option linter.unusedSimpArgs false
def papermillref13_Find.f (l0 : List S32) (a1_0 a1_1 : Int) : Option (List S37 × Int) := some (find13 l0 a1_0 a1_1)
theorem findS_fwd (p x0 x1 a b : Int) (hv : ¬ badR ⟨x0, x1, false⟩) : findS p ⟨x0, x1, false⟩ a b = if mx 0 (a - x0) < mn x1 (b - x0) then [⟨p + mx 0 (a - x0), p + mn x1 (b - x0)⟩] else [] := by
 have hf := fit_of hv
 unfold fitR at hf
 simp only at hf
 have h0 : (imgS ⟨x0, x1, false⟩).f0 = x0 := by unfold imgS mn img; simp; (try omega)
 have h1 : (imgS ⟨x0, x1, false⟩).f1 = x0 + x1 := by unfold imgS mx img; simp; (try omega)
 unfold findS
 rw [h0, h1]
 have e1 : mx x0 a = x0 + mx 0 (a - x0) := by unfold mx; split <;> split <;> omega
 have e2 : mn (x0 + x1) b = x0 + mn x1 (b - x0) := by unfold mn; split <;> split <;> omega
 rw [e1, e2]
 simp only [Bool.false_eq_true, if_false]
 by_cases h : mx 0 (a - x0) < mn x1 (b - x0)
 ·rw [if_pos h, if_pos (by omega)]; congr 2 <;> omega
 ·rw [if_neg h, if_neg (by omega)]
theorem findS_bwd (p x0 x1 a b : Int) (hv : ¬ badR ⟨x0, x1, true⟩) : findS p ⟨x0, x1, true⟩ a b = if mx 0 (x0 - b + 1) < mn x1 (x0 - a + 1) then [⟨p + mx 0 (x0 - b + 1), p + mn x1 (x0 - a + 1)⟩] else [] := by
 have hf := fit_of hv
 unfold fitR at hf
 simp only at hf
 have h0 : (imgS ⟨x0, x1, true⟩).f0 = x0 + 1 - x1 := by unfold imgS mn img; simp; (try omega)
 have h1 : (imgS ⟨x0, x1, true⟩).f1 = x0 + 1 := by unfold imgS mx img; simp; (try omega)
 unfold findS
 rw [h0, h1]
 have e1 : mx (x0 + 1 - x1) a = x0 + 1 - mn x1 (x0 - a + 1) := by unfold mx mn; split <;> split <;> omega
 have e2 : mn (x0 + 1) b = x0 + 1 - mx 0 (x0 - b + 1) := by unfold mx mn; split <;> split <;> omega
 rw [e1, e2]
 simp only [if_true]
 by_cases h : mx 0 (x0 - b + 1) < mn x1 (x0 - a + 1)
 ·rw [if_pos h, if_pos (by omega)]; congr 2 <;> omega
 ·rw [if_neg h, if_neg (by omega)]
set_option maxRecDepth 100000 in
set_option maxHeartbeats 16000000 in
theorem rfind_far (A0 : Option Addr) (c0 : Nat) (l : List S32) (a b : Int) (w : World) (hr : Kd.C k32 w A0 l.length l) (hc : l.length ≤ c0) (h0 : check13 l = 0) (ha : ¬ a < 0) (hab : ¬ a > b) (hb : ¬ b > 17179869184) :
  Calls Try.prog 32 #[.slice A0 l.length c0, .agg #[.int .i64 a, .int .i64 b]] w fun e w' => ∃ v, e = .returned (.tuple #[v, .int .i64 (bothOf (findL 0 a b l) [] 0).2]) ∧ Kd.R k37 37 w' w.heap.size (fun _ => True) v (bothOf (findL 0 a b l) [] 0).1 ∧ Below w.heap.size w w' := by
 have HBX := Aside0.mk ((Below.refl w.heap.size w).alloc (Nat.le_refl _) (.cells #[.int .i64 a, .int .i64 b] 37))
 have HR := Aside0.mk (Kd.C_below hr HBX.out)
 have HR0 := Aside0.mk hr
 have HX0 := Aside0.mk (World.alloc_heap_new w (.cells #[.int .i64 a, .int .i64 b] 37))
 have HC := Aside0.mk hc
 clear hr hc
 obtain ⟨hl, hg, ht⟩ := check13_zero h0
 obtain ⟨k1, hk1⟩ := (rcheck_ends l).get
 rw [h0] at hk1
 have HK1 := Aside0.mk hk1
 obtain ⟨kn, hkn⟩ := (rnorm_ends (findL 0 a b l)).get
 obtain ⟨r1, r2, hr12⟩ : ∃ r1 r2, bothOf (findL 0 a b l) [] 0 = (r1, r2) := ⟨_, _, rfl⟩
 rw [hr12] at hkn ⊢
 clear hr12
 have HKN := Aside0.mk hkn
 clear hk1 hkn
 have HG := Aside0.mk hg
 have HT := Aside0.mk (tot_le l hg)
 clear hg h0
 have hab1 : decide (a < 0) = false := decide_eq_false ha
 have hab2 : decide (b < a) = false := decide_eq_false (by omega)
 have hab3 : decide (17179869184 < b) = false := decide_eq_false (by omega)
 go_enter Try.func32, Try.ntmps32
 go_wp2_with (go_at_call 15; (with_reducible refine (papermillref13_Check.calls k1 A0 c0 l 0 _ HR.out HC.out HK1.out).mono ?_); rintro e w1 ⟨rfl, hb⟩; have HB1 := Aside0.mk (HBX.out.trans (hb.mono HBX.out.size)); have HX := Aside0.mk (blk_below HX0.out hb); have hxa : w1.cell? ⟨w.heap.size, 0, none⟩ = some (.int .i64 a) := (blk_cell HX.out 0); have hxb : w1.cell? ⟨w.heap.size, 1, none⟩ = some (.int .i64 b) := (blk_cell HX.out 1); clear hb)
 go_wp2
 go_loopw [7, 8, 9] (fun v p i wr => ∃ kk : Nat, i = .int .i64 kk ∧ p = .int .i64 (tot13 (l.take kk)) ∧ Aside0 (kk ≤ l.length) ∧ Aside0 (Kd.R k37 37 wr w.heap.size (fun k => k ≠ w.heap.size) v (findL 0 a b (l.take kk))) ∧ Aside0 (wr.heap[w.heap.size]? = some (.cells #[.int .i64 a, .int .i64 b] 37 (0, 0))) ∧ Aside0 (Below w.heap.size w wr))
  (fun _ _ i _ => l.length - (intOf i).toNat)
 case atStart => exact ⟨0, rfl, by simp [tot13], ⟨Nat.zero_le _⟩, ⟨by simpa [findL] using Kd.R_nil _ _ _ _ _⟩, HX, HB1⟩
 case round =>
  obtain ⟨kk, rfl, rfl, HK, HO, HX3, HB⟩ := hrel
  by_cases hk : kk < l.length
  ·have hk1 : (kk : Int) < (l.length : Int) := by omega
   have hd0 : decide (kk < l.length) = true := by simpa using hk
   have HAT := Aside0.mk (fun {wq : World} (h : Below w.heap.size w wq) => at_T32 (Kd.C_below HR0.out h) (kk : Int) (by omega) hk1)
   obtain ⟨ad, rfl, hz0, hz1, hz2⟩ := HAT.out HB.out
   simp only [Int.toNat_natCast] at hz0 hz1 hz2
   have hxa : wr.cell? ⟨w.heap.size, 0, none⟩ = some (.int .i64 a) := blk_cell HX3.out 0
   have hxb : wr.cell? ⟨w.heap.size, 1, none⟩ = some (.int .i64 b) := blk_cell HX3.out 1
   have hrm := Aside0.mk (show rd_T32 l kk ∈ l by simp [rd_T32, List.getD_eq_getElem?_getD, List.getElem?_eq_getElem hk])
   have hsn := Aside0.mk (show l.take (kk + 1) = l.take kk ++ [rd_T32 l kk] by rw [List.take_succ_eq_append_getElem hk]; simp [rd_T32, List.getD_eq_getElem?_getD, List.getElem?_eq_getElem hk])
   have hv := HG.out _ hrm.out
   have hft := fit_of hv
   unfold fitR at hft
   have hpt := HT.out kk
   have hfl := findL_fit (l.take kk) 0 a b
   have hfl2 : (l.take kk).length ≤ 256 := by rw [List.length_take]; omega
   have hpn := Aside0.mk (show findL 0 a b (l.take (kk + 1)) = findL 0 a b (l.take kk) ++ findS (tot13 (l.take kk)) (rd_T32 l kk) a b by rw [hsn.out, findL_append, Int.zero_add]; simp [findL])
   have htn := Aside0.mk (show tot13 (l.take (kk + 1)) = tot13 (l.take kk) + (rd_T32 l kk).f1 by rw [hsn.out, tot13_append]; simp [tot13])
   clear hrm hsn
   generalize findL 0 a b (l.take kk) = O at *
   obtain ⟨A7, c7, e7⟩ := Kd.R_slice HO.out
   subst e7
   generalize tot13 (l.take kk) = p at *
   generalize rd_T32 l kk = x at *
   obtain ⟨x0, x1, x2⟩ := x
   dsimp only at *
   have hwp : wrap64 (p + x1) = p + x1 := by unfold wrap64; omega
   obtain ⟨Z1, hZ1⟩ : ∃ Z, Z = a - x0 := ⟨_, rfl⟩
   obtain ⟨Z2, hZ2⟩ : ∃ Z, Z = b - x0 := ⟨_, rfl⟩
   replace hZ1 := Aside0.mk hZ1
   replace hZ2 := Aside0.mk hZ2
   go_wp2
   go_quiet (fail)
   have HB5 := Aside0.mk (pw_below_drewN HB.out nq)
   have HO5 := Aside0.mk (Kd.R_drewN HO.out nq)
   have HX5 := Aside0.mk (blk_drewN HX3.out nq)
   generalize wr.drewN nq = w5 at *
   have e1 : (if x0 < a then a - x0 else 0) = mx 0 Z1 := by rw [hZ1.out]; unfold mx; split <;> split <;> omega
   have e2 : (if b - x0 < x1 then b - x0 else x1) = mn x1 Z2 := by rw [hZ2.out]; rfl
   rw [e1, e2]
   clear e1 e2
   obtain ⟨ad5, e5, hy0, hy1, hy2⟩ := HAT.out HB5.out
   obtain rfl := Option.some.inj e5
   simp only [Int.toNat_natCast] at hy0 hy1 hy2
   clear hxa hxb hz0 hz1 hz2
   have hxa : w5.cell? ⟨w.heap.size, 0, none⟩ = some (.int .i64 a) := blk_cell HX5.out 0
   have hxb : w5.cell? ⟨w.heap.size, 1, none⟩ = some (.int .i64 b) := blk_cell HX5.out 1
   cases x2 with
   | true =>
    rw [findS_bwd p x0 x1 a b hv] at hpn
    generalize mx 0 Z1 = Q1
    generalize mn x1 Z2 = Q2
    clear hZ1 hZ2
    obtain ⟨Y1, hY1⟩ : ∃ Z, Z = x0 - b + 1 := ⟨_, rfl⟩
    obtain ⟨Y2, hY2⟩ : ∃ Z, Z = x0 - a + 1 := ⟨_, rfl⟩
    rw [← hY1, ← hY2] at hpn
    have hm1 : 0 ≤ mx 0 Y1 := by unfold mx; split <;> omega
    have hm2 : mn x1 Y2 ≤ 17179869184 := by unfold mn; split <;> omega
    have hm3 : mx 0 Y1 ≤ 17179869185 := by unfold mx; split <;> omega
    have hm4 : -17179869184 ≤ mn x1 Y2 := by unfold mn; split <;> omega
    replace hY1 := Aside0.mk hY1
    replace hY2 := Aside0.mk hY2
    go_wp2
    go_quiet (fail)
    have HB6 := Aside0.mk (pw_below_drewN HB5.out nq)
    have HO6 := Aside0.mk (Kd.R_drewN HO5.out nq)
    have HX6 := Aside0.mk (blk_drewN HX5.out nq)
    generalize w5.drewN nq = w6 at *
    obtain ⟨ad6, e6, hu0, hu1, hu2⟩ := HAT.out HB6.out
    obtain rfl := Option.some.inj e6
    simp only [Int.toNat_natCast] at hu0 hu1 hu2
    clear hxa hxb hy0 hy1 hy2
    have e1 : (if 0 < x0 - b + 1 then x0 - b + 1 else 0) = mx 0 Y1 := by rw [hY1.out]; rfl
    have e2 : (if x0 - a + 1 < x1 then x0 - a + 1 else x1) = mn x1 Y2 := by rw [hY2.out]; rfl
    rw [e1, e2]
    clear e1 e2 hY1 hY2
    generalize mx 0 Y1 = A at *
    generalize mn x1 Y2 = C at *
    by_cases hAC : A < C
    ·have hACb : decide (A < C) = true := decide_eq_true hAC
     rw [if_pos hAC] at hpn
     have f8 : wrap64 (p + A) = p + A := by unfold wrap64; omega
     have f9 : wrap64 (p + C) = p + C := by unfold wrap64; omega
     go_wp2_with (at_builtin; (refine Kd.R_append k37 (w0 := w) w.heap.size rfl (.tmp 94) (.tmp 102) 41 37 (.agg #[.int .i64 0, .int .i64 0]) 16 rfl Try.underlying41 info37 (by decide) (by decide) (by decide) (.slice A7 O.length c7) O ⟨p + A, p + C⟩ [.int .i64 (p + A), .int .i64 (p + C)] (fun k => k ≠ w.heap.size) (fun _ => False) rfl ?ax (k37_mkM _ _ _ _) (fun _ h => h.elim) ?af HO6.out HB6.out HB6.out.size (by omega) ?_; (case ax => first | rfl | (simp; done) | (simp; rfl)); (case af => exact fun k hk => by have h1 := blk_lt HX6.out; omega); intro v' w8 hr8 hb8 hg8 hat8; have HO8 := Aside0.mk hr8; have HB8 := Aside0.mk hb8; have HX8 := Aside0.mk (blk_grown HX6.out hg8 (Kd.R_away HO6.out (fun _ hk => hk))); clear hr8 hb8 hg8 hat8; obtain ⟨ad8, e8, hq0, hq1, hq2⟩ := HAT.out HB8.out; obtain rfl := Option.some.inj e8; simp only [Int.toNat_natCast] at hq0 hq1 hq2))
     go_roundw
     case rel => exact ⟨kk + 1, by go_num, by rw [htn.out], ⟨by omega⟩, ⟨by rw [hpn.out]; exact HO8.out⟩, HX8, HB8⟩
     case measure => simp [intOf]; omega
    ·have hACb : decide (A < C) = false := decide_eq_false hAC
     rw [if_neg hAC, List.append_nil] at hpn
     go_wp2
     go_roundw
     case rel => exact ⟨kk + 1, by go_num, by rw [htn.out], ⟨by omega⟩, ⟨by rw [hpn.out]; exact HO6.out⟩, HX6, HB6⟩
     case measure => simp [intOf]; omega
   | false =>
    rw [findS_fwd p x0 x1 a b hv] at hpn
    have HB6 := HB5
    have HO6 := HO5
    have HX6 := HX5
    rw [← hZ1.out, ← hZ2.out] at hpn
    have hz1_ := hZ1.out
    have hz2_ := hZ2.out
    have hm1 : 0 ≤ mx 0 Z1 := by unfold mx; split <;> omega
    have hm2 : mn x1 Z2 ≤ 17179869184 := by unfold mn; split <;> omega
    have hm3 : mx 0 Z1 ≤ 17179869184 := by unfold mx; split <;> omega
    have hm4 : -17179869184 ≤ mn x1 Z2 := by unfold mn; split <;> omega
    clear hz1_ hz2_ hZ1 hZ2
    generalize mx 0 Z1 = A at *
    generalize mn x1 Z2 = C at *
    by_cases hAC : A < C
    ·have hACb : decide (A < C) = true := decide_eq_true hAC
     rw [if_pos hAC] at hpn
     have f8 : wrap64 (p + A) = p + A := by unfold wrap64; omega
     have f9 : wrap64 (p + C) = p + C := by unfold wrap64; omega
     go_wp2_with (at_builtin; (refine Kd.R_append k37 (w0 := w) w.heap.size rfl (.tmp 94) (.tmp 102) 41 37 (.agg #[.int .i64 0, .int .i64 0]) 16 rfl Try.underlying41 info37 (by decide) (by decide) (by decide) (.slice A7 O.length c7) O ⟨p + A, p + C⟩ [.int .i64 (p + A), .int .i64 (p + C)] (fun k => k ≠ w.heap.size) (fun _ => False) rfl ?ax (k37_mkM _ _ _ _) (fun _ h => h.elim) ?af HO6.out HB6.out HB6.out.size (by omega) ?_; (case ax => first | rfl | (simp; done) | (simp; rfl)); (case af => exact fun k hk => by have h1 := blk_lt HX6.out; omega); intro v' w8 hr8 hb8 hg8 hat8; have HO8 := Aside0.mk hr8; have HB8 := Aside0.mk hb8; have HX8 := Aside0.mk (blk_grown HX6.out hg8 (Kd.R_away HO6.out (fun _ hk => hk))); clear hr8 hb8 hg8 hat8; obtain ⟨ad8, e8, hq0, hq1, hq2⟩ := HAT.out HB8.out; obtain rfl := Option.some.inj e8; simp only [Int.toNat_natCast] at hq0 hq1 hq2))
     go_roundw
     case rel => exact ⟨kk + 1, by go_num, by rw [htn.out], ⟨by omega⟩, ⟨by rw [hpn.out]; exact HO8.out⟩, HX8, HB8⟩
     case measure => simp [intOf]; omega
    ·have hACb : decide (A < C) = false := decide_eq_false hAC
     rw [if_neg hAC, List.append_nil] at hpn
     go_wp2
     go_roundw
     case rel => exact ⟨kk + 1, by go_num, by rw [htn.out], ⟨by omega⟩, ⟨by rw [hpn.out]; exact HO6.out⟩, HX6, HB6⟩
     case measure => simp [intOf]; omega
  ·have hd0 : decide (kk < l.length) = false := by simpa using hk
   have hfin : l.take kk = l := List.take_of_length_le (by omega)
   rw [hfin] at HO
   clear hfin
   obtain ⟨A7, c7, e7⟩ := Kd.R_slice HO.out
   subst e7
   go_wp2_with (go_at_call 59; (with_reducible refine (papermillref04_Norm.calls kn A7 c7 (findL 0 a b l) r1 r2 _ (Kd.R_reads' HO.out).2.2 (Kd.R_reads' HO.out).2.1 HKN.out).mono ?_); rintro e w7 ⟨v7, rfl, ho7, hb7⟩; have HO7 := Aside0.mk (Kd.R_lower ho7 HB.out.size); have HB7 := Aside0.mk (below_then HB.out HB.out.size hb7); clear ho7 hb7)
   refine bodyPost_ret (results_tmp2 rfl _ _ _) rfl ?_
   exact ⟨_, rfl, HO7.out, HB7.out⟩
set_option maxRecDepth 100000 in
set_option maxHeartbeats 16000000 in
theorem rfind_main (A0 : Option Addr) (c0 : Nat) (l : List S32) (a b : Int) (w : World) (hr : Kd.C k32 w A0 l.length l) (hc : l.length ≤ c0) :
  Calls Try.prog 32 #[.slice A0 l.length c0, .agg #[.int .i64 a, .int .i64 b]] w fun e w' => ∃ v, e = .returned (.tuple #[v, .int .i64 (find13 l a b).2]) ∧ Kd.R k37 37 w' w.heap.size (fun _ => True) v (find13 l a b).1 ∧ Below w.heap.size w w' := by
 unfold find13
 by_cases h0 : check13 l = 0
 ·rw [if_pos h0]
  by_cases hbad : a < 0 ∨ a > b ∨ b > 17179869184
  ·rw [if_pos hbad]
   have HBX := Aside0.mk ((Below.refl w.heap.size w).alloc (Nat.le_refl _) (.cells #[.int .i64 a, .int .i64 b] 37))
   have HR := Aside0.mk (Kd.C_below hr HBX.out)
   have HX0 := Aside0.mk (World.alloc_heap_new w (.cells #[.int .i64 a, .int .i64 b] 37))
   have HC := Aside0.mk hc
   clear hr hc
   obtain ⟨k1, hk1⟩ := (rcheck_ends l).get
   rw [h0] at hk1
   have HK1 := Aside0.mk hk1
   clear hk1
   have hx : (decide (a < 0) || (decide (b < a) || decide (17179869184 < b))) = true := by simpa using hbad
   have h3 : decide (a < 0) = true ∨ decide (a < 0) = false := by cases decide (a < 0) <;> simp
   clear hbad
   rcases h3 with h3 | h3
   ·clear hx
    go_enter Try.func32, Try.ntmps32
    go_wp2_with (go_at_call 15; (with_reducible refine (papermillref13_Check.calls k1 A0 c0 l 0 _ HR.out HC.out HK1.out).mono ?_); rintro e w1 ⟨rfl, hb⟩; have HB1 := Aside0.mk (HBX.out.trans (hb.mono HBX.out.size)); have HX := Aside0.mk (blk_below HX0.out hb); have hxa : w1.cell? ⟨w.heap.size, 0, none⟩ = some (.int .i64 a) := (blk_cell HX.out 0); have hxb : w1.cell? ⟨w.heap.size, 1, none⟩ = some (.int .i64 b) := (blk_cell HX.out 1); clear hb)
    refine bodyPost_ret (results_tmp2 rfl _ _ _) rfl ?_
    exact ⟨.slice none 0 0, rfl, Kd.R_nil _ _ _ _ _, HB1.out⟩
   ·rw [h3, Bool.false_or] at hx
    have h4 : decide (b < a) = true ∨ decide (b < a) = false := by cases decide (b < a) <;> simp
    rcases h4 with h4 | h4
    ·clear hx
     go_enter Try.func32, Try.ntmps32
     go_wp2_with (go_at_call 15; (with_reducible refine (papermillref13_Check.calls k1 A0 c0 l 0 _ HR.out HC.out HK1.out).mono ?_); rintro e w1 ⟨rfl, hb⟩; have HB1 := Aside0.mk (HBX.out.trans (hb.mono HBX.out.size)); have HX := Aside0.mk (blk_below HX0.out hb); have hxa : w1.cell? ⟨w.heap.size, 0, none⟩ = some (.int .i64 a) := (blk_cell HX.out 0); have hxb : w1.cell? ⟨w.heap.size, 1, none⟩ = some (.int .i64 b) := (blk_cell HX.out 1); clear hb)
     refine bodyPost_ret (results_tmp2 rfl _ _ _) rfl ?_
     exact ⟨.slice none 0 0, rfl, Kd.R_nil _ _ _ _ _, HB1.out⟩
    ·rw [h4, Bool.false_or] at hx
     go_enter Try.func32, Try.ntmps32
     go_wp2_with (go_at_call 15; (with_reducible refine (papermillref13_Check.calls k1 A0 c0 l 0 _ HR.out HC.out HK1.out).mono ?_); rintro e w1 ⟨rfl, hb⟩; have HB1 := Aside0.mk (HBX.out.trans (hb.mono HBX.out.size)); have HX := Aside0.mk (blk_below HX0.out hb); have hxa : w1.cell? ⟨w.heap.size, 0, none⟩ = some (.int .i64 a) := (blk_cell HX.out 0); have hxb : w1.cell? ⟨w.heap.size, 1, none⟩ = some (.int .i64 b) := (blk_cell HX.out 1); clear hb)
     refine bodyPost_ret (results_tmp2 rfl _ _ _) rfl ?_
     exact ⟨.slice none 0 0, rfl, Kd.R_nil _ _ _ _ _, HB1.out⟩
  ·rw [if_neg hbad]
   exact rfind_far A0 c0 l a b w hr hc h0 (fun h => hbad (.inl h)) (fun h => hbad (.inr (.inl h))) (fun h => hbad (.inr (.inr h)))
 ·have HBX := Aside0.mk ((Below.refl w.heap.size w).alloc (Nat.le_refl _) (.cells #[.int .i64 a, .int .i64 b] 37))
  have HR := Aside0.mk (Kd.C_below hr HBX.out)
  have HC := Aside0.mk hc
  obtain ⟨k1, hk1⟩ := (rcheck_ends l).get
  have HK1 := Aside0.mk hk1
  have hne : (check13 l == 0) = false := by simpa using h0
  have hne1 : (check13 l != 0) = true := by simpa using h0
  rw [if_neg h0]
  clear hk1 h0 hr hc
  generalize check13 l = q at *
  go_enter Try.func32, Try.ntmps32
  go_wp2_with (go_at_call 15; (with_reducible refine (papermillref13_Check.calls k1 A0 c0 l q _ HR.out HC.out HK1.out).mono ?_); rintro e w1 ⟨rfl, hb⟩; have HB1 := Aside0.mk (HBX.out.trans (hb.mono HBX.out.size)); clear hb)
  refine bodyPost_ret (results_tmp2 rfl _ _ _) rfl ?_
  exact ⟨_, rfl, Kd.R_nil _ _ _ _ _, HB1.out⟩
theorem papermillref13_Find.calls (A0 : Option Addr) (c0 : Nat) (l0 : List (S32)) (a1_0 a1_1 : Int) (r1 : List (S37)) (r2 : Int) (w : World) (hr0 : Kd.C k32 w A0 l0.length l0) (hc0 : l0.length ≤ c0) (h : papermillref13_Find.f l0 a1_0 a1_1 = some (r1, r2)) :
  Calls Try.prog 32 #[.slice A0 l0.length c0, .agg #[.int .i64 a1_0, .int .i64 a1_1]] w fun e w' => ∃ v0_ : Value, e = .returned (.tuple #[v0_, .int .i64 r2]) ∧ Kd.R k37 37 w' w.heap.size (fun _ => True) v0_ r1 ∧ Below w.heap.size w w' := by
 have e : find13 l0 a1_0 a1_1 = (r1, r2) := Option.some.inj h
 have := rfind_main A0 c0 l0 a1_0 a1_1 w hr0 hc0
 rw [e] at this
 exact this
end Go.Proofs.Ytcnkmdonbpgjiaa.G

namespace Go.Proofs.Ytcnkmdonbpgjiaa.G
open Go.RowKit Go.Proofs.YtcnkmdonbpgjiaaW.PrintWords Go.Proofs.YtcnkmdonbpgjiaaW.PrintLast Go.Proofs.YtcnkmdonbpgjiaaW.PrintMore
attribute [local go_sem] max2_int min2_int max_two min_two max_three min_three max_four min_four   -- for this text's walks alone
set_option linter.unusedVariables false
set_option linter.unusedSimpArgs false

def papermilllaw13_IsoImages.j0 : Nat → List (S32) → Bool → Int → Int → Option (Bool)
 | 0, _, _, _, _ => none
 | k + 1, x0, x90, x8002000, x8002001 => if x90 = true then none else ((iso_Image.f k x0).bind fun bt8021 => ((papermillref13_Image.f k x0).bind fun bt8025 => ((iso_Find.f x0 x8002000 x8002001).bind fun bt8029 => ((papermillref13_Find.f x0 x8002000 x8002001).bind fun bt8033 => ((papermillref04_Same.f k bt8021.1 bt8025.1).bind fun t8037 => (if t8037 = true then (if bt8021.2 = bt8025.2 then ((papermillref04_Same.f k bt8029.1 bt8033.1).bind fun t8038 => (if t8038 = true then (if bt8029.2 = bt8033.2 then ((papermilllaw13_awake.f).bind fun t8039 => (some t8039)) else none) else none)) else none) else none))))))
def papermilllaw13_IsoImages.f (k : Nat) (l0 : List (S32)) (a1 : Int) (a2_0 : Int) (a2_1 : Int) : Option (Bool) := (papermilllaw13_great.f l0).bind fun t8002 => (if t8002 = true then ((papermilllaw13_awake.f).bind fun t8003 => (some t8003)) else ((iso_Length.f k l0).bind fun bt8004 => ((papermillref13_Length.f k l0).bind fun bt8006 => ((iso_At.f l0 a1).bind fun bt8008 => ((papermillref13_At.f k l0 a1).bind fun bt8010 => ((iso_Norm.f l0).bind fun bt8012 => ((papermillref13_Norm.f k l0).bind fun bt8016 => (if bt8004.1 = bt8006.1 then (if bt8004.2 = bt8006.2 then (if bt8008.1 = bt8010.1 then (if bt8008.2 = bt8010.2 then ((papermillref13_Same.f k bt8012.1 bt8016.1).bind fun t8020 => (if t8020 = true then (papermilllaw13_IsoImages.j0 k l0 (bt8012.2 != bt8016.2) a2_0 a2_1) else (papermilllaw13_IsoImages.j0 k l0 true a2_0 a2_1))) else (papermilllaw13_IsoImages.j0 k l0 true a2_0 a2_1)) else (papermilllaw13_IsoImages.j0 k l0 true a2_0 a2_1)) else (papermilllaw13_IsoImages.j0 k l0 true a2_0 a2_1)) else (papermilllaw13_IsoImages.j0 k l0 true a2_0 a2_1)))))))))
set_option maxHeartbeats 8000000 in
set_option maxRecDepth 100000 in
theorem papermilllaw13_IsoImages.calls (k : Nat) (A0 : Option Addr) (c0 : Nat) (l0 : List (S32)) (a1 : Int) (a2_0 : Int) (a2_1 : Int) (r : Bool) (w : World) (hr0 : Kd.C k32 w A0 l0.length l0) (hc0 : l0.length ≤ c0) (h : papermilllaw13_IsoImages.f k l0 a1 a2_0 a2_1 = some r) :
  Calls Try.prog 7 #[.slice A0 l0.length c0, .int .i64 a1, .agg #[.int .i64 a2_0, .int .i64 a2_1]] w fun e w' => e = .returned (.bool r) ∧ Below w.heap.size w w' := by
 have hu37 := Try.underlying37
 have HR0 := Aside0.mk hr0
 have HC0 := Aside0.mk hc0
 clear hr0 hc0
 have HB := Aside0.mk (Below.refl w.heap.size w)
 have H : ((papermilllaw13_great.f l0).bind fun t8002 => (if t8002 = true then ((papermilllaw13_awake.f).bind fun t8003 => (some t8003)) else ((iso_Length.f k l0).bind fun bt8004 => ((papermillref13_Length.f k l0).bind fun bt8006 => ((iso_At.f l0 a1).bind fun bt8008 => ((papermillref13_At.f k l0 a1).bind fun bt8010 => ((iso_Norm.f l0).bind fun bt8012 => ((papermillref13_Norm.f k l0).bind fun bt8016 => (if bt8004.1 = bt8006.1 then (if bt8004.2 = bt8006.2 then (if bt8008.1 = bt8010.1 then (if bt8008.2 = bt8010.2 then ((papermillref13_Same.f k bt8012.1 bt8016.1).bind fun t8020 => (if t8020 = true then (papermilllaw13_IsoImages.j0 k l0 (bt8012.2 != bt8016.2) a2_0 a2_1) else (papermilllaw13_IsoImages.j0 k l0 true a2_0 a2_1))) else (papermilllaw13_IsoImages.j0 k l0 true a2_0 a2_1)) else (papermilllaw13_IsoImages.j0 k l0 true a2_0 a2_1)) else (papermilllaw13_IsoImages.j0 k l0 true a2_0 a2_1)) else (papermilllaw13_IsoImages.j0 k l0 true a2_0 a2_1)))))))))) = some r := h
 clear h
 replace H := Option.bind_eq_some_iff.mp H
 obtain ⟨t8002, A40, H⟩ := H
 replace H : (if t8002 = true then ((papermilllaw13_awake.f).bind fun t8003 => (some t8003)) else ((iso_Length.f k l0).bind fun bt8004 => ((papermillref13_Length.f k l0).bind fun bt8006 => ((iso_At.f l0 a1).bind fun bt8008 => ((papermillref13_At.f k l0 a1).bind fun bt8010 => ((iso_Norm.f l0).bind fun bt8012 => ((papermillref13_Norm.f k l0).bind fun bt8016 => (if bt8004.1 = bt8006.1 then (if bt8004.2 = bt8006.2 then (if bt8008.1 = bt8010.1 then (if bt8008.2 = bt8010.2 then ((papermillref13_Same.f k bt8012.1 bt8016.1).bind fun t8020 => (if t8020 = true then (papermilllaw13_IsoImages.j0 k l0 (bt8012.2 != bt8016.2) a2_0 a2_1) else (papermilllaw13_IsoImages.j0 k l0 true a2_0 a2_1))) else (papermilllaw13_IsoImages.j0 k l0 true a2_0 a2_1)) else (papermilllaw13_IsoImages.j0 k l0 true a2_0 a2_1)) else (papermilllaw13_IsoImages.j0 k l0 true a2_0 a2_1)) else (papermilllaw13_IsoImages.j0 k l0 true a2_0 a2_1))))))))) = some r := H
 have A4 := Aside0.mk A40
 clear A40
 by_cases c5 : t8002 = true
 ·subst c5
  have H1 : ((papermilllaw13_awake.f).bind fun t8003 => (some t8003)) = some r := by rw [if_pos rfl] at H; exact H
  clear H
  have H := H1
  clear H1
  replace H := Option.bind_eq_some_iff.mp H
  obtain ⟨t8003, A60, H⟩ := H
  replace H : (some t8003) = some r := H
  have A6 := Aside0.mk A60
  clear A60
  obtain rfl := Option.some.inj H
  go_enter Try.func7, Try.ntmps7
  go_wp2_with (first | ((with_reducible refine gate_dst (N := 5) rfl ?_); refine box_event ?hg (N := 5) ?hd (cs := #[.int .i64 a2_0, .int .i64 a2_1]) (t := 37) ?hr ?_; (case hd => rfl); (case hg => rfl); (case hr => first | (go_simp; done) | (go_simp; rfl)); intro gb8001 hg w7 hbox hb; have n0_ := Aside0.mk (below_step (by repeat (first | (with_reducible first | exact HB.out | apply below_alloc | apply pw_below_drewN | apply below_drew1) | exact HB.out)) hb); have n1_ := Aside0.mk (hbox); have n2_ := Aside0.mk ((by rw [hg]; exact (below_size (by repeat (first | (with_reducible first | exact HB.out | apply below_alloc | apply pw_below_drewN | apply below_drew1) | exact HB.out))) : w.heap.size ≤ gb8001)); have n3_ := Aside0.mk ((by rw [hg]; exact (below_size (by repeat (first | (with_reducible first | exact HB.out | apply below_alloc | apply pw_below_drewN | apply below_drew1) | exact HB.out))) : w.heap.size ≤ gb8001)); clear HB; have HB := n0_; have BK8001 := n1_; have GW8001 := n2_; have GE8001 := n3_; clear n0_ n1_ n2_ n3_; clear hb hbox hg) | ((with_reducible refine gate_callee (f := 12) rfl ?_); refine goesL_ (some 28) rfl rfl Try.func12 (by kernel_rfl) rfl #[.slice A0 l0.length c0] rfl (by (try simp only [List.map_toArray, List.map_cons, List.map_nil]); first | done | rfl | (simp only [List.length_drop, List.length_take]; rfl)) ?_; (with_reducible refine (papermilllaw13_great.calls _ _ l0 true _ ?side1 ?side2 A4.out).mono ?_); (case side1 => repeat (first | exact (Kd.C_below HR0.out HB.out) | (with_reducible refine Kd.C_alloc ?_ _) | (with_reducible refine Kd.C_drewN ?_ _) | (with_reducible refine Kd.C_drew ?_))); (case side2 => exact HC0.out); rintro e w' ⟨rfl, ⟨nd, rfl⟩⟩; refine ⟨_, rfl, ?_⟩) | ((with_reducible refine gate_callee (f := 13) rfl ?_); refine goesL_ (some 29) rfl rfl Try.func13 (by kernel_rfl) rfl #[] rfl (by (try simp only [List.map_toArray, List.map_cons, List.map_nil]); first | done | rfl | (simp only [List.length_drop, List.length_take]; rfl)) ?_; (with_reducible refine (papermilllaw13_awake.calls  t8003 _ A6.out).mono ?_); rintro e w8 ⟨rfl, hb⟩; refine ⟨_, rfl, ?_⟩; have n0_ := Aside0.mk (blk_below (g := gb8001) (o := .cells #[.int .i64 a2_0, .int .i64 a2_1] 37 (0, 0)) (by (with_reducible repeat (first | refine blk_drewN ?_ _ | refine blk_drew ?_ | refine blk_alloc ?_ _)); exact BK8001.out) hb); have n1_ := Aside0.mk (below_step (by repeat (first | (with_reducible first | exact HB.out | apply below_alloc | apply pw_below_drewN | apply below_drew1 | refine below_set ?_ GE8001.out) | exact HB.out)) hb); clear BK8001; clear HB; have BK8001 := n0_; have HB := n1_; clear n0_ n1_; (try clear hb); (try clear hb2); (try clear hk); (try clear hi)))
  go_ret
  exact ⟨by first | rfl | (simp [errW_none, errW_some] <;> rfl) | (simp [*, errW_none, errW_some] <;> rfl), by repeat (first | (with_reducible first | exact HB.out | apply below_alloc | apply pw_below_drewN | apply below_drew1 | refine below_set ?_ GE8001.out) | exact HB.out)⟩
 ·replace c5 := Bool.eq_false_iff.mpr c5
  subst c5
  have H1 : ((iso_Length.f k l0).bind fun bt8004 => ((papermillref13_Length.f k l0).bind fun bt8006 => ((iso_At.f l0 a1).bind fun bt8008 => ((papermillref13_At.f k l0 a1).bind fun bt8010 => ((iso_Norm.f l0).bind fun bt8012 => ((papermillref13_Norm.f k l0).bind fun bt8016 => (if bt8004.1 = bt8006.1 then (if bt8004.2 = bt8006.2 then (if bt8008.1 = bt8010.1 then (if bt8008.2 = bt8010.2 then ((papermillref13_Same.f k bt8012.1 bt8016.1).bind fun t8020 => (if t8020 = true then (papermilllaw13_IsoImages.j0 k l0 (bt8012.2 != bt8016.2) a2_0 a2_1) else (papermilllaw13_IsoImages.j0 k l0 true a2_0 a2_1))) else (papermilllaw13_IsoImages.j0 k l0 true a2_0 a2_1)) else (papermilllaw13_IsoImages.j0 k l0 true a2_0 a2_1)) else (papermilllaw13_IsoImages.j0 k l0 true a2_0 a2_1)) else (papermilllaw13_IsoImages.j0 k l0 true a2_0 a2_1)))))))) = some r := by rw [if_neg (show ¬ (false = true) by decide)] at H; first | exact H | simpa using H
  clear H
  have H := H1
  clear H1
  replace H := Option.bind_eq_some_iff.mp H
  obtain ⟨⟨t8004, t8005⟩, A90, H⟩ := H
  replace H : ((papermillref13_Length.f k l0).bind fun bt8006 => ((iso_At.f l0 a1).bind fun bt8008 => ((papermillref13_At.f k l0 a1).bind fun bt8010 => ((iso_Norm.f l0).bind fun bt8012 => ((papermillref13_Norm.f k l0).bind fun bt8016 => (if t8004 = bt8006.1 then (if t8005 = bt8006.2 then (if bt8008.1 = bt8010.1 then (if bt8008.2 = bt8010.2 then ((papermillref13_Same.f k bt8012.1 bt8016.1).bind fun t8020 => (if t8020 = true then (papermilllaw13_IsoImages.j0 k l0 (bt8012.2 != bt8016.2) a2_0 a2_1) else (papermilllaw13_IsoImages.j0 k l0 true a2_0 a2_1))) else (papermilllaw13_IsoImages.j0 k l0 true a2_0 a2_1)) else (papermilllaw13_IsoImages.j0 k l0 true a2_0 a2_1)) else (papermilllaw13_IsoImages.j0 k l0 true a2_0 a2_1)) else (papermilllaw13_IsoImages.j0 k l0 true a2_0 a2_1))))))) = some r := H
  have A9 := Aside0.mk A90
  clear A90
  replace H := Option.bind_eq_some_iff.mp H
  obtain ⟨⟨t8006, t8007⟩, A100, H⟩ := H
  replace H : ((iso_At.f l0 a1).bind fun bt8008 => ((papermillref13_At.f k l0 a1).bind fun bt8010 => ((iso_Norm.f l0).bind fun bt8012 => ((papermillref13_Norm.f k l0).bind fun bt8016 => (if t8004 = t8006 then (if t8005 = t8007 then (if bt8008.1 = bt8010.1 then (if bt8008.2 = bt8010.2 then ((papermillref13_Same.f k bt8012.1 bt8016.1).bind fun t8020 => (if t8020 = true then (papermilllaw13_IsoImages.j0 k l0 (bt8012.2 != bt8016.2) a2_0 a2_1) else (papermilllaw13_IsoImages.j0 k l0 true a2_0 a2_1))) else (papermilllaw13_IsoImages.j0 k l0 true a2_0 a2_1)) else (papermilllaw13_IsoImages.j0 k l0 true a2_0 a2_1)) else (papermilllaw13_IsoImages.j0 k l0 true a2_0 a2_1)) else (papermilllaw13_IsoImages.j0 k l0 true a2_0 a2_1)))))) = some r := H
  have A10 := Aside0.mk A100
  clear A100
  replace H := Option.bind_eq_some_iff.mp H
  obtain ⟨⟨t8008, t8009⟩, A110, H⟩ := H
  replace H : ((papermillref13_At.f k l0 a1).bind fun bt8010 => ((iso_Norm.f l0).bind fun bt8012 => ((papermillref13_Norm.f k l0).bind fun bt8016 => (if t8004 = t8006 then (if t8005 = t8007 then (if t8008 = bt8010.1 then (if t8009 = bt8010.2 then ((papermillref13_Same.f k bt8012.1 bt8016.1).bind fun t8020 => (if t8020 = true then (papermilllaw13_IsoImages.j0 k l0 (bt8012.2 != bt8016.2) a2_0 a2_1) else (papermilllaw13_IsoImages.j0 k l0 true a2_0 a2_1))) else (papermilllaw13_IsoImages.j0 k l0 true a2_0 a2_1)) else (papermilllaw13_IsoImages.j0 k l0 true a2_0 a2_1)) else (papermilllaw13_IsoImages.j0 k l0 true a2_0 a2_1)) else (papermilllaw13_IsoImages.j0 k l0 true a2_0 a2_1))))) = some r := H
  have A11 := Aside0.mk A110
  clear A110
  replace H := Option.bind_eq_some_iff.mp H
  obtain ⟨⟨t8010, t8011⟩, A120, H⟩ := H
  replace H : ((iso_Norm.f l0).bind fun bt8012 => ((papermillref13_Norm.f k l0).bind fun bt8016 => (if t8004 = t8006 then (if t8005 = t8007 then (if t8008 = t8010 then (if t8009 = t8011 then ((papermillref13_Same.f k bt8012.1 bt8016.1).bind fun t8020 => (if t8020 = true then (papermilllaw13_IsoImages.j0 k l0 (bt8012.2 != bt8016.2) a2_0 a2_1) else (papermilllaw13_IsoImages.j0 k l0 true a2_0 a2_1))) else (papermilllaw13_IsoImages.j0 k l0 true a2_0 a2_1)) else (papermilllaw13_IsoImages.j0 k l0 true a2_0 a2_1)) else (papermilllaw13_IsoImages.j0 k l0 true a2_0 a2_1)) else (papermilllaw13_IsoImages.j0 k l0 true a2_0 a2_1)))) = some r := H
  have A12 := Aside0.mk A120
  clear A120
  replace H := Option.bind_eq_some_iff.mp H
  obtain ⟨⟨t8012, t8013⟩, A130, H⟩ := H
  replace H : ((papermillref13_Norm.f k l0).bind fun bt8016 => (if t8004 = t8006 then (if t8005 = t8007 then (if t8008 = t8010 then (if t8009 = t8011 then ((papermillref13_Same.f k t8012 bt8016.1).bind fun t8020 => (if t8020 = true then (papermilllaw13_IsoImages.j0 k l0 (t8013 != bt8016.2) a2_0 a2_1) else (papermilllaw13_IsoImages.j0 k l0 true a2_0 a2_1))) else (papermilllaw13_IsoImages.j0 k l0 true a2_0 a2_1)) else (papermilllaw13_IsoImages.j0 k l0 true a2_0 a2_1)) else (papermilllaw13_IsoImages.j0 k l0 true a2_0 a2_1)) else (papermilllaw13_IsoImages.j0 k l0 true a2_0 a2_1))) = some r := H
  have A13 := Aside0.mk A130
  clear A130
  replace H := Option.bind_eq_some_iff.mp H
  obtain ⟨⟨t8016, t8017⟩, A140, H⟩ := H
  replace H : (if t8004 = t8006 then (if t8005 = t8007 then (if t8008 = t8010 then (if t8009 = t8011 then ((papermillref13_Same.f k t8012 t8016).bind fun t8020 => (if t8020 = true then (papermilllaw13_IsoImages.j0 k l0 (t8013 != t8017) a2_0 a2_1) else (papermilllaw13_IsoImages.j0 k l0 true a2_0 a2_1))) else (papermilllaw13_IsoImages.j0 k l0 true a2_0 a2_1)) else (papermilllaw13_IsoImages.j0 k l0 true a2_0 a2_1)) else (papermilllaw13_IsoImages.j0 k l0 true a2_0 a2_1)) else (papermilllaw13_IsoImages.j0 k l0 true a2_0 a2_1)) = some r := H
  have A14 := Aside0.mk A140
  clear A140
  have HC15 := Aside0.mk H
  clear H
  go_enter Try.func7, Try.ntmps7
  go_upto_region 9 with (first | ((with_reducible refine gate_dst (N := 5) rfl ?_); refine box_event ?hg (N := 5) ?hd (cs := #[.int .i64 a2_0, .int .i64 a2_1]) (t := 37) ?hr ?_; (case hd => rfl); (case hg => rfl); (case hr => first | (go_simp; done) | (go_simp; rfl)); intro gb8001 hg w16 hbox hb; have n0_ := Aside0.mk (below_step (by repeat (first | (with_reducible first | exact HB.out | apply below_alloc | apply pw_below_drewN | apply below_drew1) | exact HB.out)) hb); have n1_ := Aside0.mk (hbox); have n2_ := Aside0.mk ((by rw [hg]; exact (below_size (by repeat (first | (with_reducible first | exact HB.out | apply below_alloc | apply pw_below_drewN | apply below_drew1) | exact HB.out))) : w.heap.size ≤ gb8001)); have n3_ := Aside0.mk ((by rw [hg]; exact (below_size (by repeat (first | (with_reducible first | exact HB.out | apply below_alloc | apply pw_below_drewN | apply below_drew1) | exact HB.out))) : w.heap.size ≤ gb8001)); clear HB; have HB := n0_; have BK8001 := n1_; have GW8001 := n2_; have GE8001 := n3_; clear n0_ n1_ n2_ n3_; clear hb hbox hg) | ((with_reducible refine gate_callee (f := 12) rfl ?_); refine goesL_ (some 28) rfl rfl Try.func12 (by kernel_rfl) rfl #[.slice A0 l0.length c0] rfl (by (try simp only [List.map_toArray, List.map_cons, List.map_nil]); first | done | rfl | (simp only [List.length_drop, List.length_take]; rfl)) ?_; (with_reducible refine (papermilllaw13_great.calls _ _ l0 false _ ?side1 ?side2 A4.out).mono ?_); (case side1 => repeat (first | exact (Kd.C_below HR0.out HB.out) | (with_reducible refine Kd.C_alloc ?_ _) | (with_reducible refine Kd.C_drewN ?_ _) | (with_reducible refine Kd.C_drew ?_))); (case side2 => exact HC0.out); rintro e w' ⟨rfl, ⟨nd, rfl⟩⟩; refine ⟨_, rfl, ?_⟩) | ((with_reducible refine gate_callee (f := 24) rfl ?_); refine goesL_ (some 32) rfl rfl Try.func24 (by kernel_rfl) rfl #[.slice A0 l0.length c0] rfl (by (try simp only [List.map_toArray, List.map_cons, List.map_nil]); first | done | rfl | (simp only [List.length_drop, List.length_take]; rfl)) ?_; (with_reducible refine (iso_Length.calls k _ _ l0 t8004 t8005 _ ?side1 ?side2 A9.out).mono ?_); (case side1 => repeat (first | exact (Kd.C_below HR0.out (by repeat (first | (with_reducible first | exact HB.out | apply below_alloc | apply pw_below_drewN | apply below_drew1 | refine below_set ?_ GE8001.out) | exact HB.out))) | (with_reducible refine Kd.C_alloc ?_ _) | (with_reducible refine Kd.C_drewN ?_ _) | (with_reducible refine Kd.C_drew ?_))); (case side2 => exact HC0.out); rintro e w17 ⟨rfl, hb⟩; refine ⟨_, rfl, ?_⟩; have n0_ := Aside0.mk (blk_below (g := gb8001) (o := .cells #[.int .i64 a2_0, .int .i64 a2_1] 37 (0, 0)) (by (with_reducible repeat (first | refine blk_drewN ?_ _ | refine blk_drew ?_ | refine blk_alloc ?_ _)); exact BK8001.out) hb); have n1_ := Aside0.mk (below_step (by repeat (first | (with_reducible first | exact HB.out | apply below_alloc | apply pw_below_drewN | apply below_drew1 | refine below_set ?_ GE8001.out) | exact HB.out)) hb); clear BK8001; clear HB; have BK8001 := n0_; have HB := n1_; clear n0_ n1_; (try clear hb); (try clear hb2); (try clear hk); (try clear hi)) | ((with_reducible refine gate_callee (f := 25) rfl ?_); refine goesL_ (some 37) rfl rfl Try.func25 (by kernel_rfl) rfl #[.slice A0 l0.length c0] rfl (by (try simp only [List.map_toArray, List.map_cons, List.map_nil]); first | done | rfl | (simp only [List.length_drop, List.length_take]; rfl)) ?_; (with_reducible refine (papermillref13_Length.calls k _ _ l0 t8006 t8007 _ ?side1 ?side2 A10.out).mono ?_); (case side1 => repeat (first | exact (Kd.C_below HR0.out HB.out) | (with_reducible refine Kd.C_alloc ?_ _) | (with_reducible refine Kd.C_drewN ?_ _) | (with_reducible refine Kd.C_drew ?_))); (case side2 => exact HC0.out); rintro e w18 ⟨rfl, hb⟩; refine ⟨_, rfl, ?_⟩; have n0_ := Aside0.mk (blk_below (g := gb8001) (o := .cells #[.int .i64 a2_0, .int .i64 a2_1] 37 (0, 0)) (by (with_reducible repeat (first | refine blk_drewN ?_ _ | refine blk_drew ?_ | refine blk_alloc ?_ _)); exact BK8001.out) hb); have n1_ := Aside0.mk (below_step (by repeat (first | (with_reducible first | exact HB.out | apply below_alloc | apply pw_below_drewN | apply below_drew1 | refine below_set ?_ GE8001.out) | exact HB.out)) hb); clear BK8001; clear HB; have BK8001 := n0_; have HB := n1_; clear n0_ n1_; (try clear hb); (try clear hb2); (try clear hk); (try clear hi)) | ((with_reducible refine gate_callee (f := 26) rfl ?_); refine goesL_ (some 43) rfl rfl Try.func26 (by kernel_rfl) rfl #[.slice A0 l0.length c0, .int .i64 a1] rfl (by (try simp only [List.map_toArray, List.map_cons, List.map_nil]); first | done | rfl | (simp only [List.length_drop, List.length_take]; rfl)) ?_; (with_reducible refine (iso_At.calls _ _ l0 a1 t8008 t8009 _ ?side1 ?side2 A11.out).mono ?_); (case side1 => repeat (first | exact (Kd.C_below HR0.out HB.out) | (with_reducible refine Kd.C_alloc ?_ _) | (with_reducible refine Kd.C_drewN ?_ _) | (with_reducible refine Kd.C_drew ?_))); (case side2 => exact HC0.out); rintro e w19 ⟨rfl, hb⟩; refine ⟨_, rfl, ?_⟩; have n0_ := Aside0.mk (blk_below (g := gb8001) (o := .cells #[.int .i64 a2_0, .int .i64 a2_1] 37 (0, 0)) (by (with_reducible repeat (first | refine blk_drewN ?_ _ | refine blk_drew ?_ | refine blk_alloc ?_ _)); exact BK8001.out) hb); have n1_ := Aside0.mk (below_step (by repeat (first | (with_reducible first | exact HB.out | apply below_alloc | apply pw_below_drewN | apply below_drew1 | refine below_set ?_ GE8001.out) | exact HB.out)) hb); clear BK8001; clear HB; have BK8001 := n0_; have HB := n1_; clear n0_ n1_; (try clear hb); (try clear hb2); (try clear hk); (try clear hi)) | ((with_reducible refine gate_callee (f := 27) rfl ?_); refine goesL_ (some 49) rfl rfl Try.func27 (by kernel_rfl) rfl #[.slice A0 l0.length c0, .int .i64 a1] rfl (by (try simp only [List.map_toArray, List.map_cons, List.map_nil]); first | done | rfl | (simp only [List.length_drop, List.length_take]; rfl)) ?_; (with_reducible refine (papermillref13_At.calls k _ _ l0 a1 t8010 t8011 _ ?side1 ?side2 A12.out).mono ?_); (case side1 => repeat (first | exact (Kd.C_below HR0.out HB.out) | (with_reducible refine Kd.C_alloc ?_ _) | (with_reducible refine Kd.C_drewN ?_ _) | (with_reducible refine Kd.C_drew ?_))); (case side2 => exact HC0.out); rintro e w20 ⟨rfl, hb⟩; refine ⟨_, rfl, ?_⟩; have n0_ := Aside0.mk (blk_below (g := gb8001) (o := .cells #[.int .i64 a2_0, .int .i64 a2_1] 37 (0, 0)) (by (with_reducible repeat (first | refine blk_drewN ?_ _ | refine blk_drew ?_ | refine blk_alloc ?_ _)); exact BK8001.out) hb); have n1_ := Aside0.mk (below_step (by repeat (first | (with_reducible first | exact HB.out | apply below_alloc | apply pw_below_drewN | apply below_drew1 | refine below_set ?_ GE8001.out) | exact HB.out)) hb); clear BK8001; clear HB; have BK8001 := n0_; have HB := n1_; clear n0_ n1_; (try clear hb); (try clear hb2); (try clear hk); (try clear hi)) | ((with_reducible refine gate_callee (f := 21) rfl ?_); refine goesL_ (some 54) rfl rfl Try.func21 (by kernel_rfl) rfl #[.slice A0 l0.length c0] rfl (by (try simp only [List.map_toArray, List.map_cons, List.map_nil]); first | done | rfl | (simp only [List.length_drop, List.length_take]; rfl)) ?_; (with_reducible refine (iso_Norm.calls _ _ l0 t8012 t8013 _ ?side1 ?side2 A13.out).mono ?_); (case side1 => repeat (first | exact (Kd.C_below HR0.out HB.out) | (with_reducible refine Kd.C_alloc ?_ _) | (with_reducible refine Kd.C_drewN ?_ _) | (with_reducible refine Kd.C_drew ?_))); (case side2 => exact HC0.out); rintro e w21 ⟨v8014, rfl, ho0, hb⟩; refine ⟨_, rfl, ?_⟩; have n0_ := Aside0.mk (Kd.R_lower ho0 (below_size (by repeat (first | (with_reducible first | exact HB.out | apply below_alloc | apply pw_below_drewN | apply below_drew1 | refine below_set ?_ GE8001.out) | exact HB.out)))); have n1_ := Aside0.mk (blk_below (g := gb8001) (o := .cells #[.int .i64 a2_0, .int .i64 a2_1] 37 (0, 0)) (by (with_reducible repeat (first | refine blk_drewN ?_ _ | refine blk_drew ?_ | refine blk_alloc ?_ _)); exact BK8001.out) hb); have n2_ := Aside0.mk (below_step (by repeat (first | (with_reducible first | exact HB.out | apply below_alloc | apply pw_below_drewN | apply below_drew1 | refine below_set ?_ GE8001.out) | exact HB.out)) hb); clear BK8001; clear HB; have HO8015 := n0_; have BK8001 := n1_; have HB := n2_; clear n0_ n1_ n2_; (try clear hb); (try clear hb2); (try clear hk); (try clear hi); (try clear ho0)) | ((with_reducible refine gate_callee (f := 28) rfl ?_); refine goesL_ (some 59) rfl rfl Try.func28 (by kernel_rfl) rfl #[.slice A0 l0.length c0] rfl (by (try simp only [List.map_toArray, List.map_cons, List.map_nil]); first | done | rfl | (simp only [List.length_drop, List.length_take]; rfl)) ?_; (with_reducible refine (papermillref13_Norm.calls k _ _ l0 t8016 t8017 _ ?side1 ?side2 A14.out).mono ?_); (case side1 => repeat (first | exact (Kd.C_below HR0.out HB.out) | (with_reducible refine Kd.C_alloc ?_ _) | (with_reducible refine Kd.C_drewN ?_ _) | (with_reducible refine Kd.C_drew ?_))); (case side2 => exact HC0.out); rintro e w22 ⟨v8018, rfl, ho0, hb⟩; refine ⟨_, rfl, ?_⟩; have n0_ := Aside0.mk (Kd.R_elder' (by (with_reducible repeat (first | apply Kd.R_alloc | apply Kd.R_drewN | apply Kd.R_drew)); exact HO8015.out) (Kd.R_base ho0) hb); have n1_ := Aside0.mk (Kd.R_lower (Kd.R_new' ho0 (Kd.R_lt (by (with_reducible repeat (first | apply Kd.R_alloc | apply Kd.R_drewN | apply Kd.R_drew)); exact HO8015.out))) (below_size (by repeat (first | (with_reducible first | exact HB.out | apply below_alloc | apply pw_below_drewN | apply below_drew1 | refine below_set ?_ GE8001.out) | exact HB.out)))); have n2_ := Aside0.mk (blk_below (g := gb8001) (o := .cells #[.int .i64 a2_0, .int .i64 a2_1] 37 (0, 0)) (by (with_reducible repeat (first | refine blk_drewN ?_ _ | refine blk_drew ?_ | refine blk_alloc ?_ _)); exact BK8001.out) hb); have n3_ := Aside0.mk (below_step (by repeat (first | (with_reducible first | exact HB.out | apply below_alloc | apply pw_below_drewN | apply below_drew1 | refine below_set ?_ GE8001.out) | exact HB.out)) hb); clear HO8015; clear BK8001; clear HB; have HO8015 := n0_; have HO8019 := n1_; have BK8001 := n2_; have HB := n3_; clear n0_ n1_ n2_ n3_; (try clear hb); (try clear hb2); (try clear hk); (try clear hi); (try clear ho0)))
  (try simp only [Act.put, List.setIfInBounds_toArray, List.set_cons_zero, List.set_cons_succ])
  go_cut [90] (fun v90 wc => ∃ (kq : Nat) (x90_14 : Bool), v90 = .bool x90_14 ∧ Aside0 (papermilllaw13_IsoImages.j0 kq l0 x90_14 a2_0 a2_1 = some r) ∧ Aside0 (kq ≤ k) ∧ Aside0 (wc.heap[gb8001]? = some (.cells #[.int .i64 a2_0, .int .i64 a2_1] 37 (0, 0))) ∧ Aside0 (Below w.heap.size w wc))
  case first =>
   have H := HC15.out
   clear HC15
   by_cases c23 : t8004 = t8006
   ·rw [if_pos c23] at H
    have c23b0 : (t8004 == t8006) = true := beq_iff_eq.mpr c23
    have c23b1 : (t8004 != t8006) = false := bne_eq_false_iff_eq.mpr c23
    clear c23
    (first | rw [c23b0] | (simp only [i64_w, i32_w]; rw [c23b0]) | skip)
    by_cases c24 : t8005 = t8007
    ·rw [if_pos c24] at H
     have c24b0 : (t8005 == t8007) = true := beq_iff_eq.mpr c24
     have c24b1 : (t8005 != t8007) = false := bne_eq_false_iff_eq.mpr c24
     clear c24
     by_cases c25 : t8008 = t8010
     ·rw [if_pos c25] at H
      have c25b0 : (t8008 == t8010) = true := beq_iff_eq.mpr c25
      have c25b1 : (t8008 != t8010) = false := bne_eq_false_iff_eq.mpr c25
      clear c25
      by_cases c26 : t8009 = t8011
      ·rw [if_pos c26] at H
       have c26b0 : (t8009 == t8011) = true := beq_iff_eq.mpr c26
       have c26b1 : (t8009 != t8011) = false := bne_eq_false_iff_eq.mpr c26
       clear c26
       replace H := Option.bind_eq_some_iff.mp H
       obtain ⟨t8020, A270, H⟩ := H
       replace H : (if t8020 = true then (papermilllaw13_IsoImages.j0 k l0 (t8013 != t8017) a2_0 a2_1) else (papermilllaw13_IsoImages.j0 k l0 true a2_0 a2_1)) = some r := H
       have A27 := Aside0.mk A270
       clear A270
       by_cases c28 : t8020 = true
       ·subst c28
        have H1 : (papermilllaw13_IsoImages.j0 k l0 (t8013 != t8017) a2_0 a2_1) = some r := by rw [if_pos rfl] at H; exact H
        clear H
        have H := H1
        clear H1
        have H' := Aside0.mk H
        clear H
        obtain ⟨Ao29, co29, eo29⟩ := Kd.R_slice HO8015.out
        subst eo29
        obtain ⟨Ao30, co30, eo30⟩ := Kd.R_slice HO8019.out
        subst eo30
        go_wp2_with (first | (go_at_call 20; (with_reducible refine (papermillref13_Same.calls k _ _ t8012 _ _ t8016 true _ ?side1 ?side2 ?side3 ?side4 A27.out).mono ?_); (case side1 => repeat (first | exact (Kd.R_reads' HO8015.out).2.2 | (with_reducible refine Kd.C_alloc ?_ _) | (with_reducible refine Kd.C_drewN ?_ _) | (with_reducible refine Kd.C_drew ?_))); (case side2 => exact (Kd.R_reads' HO8015.out).2.1); (case side3 => repeat (first | exact (Kd.R_reads' HO8019.out).2.2 | (with_reducible refine Kd.C_alloc ?_ _) | (with_reducible refine Kd.C_drewN ?_ _) | (with_reducible refine Kd.C_drew ?_))); (case side4 => exact (Kd.R_reads' HO8019.out).2.1); rintro e w' ⟨rfl, ⟨nd, rfl⟩⟩))
        go_meet
        case rel => exact ⟨_, ((t8013 != t8017)), (by first | rfl | (simp; done) | (simp [*]; done)), H', ⟨by first | omega | exact Nat.le_refl _⟩, ⟨by (with_reducible repeat (first | refine blk_drewN ?_ _ | refine blk_drew ?_ | refine blk_alloc ?_ _)); exact BK8001.out⟩, ⟨by repeat (first | (with_reducible first | exact HB.out | apply below_alloc | apply pw_below_drewN | apply below_drew1 | refine below_set ?_ GE8001.out) | exact HB.out)⟩⟩
       ·replace c28 := Bool.eq_false_iff.mpr c28
        subst c28
        have H1 : (papermilllaw13_IsoImages.j0 k l0 true a2_0 a2_1) = some r := by rw [if_neg (show ¬ (false = true) by decide)] at H; first | exact H | simpa using H
        clear H
        have H := H1
        clear H1
        have H' := Aside0.mk H
        clear H
        obtain ⟨Ao31, co31, eo31⟩ := Kd.R_slice HO8015.out
        subst eo31
        obtain ⟨Ao32, co32, eo32⟩ := Kd.R_slice HO8019.out
        subst eo32
        go_wp2_with (first | (go_at_call 20; (with_reducible refine (papermillref13_Same.calls k _ _ t8012 _ _ t8016 false _ ?side1 ?side2 ?side3 ?side4 A27.out).mono ?_); (case side1 => repeat (first | exact (Kd.R_reads' HO8015.out).2.2 | (with_reducible refine Kd.C_alloc ?_ _) | (with_reducible refine Kd.C_drewN ?_ _) | (with_reducible refine Kd.C_drew ?_))); (case side2 => exact (Kd.R_reads' HO8015.out).2.1); (case side3 => repeat (first | exact (Kd.R_reads' HO8019.out).2.2 | (with_reducible refine Kd.C_alloc ?_ _) | (with_reducible refine Kd.C_drewN ?_ _) | (with_reducible refine Kd.C_drew ?_))); (case side4 => exact (Kd.R_reads' HO8019.out).2.1); rintro e w' ⟨rfl, ⟨nd, rfl⟩⟩))
        go_meet
        case rel => exact ⟨_, (true), (by first | rfl | (simp; done) | (simp [*]; done)), H', ⟨by first | omega | exact Nat.le_refl _⟩, ⟨by (with_reducible repeat (first | refine blk_drewN ?_ _ | refine blk_drew ?_ | refine blk_alloc ?_ _)); exact BK8001.out⟩, ⟨by repeat (first | (with_reducible first | exact HB.out | apply below_alloc | apply pw_below_drewN | apply below_drew1 | refine below_set ?_ GE8001.out) | exact HB.out)⟩⟩
      ·rw [if_neg c26] at H
       have c26b0 : (t8009 == t8011) = false := beq_eq_false_iff_ne.mpr c26
       have c26b1 : (t8009 != t8011) = true := bne_iff_ne.mpr c26
       have H' := Aside0.mk H
       clear H
       go_wp2
       go_meet
       case rel => exact ⟨_, (true), (by first | rfl | (simp; done) | (simp [*]; done)), H', ⟨by first | omega | exact Nat.le_refl _⟩, ⟨by (with_reducible repeat (first | refine blk_drewN ?_ _ | refine blk_drew ?_ | refine blk_alloc ?_ _)); exact BK8001.out⟩, ⟨by repeat (first | (with_reducible first | exact HB.out | apply below_alloc | apply pw_below_drewN | apply below_drew1 | refine below_set ?_ GE8001.out) | exact HB.out)⟩⟩
     ·rw [if_neg c25] at H
      have c25b0 : (t8008 == t8010) = false := beq_eq_false_iff_ne.mpr c25
      have c25b1 : (t8008 != t8010) = true := bne_iff_ne.mpr c25
      have H' := Aside0.mk H
      clear H
      go_wp2
      go_meet
      case rel => exact ⟨_, (true), (by first | rfl | (simp; done) | (simp [*]; done)), H', ⟨by first | omega | exact Nat.le_refl _⟩, ⟨by (with_reducible repeat (first | refine blk_drewN ?_ _ | refine blk_drew ?_ | refine blk_alloc ?_ _)); exact BK8001.out⟩, ⟨by repeat (first | (with_reducible first | exact HB.out | apply below_alloc | apply pw_below_drewN | apply below_drew1 | refine below_set ?_ GE8001.out) | exact HB.out)⟩⟩
    ·rw [if_neg c24] at H
     have c24b0 : (t8005 == t8007) = false := beq_eq_false_iff_ne.mpr c24
     have c24b1 : (t8005 != t8007) = true := bne_iff_ne.mpr c24
     have H' := Aside0.mk H
     clear H
     go_wp2
     go_meet
     case rel => exact ⟨_, (true), (by first | rfl | (simp; done) | (simp [*]; done)), H', ⟨by first | omega | exact Nat.le_refl _⟩, ⟨by (with_reducible repeat (first | refine blk_drewN ?_ _ | refine blk_drew ?_ | refine blk_alloc ?_ _)); exact BK8001.out⟩, ⟨by repeat (first | (with_reducible first | exact HB.out | apply below_alloc | apply pw_below_drewN | apply below_drew1 | refine below_set ?_ GE8001.out) | exact HB.out)⟩⟩
   ·rw [if_neg c23] at H
    have c23b0 : (t8004 == t8006) = false := beq_eq_false_iff_ne.mpr c23
    have c23b1 : (t8004 != t8006) = true := bne_iff_ne.mpr c23
    (first | rw [c23b0] | (simp only [i64_w, i32_w]; rw [c23b0]) | skip)
    have H' := Aside0.mk H
    clear H
    go_wp2
    go_meet
    case rel => exact ⟨_, (true), (by first | rfl | (simp; done) | (simp [*]; done)), H', ⟨by first | omega | exact Nat.le_refl _⟩, ⟨by (with_reducible repeat (first | refine blk_drewN ?_ _ | refine blk_drew ?_ | refine blk_alloc ?_ _)); exact BK8001.out⟩, ⟨by repeat (first | (with_reducible first | exact HB.out | apply below_alloc | apply pw_below_drewN | apply below_drew1 | refine below_set ?_ GE8001.out) | exact HB.out)⟩⟩
  case rest =>
   clear HC15
   try clear c1
   try clear c2
   try clear p2
   try clear c5
   try clear c7
   try clear c12
   try clear c13
   try clear c21
   try clear c23
   try clear c23b0
   try clear c23b1
   try clear c24
   try clear c24b0
   try clear c24b1
   try clear c25
   try clear c25b0
   try clear c25b1
   try clear c26
   try clear c26b0
   try clear c26b1
   try clear c27
   try clear c28
   obtain ⟨kq, x90_14, rfl, HA, HJ14, BK8001, HB⟩ := hcut
   cases kq with
   | zero => exact absurd HA.out (by simp [papermilllaw13_IsoImages.j0])
   | succ kj14 =>
    have H := HA.out
    clear HA
    simp only [papermilllaw13_IsoImages.j0] at H
    by_cases c33 : x90_14 = true
    ·subst c33
     have H1 : none = some r := by rw [if_pos rfl] at H; exact H
     clear H
     have H := H1
     clear H1
     cases H
    ·replace c33 := Bool.eq_false_iff.mpr c33
     subst c33
     have H1 : ((iso_Image.f kj14 l0).bind fun bt8021 => ((papermillref13_Image.f kj14 l0).bind fun bt8025 => ((iso_Find.f l0 a2_0 a2_1).bind fun bt8029 => ((papermillref13_Find.f l0 a2_0 a2_1).bind fun bt8033 => ((papermillref04_Same.f kj14 bt8021.1 bt8025.1).bind fun t8037 => (if t8037 = true then (if bt8021.2 = bt8025.2 then ((papermillref04_Same.f kj14 bt8029.1 bt8033.1).bind fun t8038 => (if t8038 = true then (if bt8029.2 = bt8033.2 then ((papermilllaw13_awake.f).bind fun t8039 => (some t8039)) else none) else none)) else none) else none)))))) = some r := by rw [if_neg (show ¬ (false = true) by decide)] at H; first | exact H | simpa using H
     clear H
     have H := H1
     clear H1
     replace H := Option.bind_eq_some_iff.mp H
     obtain ⟨⟨t8021, t8022⟩, A340, H⟩ := H
     replace H : ((papermillref13_Image.f kj14 l0).bind fun bt8025 => ((iso_Find.f l0 a2_0 a2_1).bind fun bt8029 => ((papermillref13_Find.f l0 a2_0 a2_1).bind fun bt8033 => ((papermillref04_Same.f kj14 t8021 bt8025.1).bind fun t8037 => (if t8037 = true then (if t8022 = bt8025.2 then ((papermillref04_Same.f kj14 bt8029.1 bt8033.1).bind fun t8038 => (if t8038 = true then (if bt8029.2 = bt8033.2 then ((papermilllaw13_awake.f).bind fun t8039 => (some t8039)) else none) else none)) else none) else none))))) = some r := H
     have A34 := Aside0.mk A340
     clear A340
     replace H := Option.bind_eq_some_iff.mp H
     obtain ⟨⟨t8025, t8026⟩, A350, H⟩ := H
     replace H : ((iso_Find.f l0 a2_0 a2_1).bind fun bt8029 => ((papermillref13_Find.f l0 a2_0 a2_1).bind fun bt8033 => ((papermillref04_Same.f kj14 t8021 t8025).bind fun t8037 => (if t8037 = true then (if t8022 = t8026 then ((papermillref04_Same.f kj14 bt8029.1 bt8033.1).bind fun t8038 => (if t8038 = true then (if bt8029.2 = bt8033.2 then ((papermilllaw13_awake.f).bind fun t8039 => (some t8039)) else none) else none)) else none) else none)))) = some r := H
     have A35 := Aside0.mk A350
     clear A350
     replace H := Option.bind_eq_some_iff.mp H
     obtain ⟨⟨t8029, t8032⟩, A360, H⟩ := H
     replace H : ((papermillref13_Find.f l0 a2_0 a2_1).bind fun bt8033 => ((papermillref04_Same.f kj14 t8021 t8025).bind fun t8037 => (if t8037 = true then (if t8022 = t8026 then ((papermillref04_Same.f kj14 t8029 bt8033.1).bind fun t8038 => (if t8038 = true then (if t8032 = bt8033.2 then ((papermilllaw13_awake.f).bind fun t8039 => (some t8039)) else none) else none)) else none) else none))) = some r := H
     have A36 := Aside0.mk A360
     clear A360
     replace H := Option.bind_eq_some_iff.mp H
     obtain ⟨⟨t8033, t8036⟩, A370, H⟩ := H
     replace H : ((papermillref04_Same.f kj14 t8021 t8025).bind fun t8037 => (if t8037 = true then (if t8022 = t8026 then ((papermillref04_Same.f kj14 t8029 t8033).bind fun t8038 => (if t8038 = true then (if t8032 = t8036 then ((papermilllaw13_awake.f).bind fun t8039 => (some t8039)) else none) else none)) else none) else none)) = some r := H
     have A37 := Aside0.mk A370
     clear A370
     replace H := Option.bind_eq_some_iff.mp H
     obtain ⟨t8037, A380, H⟩ := H
     replace H : (if t8037 = true then (if t8022 = t8026 then ((papermillref04_Same.f kj14 t8029 t8033).bind fun t8038 => (if t8038 = true then (if t8032 = t8036 then ((papermilllaw13_awake.f).bind fun t8039 => (some t8039)) else none) else none)) else none) else none) = some r := H
     have A38 := Aside0.mk A380
     clear A380
     by_cases c39 : t8037 = true
     ·subst c39
      have H1 : (if t8022 = t8026 then ((papermillref04_Same.f kj14 t8029 t8033).bind fun t8038 => (if t8038 = true then (if t8032 = t8036 then ((papermilllaw13_awake.f).bind fun t8039 => (some t8039)) else none) else none)) else none) = some r := by rw [if_pos rfl] at H; exact H
      clear H
      have H := H1
      clear H1
      by_cases c40 : t8022 = t8026
      ·rw [if_pos c40] at H
       have c40b0 : (t8022 == t8026) = true := beq_iff_eq.mpr c40
       have c40b1 : (t8022 != t8026) = false := bne_eq_false_iff_eq.mpr c40
       clear c40
       replace H := Option.bind_eq_some_iff.mp H
       obtain ⟨t8038, A410, H⟩ := H
       replace H : (if t8038 = true then (if t8032 = t8036 then ((papermilllaw13_awake.f).bind fun t8039 => (some t8039)) else none) else none) = some r := H
       have A41 := Aside0.mk A410
       clear A410
       by_cases c42 : t8038 = true
       ·subst c42
        have H1 : (if t8032 = t8036 then ((papermilllaw13_awake.f).bind fun t8039 => (some t8039)) else none) = some r := by rw [if_pos rfl] at H; exact H
        clear H
        have H := H1
        clear H1
        by_cases c43 : t8032 = t8036
        ·rw [if_pos c43] at H
         have c43b0 : (t8032 == t8036) = true := beq_iff_eq.mpr c43
         have c43b1 : (t8032 != t8036) = false := bne_eq_false_iff_eq.mpr c43
         clear c43
         replace H := Option.bind_eq_some_iff.mp H
         obtain ⟨t8039, A440, H⟩ := H
         replace H : (some t8039) = some r := H
         have A44 := Aside0.mk A440
         clear A440
         obtain rfl := Option.some.inj H
         go_wp2_with (first | ((with_reducible refine gate_callee (f := 29) rfl ?_); refine goesL_ (some 93) rfl rfl Try.func29 (by kernel_rfl) rfl #[.slice A0 l0.length c0] rfl (by (try simp only [List.map_toArray, List.map_cons, List.map_nil]); first | done | rfl | (simp only [List.length_drop, List.length_take]; rfl)) ?_; (with_reducible refine (iso_Image.calls kj14 _ _ l0 t8021 t8022 _ ?side1 ?side2 A34.out).mono ?_); (case side1 => repeat (first | exact (Kd.C_below HR0.out HB.out) | (with_reducible refine Kd.C_alloc ?_ _) | (with_reducible refine Kd.C_drewN ?_ _) | (with_reducible refine Kd.C_drew ?_))); (case side2 => exact HC0.out); rintro e w45 ⟨v8023, rfl, ho0, hb⟩; refine ⟨_, rfl, ?_⟩; have n0_ := Aside0.mk (Kd.R_lower (Kd.R_newB ho0 (g := gb8001) (o := .cells #[.int .i64 a2_0, .int .i64 a2_1] 37 (0, 0)) (by (with_reducible repeat (first | refine blk_drewN ?_ _ | refine blk_drew ?_ | refine blk_alloc ?_ _)); exact BK8001.out)) (below_size (by repeat (first | (with_reducible first | exact HB.out | apply below_alloc | apply pw_below_drewN | apply below_drew1 | refine below_set ?_ GE8001.out) | exact HB.out)))); have n1_ := Aside0.mk (blk_below (g := gb8001) (o := .cells #[.int .i64 a2_0, .int .i64 a2_1] 37 (0, 0)) (by (with_reducible repeat (first | refine blk_drewN ?_ _ | refine blk_drew ?_ | refine blk_alloc ?_ _)); exact BK8001.out) hb); have n2_ := Aside0.mk (below_step (by repeat (first | (with_reducible first | exact HB.out | apply below_alloc | apply pw_below_drewN | apply below_drew1 | refine below_set ?_ GE8001.out) | exact HB.out)) hb); clear BK8001; clear HB; have HO8024 := n0_; have BK8001 := n1_; have HB := n2_; clear n0_ n1_ n2_; (try clear hb); (try clear hb2); (try clear hk); (try clear hi); (try clear ho0)) | ((with_reducible refine gate_callee (f := 30) rfl ?_); refine goesL_ (some 98) rfl rfl Try.func30 (by kernel_rfl) rfl #[.slice A0 l0.length c0] rfl (by (try simp only [List.map_toArray, List.map_cons, List.map_nil]); first | done | rfl | (simp only [List.length_drop, List.length_take]; rfl)) ?_; (with_reducible refine (papermillref13_Image.calls kj14 _ _ l0 t8025 t8026 _ ?side1 ?side2 A35.out).mono ?_); (case side1 => repeat (first | exact (Kd.C_below HR0.out HB.out) | (with_reducible refine Kd.C_alloc ?_ _) | (with_reducible refine Kd.C_drewN ?_ _) | (with_reducible refine Kd.C_drew ?_))); (case side2 => exact HC0.out); rintro e w46 ⟨v8027, rfl, ho0, hb⟩; refine ⟨_, rfl, ?_⟩; have n0_ := Aside0.mk (Kd.R_elder' (by (with_reducible repeat (first | apply Kd.R_alloc | apply Kd.R_drewN | apply Kd.R_drew)); exact HO8024.out) (Kd.R_base ho0) hb); have n1_ := Aside0.mk (Kd.R_lower (Kd.R_newB (Kd.R_new' ho0 (Kd.R_lt (by (with_reducible repeat (first | apply Kd.R_alloc | apply Kd.R_drewN | apply Kd.R_drew)); exact HO8024.out))) (g := gb8001) (o := .cells #[.int .i64 a2_0, .int .i64 a2_1] 37 (0, 0)) (by (with_reducible repeat (first | refine blk_drewN ?_ _ | refine blk_drew ?_ | refine blk_alloc ?_ _)); exact BK8001.out)) (below_size (by repeat (first | (with_reducible first | exact HB.out | apply below_alloc | apply pw_below_drewN | apply below_drew1 | refine below_set ?_ GE8001.out) | exact HB.out)))); have n2_ := Aside0.mk (blk_below (g := gb8001) (o := .cells #[.int .i64 a2_0, .int .i64 a2_1] 37 (0, 0)) (by (with_reducible repeat (first | refine blk_drewN ?_ _ | refine blk_drew ?_ | refine blk_alloc ?_ _)); exact BK8001.out) hb); have n3_ := Aside0.mk (below_step (by repeat (first | (with_reducible first | exact HB.out | apply below_alloc | apply pw_below_drewN | apply below_drew1 | refine below_set ?_ GE8001.out) | exact HB.out)) hb); clear HO8024; clear BK8001; clear HB; have HO8024 := n0_; have HO8028 := n1_; have BK8001 := n2_; have HB := n3_; clear n0_ n1_ n2_ n3_; (try clear hb); (try clear hb2); (try clear hk); (try clear hi); (try clear ho0); have hcz47_0 : w46.cell? ⟨gb8001, 0, none⟩ = some (.int .i64 a2_0) := (blk_cell BK8001.out 0).trans rfl; have hcz47_1 : w46.cell? ⟨gb8001, 1, none⟩ = some (.int .i64 a2_1) := (blk_cell BK8001.out 1).trans rfl; have hfz47_0 := blk_frozen BK8001.out 0; have hfz47_1 := blk_frozen BK8001.out 1) | ((with_reducible refine gate_callee (f := 31) rfl ?_); refine goesL_ (some 104) rfl rfl Try.func31 (by kernel_rfl) rfl #[.slice A0 l0.length c0, .agg #[.int .i64 a2_0, .int .i64 a2_1]] rfl (by (try simp only [List.map_toArray, List.map_cons, List.map_nil]); first | done | rfl | (simp only [List.length_drop, List.length_take]; rfl)) ?_; (with_reducible refine (iso_Find.calls _ _ l0 a2_0 a2_1 t8029 t8032 _ ?side1 ?side2 A36.out).mono ?_); (case side1 => repeat (first | exact (Kd.C_below HR0.out HB.out) | (with_reducible refine Kd.C_alloc ?_ _) | (with_reducible refine Kd.C_drewN ?_ _) | (with_reducible refine Kd.C_drew ?_))); (case side2 => exact HC0.out); rintro e w48 ⟨v8030, rfl, ho0, hb⟩; refine ⟨_, rfl, ?_⟩; have n0_ := Aside0.mk (Kd.R_elder' (by (with_reducible repeat (first | apply Kd.R_alloc | apply Kd.R_drewN | apply Kd.R_drew)); exact HO8024.out) (Kd.R_base ho0) hb); have n1_ := Aside0.mk (Kd.R_elder' (by (with_reducible repeat (first | apply Kd.R_alloc | apply Kd.R_drewN | apply Kd.R_drew)); exact HO8028.out) (Kd.R_base ho0) hb); have n2_ := Aside0.mk (Kd.R_lower (Kd.R_newB (Kd.R_new' (Kd.R_new' ho0 (Kd.R_lt (by (with_reducible repeat (first | apply Kd.R_alloc | apply Kd.R_drewN | apply Kd.R_drew)); exact HO8024.out))) (Kd.R_lt (by (with_reducible repeat (first | apply Kd.R_alloc | apply Kd.R_drewN | apply Kd.R_drew)); exact HO8028.out))) (g := gb8001) (o := .cells #[.int .i64 a2_0, .int .i64 a2_1] 37 (0, 0)) (by (with_reducible repeat (first | refine blk_drewN ?_ _ | refine blk_drew ?_ | refine blk_alloc ?_ _)); exact BK8001.out)) (below_size (by repeat (first | (with_reducible first | exact HB.out | apply below_alloc | apply pw_below_drewN | apply below_drew1 | refine below_set ?_ GE8001.out) | exact HB.out)))); have n3_ := Aside0.mk (blk_below (g := gb8001) (o := .cells #[.int .i64 a2_0, .int .i64 a2_1] 37 (0, 0)) (by (with_reducible repeat (first | refine blk_drewN ?_ _ | refine blk_drew ?_ | refine blk_alloc ?_ _)); exact BK8001.out) hb); have n4_ := Aside0.mk (below_step (by repeat (first | (with_reducible first | exact HB.out | apply below_alloc | apply pw_below_drewN | apply below_drew1 | refine below_set ?_ GE8001.out) | exact HB.out)) hb); clear HO8024; clear HO8028; clear BK8001; clear HB; have HO8024 := n0_; have HO8028 := n1_; have HO8031 := n2_; have BK8001 := n3_; have HB := n4_; clear n0_ n1_ n2_ n3_ n4_; (try clear hb); (try clear hb2); (try clear hk); (try clear hi); (try clear ho0); have hcz49_0 : w48.cell? ⟨gb8001, 0, none⟩ = some (.int .i64 a2_0) := (blk_cell BK8001.out 0).trans rfl; have hcz49_1 : w48.cell? ⟨gb8001, 1, none⟩ = some (.int .i64 a2_1) := (blk_cell BK8001.out 1).trans rfl; have hfz49_0 := blk_frozen BK8001.out 0; have hfz49_1 := blk_frozen BK8001.out 1) | ((with_reducible refine gate_callee (f := 32) rfl ?_); refine goesL_ (some 110) rfl rfl Try.func32 (by kernel_rfl) rfl #[.slice A0 l0.length c0, .agg #[.int .i64 a2_0, .int .i64 a2_1]] rfl (by (try simp only [List.map_toArray, List.map_cons, List.map_nil]); first | done | rfl | (simp only [List.length_drop, List.length_take]; rfl)) ?_; (with_reducible refine (papermillref13_Find.calls _ _ l0 a2_0 a2_1 t8033 t8036 _ ?side1 ?side2 A37.out).mono ?_); (case side1 => repeat (first | exact (Kd.C_below HR0.out HB.out) | (with_reducible refine Kd.C_alloc ?_ _) | (with_reducible refine Kd.C_drewN ?_ _) | (with_reducible refine Kd.C_drew ?_))); (case side2 => exact HC0.out); rintro e w50 ⟨v8034, rfl, ho0, hb⟩; refine ⟨_, rfl, ?_⟩; have n0_ := Aside0.mk (Kd.R_elder' (by (with_reducible repeat (first | apply Kd.R_alloc | apply Kd.R_drewN | apply Kd.R_drew)); exact HO8024.out) (Kd.R_base ho0) hb); have n1_ := Aside0.mk (Kd.R_elder' (by (with_reducible repeat (first | apply Kd.R_alloc | apply Kd.R_drewN | apply Kd.R_drew)); exact HO8028.out) (Kd.R_base ho0) hb); have n2_ := Aside0.mk (Kd.R_elder' (by (with_reducible repeat (first | apply Kd.R_alloc | apply Kd.R_drewN | apply Kd.R_drew)); exact HO8031.out) (Kd.R_base ho0) hb); have n3_ := Aside0.mk (Kd.R_lower (Kd.R_newB (Kd.R_new' (Kd.R_new' (Kd.R_new' ho0 (Kd.R_lt (by (with_reducible repeat (first | apply Kd.R_alloc | apply Kd.R_drewN | apply Kd.R_drew)); exact HO8024.out))) (Kd.R_lt (by (with_reducible repeat (first | apply Kd.R_alloc | apply Kd.R_drewN | apply Kd.R_drew)); exact HO8028.out))) (Kd.R_lt (by (with_reducible repeat (first | apply Kd.R_alloc | apply Kd.R_drewN | apply Kd.R_drew)); exact HO8031.out))) (g := gb8001) (o := .cells #[.int .i64 a2_0, .int .i64 a2_1] 37 (0, 0)) (by (with_reducible repeat (first | refine blk_drewN ?_ _ | refine blk_drew ?_ | refine blk_alloc ?_ _)); exact BK8001.out)) (below_size (by repeat (first | (with_reducible first | exact HB.out | apply below_alloc | apply pw_below_drewN | apply below_drew1 | refine below_set ?_ GE8001.out) | exact HB.out)))); have n4_ := Aside0.mk (blk_below (g := gb8001) (o := .cells #[.int .i64 a2_0, .int .i64 a2_1] 37 (0, 0)) (by (with_reducible repeat (first | refine blk_drewN ?_ _ | refine blk_drew ?_ | refine blk_alloc ?_ _)); exact BK8001.out) hb); have n5_ := Aside0.mk (below_step (by repeat (first | (with_reducible first | exact HB.out | apply below_alloc | apply pw_below_drewN | apply below_drew1 | refine below_set ?_ GE8001.out) | exact HB.out)) hb); clear HO8024; clear HO8028; clear HO8031; clear BK8001; clear HB; have HO8024 := n0_; have HO8028 := n1_; have HO8031 := n2_; have HO8035 := n3_; have BK8001 := n4_; have HB := n5_; clear n0_ n1_ n2_ n3_ n4_ n5_; (try clear hb); (try clear hb2); (try clear hk); (try clear hi); (try clear ho0); obtain ⟨Ao51, co51, eo51⟩ := Kd.R_slice HO8024.out; subst eo51; obtain ⟨Ao52, co52, eo52⟩ := Kd.R_slice HO8028.out; subst eo52) | ((with_reducible refine gate_callee (f := 33) rfl ?_); refine goesL_ (some 115) rfl rfl Try.func33 (by kernel_rfl) rfl #[.slice Ao51 t8021.length co51, .slice Ao52 t8025.length co52] rfl (by (try simp only [List.map_toArray, List.map_cons, List.map_nil]); first | done | rfl | (simp only [List.length_drop, List.length_take]; rfl)) ?_; (with_reducible refine (papermillref04_Same.calls kj14 _ _ t8021 _ _ t8025 true _ ?side1 ?side2 ?side3 ?side4 A38.out).mono ?_); (case side1 => repeat (first | exact (Kd.R_reads' HO8024.out).2.2 | (with_reducible refine Kd.C_alloc ?_ _) | (with_reducible refine Kd.C_drewN ?_ _) | (with_reducible refine Kd.C_drew ?_))); (case side2 => exact (Kd.R_reads' HO8024.out).2.1); (case side3 => repeat (first | exact (Kd.R_reads' HO8028.out).2.2 | (with_reducible refine Kd.C_alloc ?_ _) | (with_reducible refine Kd.C_drewN ?_ _) | (with_reducible refine Kd.C_drew ?_))); (case side4 => exact (Kd.R_reads' HO8028.out).2.1); rintro e w' ⟨rfl, ⟨nd, rfl⟩⟩; refine ⟨_, rfl, ?_⟩; obtain ⟨Ao53, co53, eo53⟩ := Kd.R_slice HO8031.out; subst eo53; obtain ⟨Ao54, co54, eo54⟩ := Kd.R_slice HO8035.out; subst eo54) | (go_at_call 33; (with_reducible refine (papermillref04_Same.calls kj14 _ _ t8029 _ _ t8033 true _ ?side1 ?side2 ?side3 ?side4 A41.out).mono ?_); (case side1 => repeat (first | exact (Kd.R_reads' HO8031.out).2.2 | (with_reducible refine Kd.C_alloc ?_ _) | (with_reducible refine Kd.C_drewN ?_ _) | (with_reducible refine Kd.C_drew ?_))); (case side2 => exact (Kd.R_reads' HO8031.out).2.1); (case side3 => repeat (first | exact (Kd.R_reads' HO8035.out).2.2 | (with_reducible refine Kd.C_alloc ?_ _) | (with_reducible refine Kd.C_drewN ?_ _) | (with_reducible refine Kd.C_drew ?_))); (case side4 => exact (Kd.R_reads' HO8035.out).2.1); rintro e w' ⟨rfl, ⟨nd, rfl⟩⟩) | (go_at_call 13; (with_reducible refine (papermilllaw13_awake.calls  t8039 _ A44.out).mono ?_); rintro e w55 ⟨rfl, hb⟩; have n0_ := Aside0.mk (Kd.R_below (by (with_reducible repeat (first | apply Kd.R_alloc | apply Kd.R_drewN | apply Kd.R_drew)); exact HO8024.out) hb); have n1_ := Aside0.mk (Kd.R_below (by (with_reducible repeat (first | apply Kd.R_alloc | apply Kd.R_drewN | apply Kd.R_drew)); exact HO8028.out) hb); have n2_ := Aside0.mk (Kd.R_below (by (with_reducible repeat (first | apply Kd.R_alloc | apply Kd.R_drewN | apply Kd.R_drew)); exact HO8031.out) hb); have n3_ := Aside0.mk (Kd.R_below (by (with_reducible repeat (first | apply Kd.R_alloc | apply Kd.R_drewN | apply Kd.R_drew)); exact HO8035.out) hb); have n4_ := Aside0.mk (blk_below (g := gb8001) (o := .cells #[.int .i64 a2_0, .int .i64 a2_1] 37 (0, 0)) (by (with_reducible repeat (first | refine blk_drewN ?_ _ | refine blk_drew ?_ | refine blk_alloc ?_ _)); exact BK8001.out) hb); have n5_ := Aside0.mk (below_step (by repeat (first | (with_reducible first | exact HB.out | apply below_alloc | apply pw_below_drewN | apply below_drew1 | refine below_set ?_ GE8001.out) | exact HB.out)) hb); clear HO8024; clear HO8028; clear HO8031; clear HO8035; clear BK8001; clear HB; have HO8024 := n0_; have HO8028 := n1_; have HO8031 := n2_; have HO8035 := n3_; have BK8001 := n4_; have HB := n5_; clear n0_ n1_ n2_ n3_ n4_ n5_; (try clear hb); (try clear hb2); (try clear hk); (try clear hi)))
         go_ret
         exact ⟨by first | rfl | (simp [errW_none, errW_some] <;> rfl) | (simp [*, errW_none, errW_some] <;> rfl), by repeat (first | (with_reducible first | exact HB.out | apply below_alloc | apply pw_below_drewN | apply below_drew1 | refine below_set ?_ GE8001.out) | exact HB.out)⟩
        ·rw [if_neg c43] at H
         have c43b0 : (t8032 == t8036) = false := beq_eq_false_iff_ne.mpr c43
         have c43b1 : (t8032 != t8036) = true := bne_iff_ne.mpr c43
         cases H
       ·replace c42 := Bool.eq_false_iff.mpr c42
        subst c42
        have H1 : none = some r := by rw [if_neg (show ¬ (false = true) by decide)] at H; first | exact H | simpa using H
        clear H
        have H := H1
        clear H1
        cases H
      ·rw [if_neg c40] at H
       have c40b0 : (t8022 == t8026) = false := beq_eq_false_iff_ne.mpr c40
       have c40b1 : (t8022 != t8026) = true := bne_iff_ne.mpr c40
       cases H
     ·replace c39 := Bool.eq_false_iff.mpr c39
      subst c39
      have H1 : none = some r := by rw [if_neg (show ¬ (false = true) by decide)] at H; first | exact H | simpa using H
      clear H
      have H := H1
      clear H1
      cases H

end Go.Proofs.Ytcnkmdonbpgjiaa.G

namespace Go.Proofs.Ytcnkmdonbpgjiaa.G
open Go.RowKit Go.Proofs.YtcnkmdonbpgjiaaW.PrintWords Go.Proofs.YtcnkmdonbpgjiaaW.PrintLast Go.Proofs.YtcnkmdonbpgjiaaW.PrintMore
set_option linter.unusedVariables false
set_option linter.unusedSimpArgs false
theorem rimg_is {r : S32} (h : ¬ badR r) : papermillref13_image.f r.f0 r.f1 r.f2 (wrap64 (r.f1 - 1)) = some (img r (r.f1 - 1)) := by
 have hf := fit_of h
 unfold fitR at hf
 have e : wrap64 (r.f1 - 1) = r.f1 - 1 := by unfold wrap64; omega
 have := image_is r (r.f1 - 1) ⟨by omega, by omega, by omega⟩ (by omega) (by omega)
 rw [e]
 exact this
theorem rimage_l0 (l : List S32) (hl : l.length ≤ 256) (hg : ∀ r ∈ l, ¬ badR r) : ∀ (d i : Nat) (o : List S37), l.length - i = d → i ≤ l.length → o.length ≤ i → Ends (fun k => papermillref13_Image.l0 k l o (i : Int)) (bothOf (o ++ (l.drop i).map imgS) [] 0) := by
 intro d
 induction d with
 | zero =>
  intro i o hd hi ho
  refine Ends.succ ?_
  simp only [papermillref13_Image.l0]
  rw [List.drop_of_length_le (by omega), List.map_nil, List.append_nil]
  exact Ends.neg (by omega) (Ends.bind (rnorm_ends o) (Ends.ret _))
 | succ d ih =>
  intro i o hd hi ho
  refine Ends.succ ?_
  have hx := hg (rd_T32 l (i : Int)) (by rw [rdR l i (by omega)]; exact List.getElem_mem _)
  rw [dropR l i (by omega)]
  simp only [papermillref13_Image.l0, wrap_nat i (by omega)]
  generalize rd_T32 l (i : Int) = r at *
  have hi2 := imgS_in hx
  have h1 : (imgS r).f1 = mx r.f0 (img r (r.f1 - 1)) + 1 := rfl
  have e2 : wrap64 (mx r.f0 (img r (r.f1 - 1)) + 1) = mx r.f0 (img r (r.f1 - 1)) + 1 := by unfold wrap64; omega
  refine Ends.pos (by omega) (Ends.pos (by omega) (Ends.bind (Ends.const (rimg_is hx)) (Ends.pos (by omega) ?_)))
  rw [e2]
  refine (ih (i + 1) (o ++ [imgS r]) (by omega) (by omega) (by simp; omega)).congr ?_
  rw [List.append_assoc]
  rfl
theorem rimage_ends (l : List S32) : Ends (fun k => papermillref13_Image.f k l) (image13 l) := by
 unfold papermillref13_Image.f image13
 refine Ends.bind (rcheck_ends l) ?_
 by_cases h : check13 l = 0
 ·rw [if_pos h]
  obtain ⟨hl, hg, _⟩ := check13_zero h
  exact Ends.pos h ((rimage_l0 l hl hg _ 0 [] rfl (by omega) (by simp)).congr (by simp))
 ·rw [if_neg h]
  exact Ends.neg h (Ends.ret _)
end Go.Proofs.Ytcnkmdonbpgjiaa.G

namespace Go.Proofs.Ytcnkmdonbpgjiaa.G
open Go.RowKit Go.Proofs.YtcnkmdonbpgjiaaW.PrintWords Go.Proofs.YtcnkmdonbpgjiaaW.PrintLast Go.Proofs.YtcnkmdonbpgjiaaW.PrintMore
set_option linter.unusedVariables false
set_option linter.unusedSimpArgs false
def lowT (t : S32) : Prop := (-1099511627776 ≤ t.f0 ∧ t.f0 ≤ 1099511627776) ∧ 1 ≤ t.f1 ∧ t.f1 ≤ 1125899906842623
theorem rcut_is (r : S32) (x n : Int) (h : nearR r) (h0 : -1099511627776 ≤ x) (h1 : x ≤ 1099511627776) : papermillref13_cut.f r.f0 r.f1 r.f2 x n = some ((partR r x n).f0, (partR r x n).f1, (partR r x n).f2) := part_is r x n h h0 h1
theorem rmore_j1 (k0 : Unit) (l : List S32) (m : Int) (s : Int) (r t : S32) (hn : nearR r) (hl : l.length ≤ 20000000000) : Ends (fun k => papermillref13_more.j1 k l m s true r.f0 r.f1 r.f2 t.f0 t.f1 t.f2) (l ++ [partR r 0 r.f1]) := by
 refine Ends.succ ?_
 simp only [papermillref13_more.j1]
 exact Ends.pos (by simp) (Ends.bind (Ends.const (rcut_is r 0 r.f1 hn (by omega) (by omega))) (Ends.pos (by omega) (Ends.ret _)))
theorem joins_z1 {r t : S32} (h : goes r t = 1) : (if t.f1 > 1 then (t.f2 != (goes r t == -1)) else false) = !decide (joins r t) := by
 have hj : joins r t ↔ (t.f1 > 1 → t.f2 = false) := by
  constructor
  ·intro k h2; have := k.2 h2; rw [← this]; simp [h]
  ·intro k; exact ⟨.inl h, fun h2 => by rw [k h2]; simp [h]⟩
 rw [show (goes r t == -1) = false by rw [h]; rfl]
 by_cases h2 : t.f1 > 1
 ·rw [if_pos h2]
  cases hb : t.f2 with
  | false => rw [decide_eq_true (hj.mpr (fun _ => hb))]; rfl
  | true => rw [decide_eq_false (fun k => by have := hj.mp k h2; rw [hb] at this; cases this)]; rfl
 ·rw [if_neg h2, decide_eq_true (hj.mpr (fun k => absurd k h2))]; rfl
theorem joins_zm {r t : S32} (h : goes r t = -1) : (if t.f1 > 1 then (t.f2 != (goes r t == -1)) else false) = !decide (joins r t) := by
 have hj : joins r t ↔ (t.f1 > 1 → t.f2 = true) := by
  constructor
  ·intro k h2; have := k.2 h2; rw [← this]; simp [h]
  ·intro k; exact ⟨.inr h, fun h2 => by rw [k h2]; simp [h]⟩
 rw [show (goes r t == -1) = true by rw [h]; rfl]
 by_cases h2 : t.f1 > 1
 ·rw [if_pos h2]
  cases hb : t.f2 with
  | true => rw [decide_eq_true (hj.mpr (fun _ => hb))]; rfl
  | false => rw [decide_eq_false (fun k => by have := hj.mp k h2; rw [hb] at this; cases this)]; rfl
 ·rw [if_neg h2, decide_eq_true (hj.mpr (fun k => absurd k h2))]; rfl
theorem rmore_last (d : List S32) (t r : S32) (hl : (d ++ [t]).length ≤ 20000000000) (ht : lowT t) (hn : nearR r) (h1 : 1 ≤ r.f1) (q : List S32)
  (hj1 : ∀ z : Bool, z = !decide (joins r t) → Ends (fun k => papermillref13_more.j1 k (d ++ [t]) (d.length : Int) (goes r t) z r.f0 r.f1 r.f2 t.f0 t.f1 t.f2) q) : Ends (fun k => papermillref13_more.l0 k (d ++ [t]) r.f0 r.f1 r.f2) q := by
 refine Ends.succ ?_
 have hlen : (d ++ [t]).length = d.length + 1 := by simp
 have hw : wrap64 (((d ++ [t]).length : Int) - 1) = (d.length : Int) := by unfold wrap64; omega
 have hrd : rd_T32 (d ++ [t]) (d.length : Int) = t := by simp [rd_T32]
 have hlo := ht.1
 have hlo2 := ht.2
 have hnn := hn.1
 have hnn2 := hn.2.1
 have ew : wrap64 (t.f1 - 1) = t.f1 - 1 := by unfold wrap64; omega
 have eg : wrap64 (r.f0 - img t (t.f1 - 1)) = goes r t := by
  unfold wrap64 goes img
  split <;> omega
 have ei : papermillref13_image.f t.f0 t.f1 t.f2 (t.f1 - 1) = some (img t (t.f1 - 1)) := image_far t (t.f1 - 1) ⟨hlo, hlo2.1, by omega⟩ (by omega) (by omega)
 simp only [papermillref13_more.l0, hw, hrd, ew, ei, Option.bind_some, eg]
 refine Ends.pos (by omega) (Ends.neg (by omega) (Ends.pos (by omega) (Ends.pos (by omega) ?_)))
 by_cases e1 : goes r t = 1
 ·refine Ends.pos e1 ?_
  have hz := joins_z1 e1
  by_cases e2 : t.f1 > 1
  ·rw [if_pos e2] at hz; exact Ends.pos e2 (hj1 _ hz)
  ·rw [if_neg e2] at hz; exact Ends.neg e2 (hj1 _ hz)
 ·refine Ends.neg e1 ?_
  by_cases e3 : goes r t = -1
  ·refine Ends.pos e3 ?_
   have hz := joins_zm e3
   by_cases e2 : t.f1 > 1
   ·rw [if_pos e2] at hz; exact Ends.pos e2 (hj1 _ hz)
   ·rw [if_neg e2] at hz; exact Ends.neg e2 (hj1 _ hz)
  ·exact Ends.neg e3 (hj1 _ (by rw [decide_eq_false (fun k => by rcases k.1 with h | h; exact e1 h; exact e3 h)]; rfl))
theorem rmore_new (d : List S32) (t r : S32) (hl : (d ++ [t]).length ≤ 20000000000) (ht : lowT t) (hn : nearR r) (h1 : 1 ≤ r.f1) (hj : ¬ joins r t) : Ends (fun k => papermillref13_more.l0 k (d ++ [t]) r.f0 r.f1 r.f2) (d ++ [t] ++ [partR r 0 r.f1]) :=
 rmore_last d t r hl ht hn h1 _ (fun z hz => by
  have : z = true := by rw [hz]; simpa using hj
  rw [this]
  exact rmore_j1 () (d ++ [t]) _ _ r t hn hl)
theorem rmore_l0 (l : List S32) (r : S32) (hr : sane r) (hl : l.length ≤ 19999999990) (hlow : ∀ t ∈ l, lowT t ∧ t.f1 ≤ 1125899906842622) : Ends (fun k => papermillref13_more.l0 k l r.f0 r.f1 r.f2) (addOf l r) := by
 by_cases h0 : r.f1 < 1
 ·refine Ends.succ ?_
  simp only [papermillref13_more.l0]
  rw [addOf, if_pos h0]
  exact Ends.neg (by omega) (Ends.ret _)
 have h1 : 1 ≤ r.f1 := by omega
 rcases List.eq_nil_or_concat l with rfl | ⟨d, t, rfl⟩
 ·refine Ends.succ ?_
  simp only [papermillref13_more.l0]
  rw [addOf, if_neg h0]
  exact Ends.pos (by omega) (Ends.pos (by simp only [List.length_nil]; unfold wrap64; omega) (Ends.bind (Ends.const (rcut_is r 0 r.f1 hr.near (by omega) (by omega))) (Ends.pos (by simp) (Ends.ret _))))
 ·rw [List.concat_eq_append] at *
  obtain ⟨ht, ht9⟩ := hlow t (by simp)
  have hset : ∀ x, (d ++ [t]).set (d.length : Int).toNat x = d ++ [x] := fun x => by simp
  by_cases hj : joins r t
  ·have hadd : addOf (d ++ [t]) r = if r.f1 > 1 ∧ r.f2 ≠ decide (goes r t = -1) then d ++ [⟨t.f0, t.f1 + 1, decide (goes r t = -1)⟩] ++ [partR r 1 (r.f1 - 1)] else d ++ [⟨t.f0, t.f1 + r.f1, decide (goes r t = -1)⟩] := by
    rw [addOf, if_neg h0]
    simp only [List.reverse_append, List.reverse_cons, List.reverse_nil, List.nil_append, List.singleton_append, addR, if_pos hj]
    split <;> simp
   refine rmore_last d t r (by omega) ht hr.near h1 _ (fun z hz => ?_)
   have : z = false := by rw [hz]; simpa using hj
   rw [this]
   have hlo2 := ht.2
   have hs3 := hr.2.2
   have e1 : wrap64 (t.f1 + 1) = t.f1 + 1 := by unfold wrap64; omega
   have e2 : wrap64 (t.f1 + r.f1) = t.f1 + r.f1 := by unfold wrap64; omega
   have e3 : wrap64 (r.f1 - 1) = r.f1 - 1 := by unfold wrap64; omega
   have eb : (goes r t == -1) = decide (goes r t = -1) := rfl
   have hlen : (d ++ [t]).length = d.length + 1 := by simp
   have j2f : ¬ (r.f1 > 1 ∧ r.f2 ≠ decide (goes r t = -1)) → Ends (fun k => papermillref13_more.j2 k (d ++ [t]) (d.length : Int) (goes r t) r.f1 false r.f0 r.f1 r.f2 t.f0 t.f1 t.f2) (addOf (d ++ [t]) r) := fun hc => by
    refine Ends.succ ?_
    simp only [papermillref13_more.j2, Option.bind_some, hset, e2, eb]
    rw [hadd, if_neg hc]
    exact Ends.neg (by simp) (Ends.pos (by omega) (Ends.pos (by omega) (Ends.pos (by simp) (Ends.ret _))))
   refine Ends.succ ?_
   simp only [papermillref13_more.j1]
   refine Ends.neg (by simp) ?_
   by_cases h2 : r.f1 > 1
   ·refine Ends.pos h2 ?_
    by_cases hf : r.f2 = decide (goes r t = -1)
    ·have hb : (r.f2 != (goes r t == -1)) = false := by rw [eb, ← hf]; simp
     rw [hb]
     exact j2f (fun k => k.2 hf)
    ·have hb : (r.f2 != (goes r t == -1)) = true := by rw [eb]; simpa using hf
     rw [hb]
     refine Ends.succ ?_
     simp only [papermillref13_more.j2, Option.bind_some, hset, e1, e3, eb]
     have hp := rcut_is r 1 (r.f1 - 1) hr.near (by omega) (by omega)
     refine Ends.pos (by simp) (Ends.pos (by omega) (Ends.pos (by omega) (Ends.neg (by omega) (Ends.bind (Ends.const hp) ?_))))
     rw [hadd, if_pos ⟨h2, hf⟩]
     exact (rmore_new d ⟨t.f0, t.f1 + 1, decide (goes r t = -1)⟩ (partR r 1 (r.f1 - 1)) (by simp at hl ⊢; omega) ⟨ht.1, by dsimp only; omega, by dsimp only; omega⟩ (hr.part (by omega) (by omega) (by omega)) (by simp only [partR]; omega) (not_joins r t ht.2.1 hj hf _)).congr (by rw [show (partR r 1 (r.f1 - 1)).f1 = r.f1 - 1 from rfl, partR_part])
   ·exact Ends.neg h2 (j2f (fun k => h2 k.1))
  ·have hadd : addOf (d ++ [t]) r = d ++ [t] ++ [partR r 0 r.f1] := by
    rw [addOf, if_neg h0]
    simp only [List.reverse_append, List.reverse_cons, List.reverse_nil, List.nil_append, List.singleton_append, addR, if_neg hj]
    simp
   rw [hadd]
   exact rmore_new d t r (by omega) ht hr.near h1 hj
theorem rmore_ends (l : List S32) (r : S32) (hr : sane r) (hl : l.length ≤ 19999999990) (hlow : ∀ t ∈ l, lowT t ∧ t.f1 ≤ 1125899906842622) : Ends (fun k => papermillref13_more.f k l r.f0 r.f1 r.f2) (addOf l r) := by
 unfold papermillref13_more.f
 simp only [Option.bind_some, List.nil_append]
 exact Ends.pos (by simp; omega) (rmore_l0 l r hr hl hlow)
end Go.Proofs.Ytcnkmdonbpgjiaa.G

namespace Go.Proofs.Ytcnkmdonbpgjiaa.G
open Go.RowKit Go.Proofs.YtcnkmdonbpgjiaaW.PrintWords Go.Proofs.YtcnkmdonbpgjiaaW.PrintLast Go.Proofs.YtcnkmdonbpgjiaaW.PrintMore
set_option linter.unusedVariables false
set_option linter.unusedSimpArgs false
def fitX (xs : List Int) : Prop := ∀ x ∈ xs, 0 ≤ x ∧ x < 17179869184
theorem img_in {r : S32} (h : ¬ badR r) (i : Int) (h0 : 0 ≤ i) (h1 : i < r.f1) : 0 ≤ img r i ∧ img r i < 17179869184 := by
 unfold badR at h
 unfold img
 cases hb : r.f2 <;> simp [hb] at h ⊢ <;> omega
theorem sem_fit {l : List S32} (h : ∀ r ∈ l, ¬ badR r) : fitX (sem l) := by
 intro x hx
 obtain ⟨r, hr, hx⟩ := List.mem_flatMap.mp hx
 simp only [imgs, List.mem_map, List.mem_range] at hx
 obtain ⟨i, hi, rfl⟩ := hx
 exact img_in (h r hr) i (by omega) (by omega)
theorem mem_sem {l : List S32} {t : S32} (h : t ∈ l) (i : Nat) (hi : (i : Int) < t.f1) : img t i ∈ sem l := by
 refine List.mem_flatMap.mpr ⟨t, h, ?_⟩
 exact List.mem_iff_getElem?.mpr ⟨i, imgs_get t i hi⟩
theorem len_sem_mem {l : List S32} {t : S32} (h : t ∈ l) : t.f1.toNat ≤ (sem l).length := by
 induction l with
 | nil => simp at h
 | cons r l ih =>
  rw [sem_cons, List.length_append, imgs_len]
  rcases List.mem_cons.mp h with rfl | h
  ·omega
  ·have := ih h; omega
theorem check_nrm (xs : List Int) (h : fitX xs) (hl : xs.length ≤ 17179869184) (hn : (nrm xs).length ≤ 256) : check13 (nrm xs) = 0 := by
 have hok := nrm_ok xs
 have hg : ∀ t ∈ nrm xs, ¬ badR t := by
  intro t ht
  have h1 := (hok t ht).1
  have m0 := mem_sem ht 0 (by omega)
  have m1 := mem_sem ht (t.f1 - 1).toNat (by omega)
  have hlen := len_sem_mem ht
  rw [sem_nrm] at m0 m1 hlen
  have b0 := h _ m0
  have b1 := h _ m1
  rw [show (((t.f1 - 1).toNat : Nat) : Int) = t.f1 - 1 by omega] at b1
  unfold img at b0 b1
  unfold badR
  cases hb : t.f2 <;> simp [hb] at b0 b1 ⊢ <;> omega
 have ht := sem_len (nrm xs) (fun r hr => by have := (hok r hr).1; omega)
 rw [sem_nrm] at ht
 unfold check13
 rw [if_neg (by omega), if_neg, if_neg (by omega)]
 intro hb
 obtain ⟨t, ht2, hb⟩ := List.any_eq_true.mp hb
 exact hg t ht2 (by simpa using hb)
theorem tot_nrm (xs : List Int) : tot13 (nrm xs) = xs.length := by
 rw [← sem_len (nrm xs) (fun r hr => by have := (nrm_ok xs r hr).1; omega), sem_nrm]
theorem sem_small {l : List S32} (h : check13 l = 0) : (sem l).length ≤ 17179869184 := by
 have h1 := sem_tot h
 have h2 := (check13_zero h).2.2
 omega
theorem nrm_few {l : List S32} (h : check13 l = 0) : (nrm (sem l)).length ≤ l.length :=
 nrm_len l (fun r hr => (fit_of ((check13_zero h).2.1 r hr)).2.2.1)
theorem nrm_fair {l : List S32} (h : check13 l = 0) : check13 (nrm (sem l)) = 0 :=
 check_nrm _ (sem_fit (check13_zero h).2.1) (sem_small h) (by have := nrm_few h; have := (check13_zero h).1; omega)
theorem rev_few {l : List S32} (h : check13 l = 0) : (nrm (sem l).reverse).length ≤ l.length := by
 have hp : ∀ r ∈ l, 1 ≤ r.f1 := fun r hr => (fit_of ((check13_zero h).2.1 r hr)).2.2.1
 have := nrm_len (revL l) (revL_pos l hp)
 rw [sem_rev l hp, revL_len] at this
 exact this
theorem rev_fair {l : List S32} (h : check13 l = 0) : check13 (nrm (sem l).reverse) = 0 :=
 check_nrm _ (fun x hx => sem_fit (check13_zero h).2.1 x (List.mem_reverse.mp hx)) (by rw [List.length_reverse]; exact sem_small h) (by have := rev_few h; have := (check13_zero h).1; omega)
theorem normOf_nrm {l : List S32} (h : check13 l = 0) : normOf (nrm (sem l)) = (nrm (sem l), 0) := by unfold normOf; rw [if_pos (nrm_fair h), sem_nrm]
theorem at_nrm {l : List S32} (h : check13 l = 0) (x : Int) : atOf13 (nrm (sem l)) x = atOf13 l x := by
 unfold atOf13
 rw [if_pos (nrm_fair h), if_pos h, tot_nrm, ← sem_tot h, sem_nrm]
theorem rsame13_l0 (l : List S32) (hl : l.length ≤ 1000000) : ∀ (d i : Nat), l.length - i = d → i ≤ l.length → Ends (fun k => papermillref13_Same.l0 k l l (i : Int)) true := by
 intro d
 induction d with
 | zero =>
  intro i hd hi
  refine Ends.succ ?_
  simp only [papermillref13_Same.l0]
  exact Ends.neg (by omega) (Ends.ret _)
 | succ d ih =>
  intro i hd hi
  refine Ends.succ ?_
  simp only [papermillref13_Same.l0, wrap_nat i (by omega)]
  exact Ends.pos (by omega) (Ends.pos (by omega) (Ends.pos (by omega) (Ends.neg (by simp) (ih (i + 1) (by omega) (by omega)))))
theorem rsame13_ends (l : List S32) (hl : l.length ≤ 1000000) : Ends (fun k => papermillref13_Same.f k l l) true := by
 unfold papermillref13_Same.f
 exact Ends.pos rfl (rsame13_l0 l hl _ 0 rfl (by omega))
end Go.Proofs.Ytcnkmdonbpgjiaa.G

namespace Go.Proofs.Ytcnkmdonbpgjiaa.G
open Go.RowKit Go.Proofs.YtcnkmdonbpgjiaaW.PrintWords Go.Proofs.YtcnkmdonbpgjiaaW.PrintLast Go.Proofs.YtcnkmdonbpgjiaaW.PrintMore
set_option linter.unusedVariables false
set_option linter.unusedSimpArgs false
theorem addOf_nrm (xs : List Int) (p : S32) (h : 1 ≤ p.f1) : addOf (nrm xs) p = nrm (xs ++ imgs p) := by
 unfold nrm
 rw [List.foldl_append, ← addR_fold p h _ (fold_ok xs [] (by simp))]
 rw [addOf, if_neg (by omega), List.reverse_reverse]
theorem nrm_short (xs : List Int) : (nrm xs).length ≤ xs.length := by
 have key : ∀ (xs : List Int) (l : List S32), (xs.foldl one l).length ≤ l.length + xs.length := by
  intro xs
  induction xs with
  | nil => intro l; simp
  | cons x xs ih => intro l; have := ih (one l x); have := addR_len ⟨x, 1, false⟩ l; simp only [List.foldl_cons, List.length_cons]; unfold one at *; omega
 have := key xs []
 unfold nrm
 simpa using this
theorem nrm_low (xs : List Int) (hf : fitX xs) (hl : xs.length ≤ 17179869184) : ∀ t ∈ nrm xs, lowT t ∧ t.f1 ≤ 1125899906842622 := by
 intro t ht
 have h1 := (nrm_ok xs t ht).1
 have m0 := mem_sem ht 0 (by omega)
 have hlen := len_sem_mem ht
 rw [sem_nrm] at m0 hlen
 have b0 := hf _ m0
 have e0 : img t ((0 : Nat) : Int) = t.f0 := by unfold img; split <;> simp
 rw [e0] at b0
 unfold lowT
 omega
theorem rmore_nrm (xs : List Int) (hf : fitX xs) (r : S32) (h1 : 1 ≤ r.f1) (hr : sane r) (hl : xs.length ≤ 17179869184) : Ends (fun k => papermillref13_more.f k (nrm xs) r.f0 r.f1 r.f2) (nrm (xs ++ imgs r)) :=
 (rmore_ends (nrm xs) r hr (by have := nrm_short xs; omega) (nrm_low xs hf hl)).congr (addOf_nrm xs r h1)
end Go.Proofs.Ytcnkmdonbpgjiaa.G

namespace Go.Proofs.Ytcnkmdonbpgjiaa.G
open Go.RowKit Go.Proofs.YtcnkmdonbpgjiaaW.PrintWords Go.Proofs.YtcnkmdonbpgjiaaW.PrintLast Go.Proofs.YtcnkmdonbpgjiaaW.PrintMore
set_option linter.unusedVariables false
set_option linter.unusedSimpArgs false
theorem fit_imgs {r : S32} (h : ¬ badR r) : fitX (imgs r) := by
 have e : sem [r] = imgs r := by simp [sem]
 rw [← e]
 exact sem_fit (fun x hx => by rw [List.mem_singleton.mp hx]; exact h)
theorem fit_join {xs ys : List Int} (h : fitX xs) (k : fitX ys) : fitX (xs ++ ys) := by
 intro x hx
 rcases List.mem_append.mp hx with hx | hx
 ·exact h x hx
 ·exact k x hx
theorem tot_pos {l : List S32} (hg : ∀ r ∈ l, ¬ badR r) : 0 ≤ tot13 l := by
 rw [← sem_len l (fun x hx => by have := fit_of (hg x hx); unfold fitR at this; omega)]
 omega
theorem rall_l0 (l : List S32) (hl : l.length ≤ 1000000) (hg : ∀ r ∈ l, ¬ badR r) : ∀ (d i : Nat) (xs : List Int), l.length - i = d → i ≤ l.length → fitX xs → xs.length + tot13 (l.drop i) ≤ 17179869184 → Ends (fun k => papermillref13_all.l0 k l (nrm xs) (i : Int)) (nrm (xs ++ sem (l.drop i))) := by
 intro d
 induction d with
 | zero =>
  intro i xs hd hi hf ht
  refine Ends.succ ?_
  simp only [papermillref13_all.l0]
  rw [List.drop_of_length_le (by omega), sem_nil, List.append_nil]
  exact Ends.neg (by omega) (Ends.ret _)
 | succ d ih =>
  intro i xs hd hi hf ht
  refine Ends.succ ?_
  have hx := hg (rd_T32 l (i : Int)) (by rw [rdR l i (by omega)]; exact List.getElem_mem _)
  rw [dropR l i (by omega)] at ht ⊢
  simp only [papermillref13_all.l0, wrap_nat i (by omega)]
  generalize rd_T32 l (i : Int) = r at *
  have hr := fit_of hx
  unfold fitR at hr
  rw [tot13_cons] at ht
  have h0 : 0 ≤ tot13 (l.drop (i + 1)) := tot_pos (fun x hx => hg x (List.mem_of_mem_drop hx))
  refine Ends.pos (by omega) (Ends.pos (by omega) (Ends.bind (rmore_nrm xs hf r (by omega) ⟨by omega, by omega, by omega⟩ (by omega)) ?_))
  refine (ih (i + 1) (xs ++ imgs r) (by omega) (by omega) (fit_join hf (fit_imgs hx)) (by rw [List.length_append, imgs_len]; omega)).congr ?_
  rw [sem_cons, List.append_assoc]
theorem rall_ends (l : List S32) (hl : l.length ≤ 1000000) (hg : ∀ r ∈ l, ¬ badR r) (ht : tot13 l ≤ 17179869184) : Ends (fun k => papermillref13_all.f k l) (nrm (sem l)) := by
 unfold papermillref13_all.f
 exact (rall_l0 l hl hg _ 0 [] rfl (by omega) (by intro x hx; simp at hx) (by simpa using ht)).congr (by simp)
end Go.Proofs.Ytcnkmdonbpgjiaa.G

namespace Go.Proofs.Ytcnkmdonbpgjiaa.G
open Go.RowKit Go.Proofs.YtcnkmdonbpgjiaaW.PrintWords Go.Proofs.YtcnkmdonbpgjiaaW.PrintLast Go.Proofs.YtcnkmdonbpgjiaaW.PrintMore
set_option linter.unusedVariables false
set_option linter.unusedSimpArgs false
def placeGo : List S32 → Int → Int → Int × Int
 | [], _, _ => (-1, 0)
 | r :: b, i, y => if y < r.f1 then (i, y) else placeGo b (i + 1) (y - r.f1)
theorem rplace_l0 (b : List S32) (hb : b.length ≤ 256) (hv : ∀ r ∈ b, 0 ≤ r.f1 ∧ r.f1 ≤ 17179869184) : ∀ (d i : Nat) (y : Int), b.length - i = d → i ≤ b.length → 0 ≤ y → y ≤ 9223372036854775807 → Ends (fun k => papermillref13_place.l0 k b y (i : Int)) (placeGo (b.drop i) i y) := by
 intro d
 induction d with
 | zero =>
  intro i y hd hi h0 h1
  refine Ends.succ ?_
  simp only [papermillref13_place.l0]
  rw [List.drop_of_length_le (by omega)]
  refine Ends.neg (by omega) (Ends.succ ?_)
  simp only [papermillref13_place.j1]
  exact Ends.neg (by simp) (Ends.ret _)
 | succ d ih =>
  intro i y hd hi h0 h1
  refine Ends.succ ?_
  have hx := hv (rd_T32 b (i : Int)) (by rw [rdR b i (by omega)]; exact List.getElem_mem _)
  rw [dropR b i (by omega)]
  simp only [papermillref13_place.l0, placeGo]
  refine Ends.pos (by omega) (Ends.succ ?_)
  simp only [papermillref13_place.j1, wrap_nat i (by omega)]
  generalize rd_T32 b (i : Int) = r at *
  have ew : wrap64 (y - r.f1) = y - r.f1 := by unfold wrap64; omega
  refine Ends.pos (by simpa using h0) (Ends.pos (by omega) (Ends.pos (by omega) ?_))
  by_cases h : y < r.f1
  ·rw [if_pos h]; exact Ends.pos h (Ends.ret _)
  ·rw [if_neg h, ew]
   exact Ends.neg h (ih (i + 1) (y - r.f1) (by omega) (by omega) (by omega) (by omega))
theorem rplace_ends (b : List S32) (hb : b.length ≤ 256) (hv : ∀ r ∈ b, 0 ≤ r.f1 ∧ r.f1 ≤ 17179869184) (y : Int) (h0 : 0 ≤ y) (h1 : y ≤ 9223372036854775807) : Ends (fun k => papermillref13_place.f k b y) (placeGo b 0 y) := by
 unfold papermillref13_place.f
 exact (rplace_l0 b hb hv _ 0 y rfl (by omega) h0 h1).congr (by simp)
theorem place_none (b : List S32) : ∀ (i y : Int), tot13 b ≤ y → (∀ r ∈ b, 0 ≤ r.f1) → placeGo b i y = (-1, 0) := by
 induction b with
 | nil => intro i y _ _; rfl
 | cons r b ih =>
  intro i y h hv
  rw [tot13_cons] at h
  have h2 := ih (i + 1) (y - r.f1) (by omega) (fun x hx => hv x (by simp [hx]))
  have h3 : 0 ≤ tot13 b := by
   rw [← sem_len b (fun x hx => hv x (by simp [hx]))]; omega
  simp only [placeGo]
  rw [if_neg (by omega), h2]
theorem look_cons (r : S32) (b : List S32) (h : 0 ≤ r.f1) (y : Int) (h0 : 0 ≤ y) : lookOf (sem (r :: b)) y = if y < r.f1 then img r y else lookOf (sem b) (y - r.f1) := by
 unfold lookOf
 rw [sem_cons, List.getD_eq_getElem?_getD, List.getD_eq_getElem?_getD]
 by_cases hy : y < r.f1
 ·rw [if_pos hy, List.getElem?_append_left (by rw [imgs_len]; omega), imgs_get r y.toNat (by omega), show ((y.toNat : Nat) : Int) = y by omega]
  rfl
 ·rw [if_neg hy, List.getElem?_append_right (by rw [imgs_len]; omega), imgs_len, show y.toNat - r.f1.toNat = (y - r.f1).toNat by omega]
theorem place_some (b : List S32) : ∀ (i : Nat) (y : Int), 0 ≤ y → y < tot13 b → (∀ r ∈ b, 0 ≤ r.f1) → ∃ (j : Nat) (p : Int) (o : S32), placeGo b i y = (((i + j : Nat) : Int), p) ∧ b[j]? = some o ∧ 0 ≤ p ∧ p < o.f1 ∧ ∀ u : Int, 0 ≤ p + u → p + u < o.f1 → (0 ≤ y + u ∧ y + u < tot13 b) ∧ lookOf (sem b) (y + u) = img o (p + u) := by
 induction b with
 | nil => intro i y h0 h1 _; simp [tot13] at h1; omega
 | cons r b ih =>
  intro i y h0 h1 hv
  have hr := hv r (by simp)
  have hT : 0 ≤ tot13 b := by rw [← sem_len b (fun x hx => hv x (by simp [hx]))]; omega
  rw [tot13_cons] at h1
  simp only [placeGo]
  by_cases hy : y < r.f1
  ·rw [if_pos hy]
   refine ⟨0, y, r, by simp, rfl, h0, hy, fun u hu0 hu1 => ⟨⟨hu0, by rw [tot13_cons]; omega⟩, ?_⟩⟩
   rw [look_cons r b hr _ hu0, if_pos hu1]
  ·rw [if_neg hy]
   obtain ⟨j, p, o, e, ho, hp0, hp1, hu⟩ := ih (i + 1) (y - r.f1) (by omega) (by omega) (fun x hx => hv x (by simp [hx]))
   refine ⟨j + 1, p, o, ?_, by simpa using ho, hp0, hp1, fun u hu0 hu1 => ?_⟩
   ·rw [show ((i : Int) + 1) = ((i + 1 : Nat) : Int) by omega, e]
    congr 1
    omega
   ·obtain ⟨h2, h3⟩ := hu u hu0 hu1
    refine ⟨⟨by omega, by rw [tot13_cons]; omega⟩, ?_⟩
    rw [look_cons r b hr _ (by omega), if_neg (by omega), ← h3, show y + u - r.f1 = y - r.f1 + u by omega]
end Go.Proofs.Ytcnkmdonbpgjiaa.G

namespace Go.Proofs.Ytcnkmdonbpgjiaa.G
open Go.RowKit Go.Proofs.YtcnkmdonbpgjiaaW.PrintWords Go.Proofs.YtcnkmdonbpgjiaaW.PrintLast Go.Proofs.YtcnkmdonbpgjiaaW.PrintMore
set_option linter.unusedVariables false
set_option linter.unusedSimpArgs false
theorem rat_ends (l : List S32) (h : check13 l = 0) (x : Int) (h0 : 0 ≤ x) (h1 : x < tot13 l) : Ends (fun k => papermillref13_At.f k l x) (atOf13 l x) := by
 obtain ⟨hl, hg, ht⟩ := check13_zero h
 have hf : ∀ r ∈ l, 0 ≤ r.f1 ∧ r.f1 ≤ 17179869184 := fun r hr => by have := fit_of (hg r hr); unfold fitR at this; omega
 unfold papermillref13_At.f
 refine Ends.bind (rcheck_ends l) ?_
 refine Ends.pos h (Ends.bind (rplace_ends l hl hf x h0 (by omega)) ?_)
 obtain ⟨j, p, o, hpl, hj, hp0, hp1, hu⟩ := place_some l 0 x h0 h1 (fun r hr => (hf r hr).1)
 rw [show ((0 : Nat) : Int) = 0 from rfl] at hpl
 rw [hpl]
 have hjl : j < l.length := by
  rcases Nat.lt_or_ge j l.length with h | h
  ·exact h
  ·rw [List.getElem?_eq_none h] at hj; cases hj
 have ho : rd_T32 l ((0 + j : Nat) : Int) = o := by
  rw [Nat.zero_add, rdR l j hjl]
  rw [List.getElem?_eq_getElem hjl] at hj
  exact Option.some.inj hj
 have hom : o ∈ l := List.mem_of_getElem? hj
 have hof := fit_of (hg o hom)
 unfold fitR at hof
 have himg : papermillref13_image.f o.f0 o.f1 o.f2 p = some (img o p) := image_is o p ⟨by omega, by omega, by omega⟩ (by omega) (by omega)
 refine Ends.neg (by dsimp only; omega) (Ends.pos (by dsimp only; omega) (Ends.pos (by dsimp only; omega) ?_))
 dsimp only
 rw [ho, himg]
 have h2 := (hu 0 (by omega) (by omega)).2
 rw [Int.add_zero, Int.add_zero] at h2
 have e : atOf13 l x = (img o p, 0) := by
  unfold atOf13
  rw [if_pos h, if_neg (by omega), ← h2]
  rfl
 rw [e]
 exact Ends.ret _
end Go.Proofs.Ytcnkmdonbpgjiaa.G
