import Derived.Test.YtalpegglbfobiaaQ1
import Derived.Test.YtalpegglbfobiaaQ4
import Derived.Test.YtalpegglbfobiaaQ5
namespace Go.Proofs.Ytalpegglbfobiaa.G
open Go.RowKit Go.Proofs.YtalpegglbfobiaaW.PrintWords Go.Proofs.YtalpegglbfobiaaW.PrintLast Go.Proofs.YtalpegglbfobiaaW.PrintMore
attribute [local go_sem] max2_int min2_int max_two min_two max_three min_three max_four min_four   -- for this text's walks alone
set_option linter.unusedVariables false
set_option linter.unusedSimpArgs false

def papermillref41_back.f (a0 : Int) (a1 : Int) : Option ((List (S44))) := some (([(⟨a0, a1, decide (a1 > 1)⟩ : S44)] : List (S44)))
set_option maxHeartbeats 8000000 in
set_option maxRecDepth 100000 in
theorem papermillref41_back.calls (a0 : Int) (a1 : Int) (r : List (S44)) (w : World) (h : papermillref41_back.f a0 a1 = some r) :
  Calls Try.prog 32 #[.int .i64 a0, .int .i64 a1] w fun e w' => ∃ v0_ : Value, e = .returned (v0_) ∧ Kd.R k44 44 w' w.heap.size (fun _ => True) v0_ r ∧ Below w.heap.size w w' := by
 have hu44 := Try.underlying44
 have HB := Aside0.mk (Below.refl w.heap.size w)
 have H : (some (([(⟨a0, a1, decide (a1 > 1)⟩ : S44)] : List (S44)))) = some r := h
 clear h
 obtain ⟨y33001, hy33001⟩ : ∃ y_ : List (S44), y_ = (([(⟨a0, a1, decide (a1 > 1)⟩ : S44)] : List (S44))) := ⟨_, rfl⟩
 replace H : (some y33001) = some r := by first | (rw [hy33001]; with_reducible exact H) | (have H2_ := (Option.bind_some _ _).symm.trans H; rw [hy33001]; with_reducible exact H2_) | (have H2_ := (Option.bind_some _ _).symm.trans H; with_reducible exact H2_) | with_reducible exact H | (rw [hy33001]; exact H) | exact H
 have Ny33001 := Aside0.mk hy33001
 clear hy33001
 obtain rfl := Option.some.inj H
 go_enter Try.func32, Try.ntmps32
 go_wp2_with (first | ((with_reducible refine gate_dst (N := 10) rfl ?_); refine Kd.R_lit k44 _ 44 ?hg (N := 10) ?hd (xs := ([(⟨a0, a1, decide (a1 > 1)⟩ : S44)] : List (S44))) (inner := [.int .i64 a0, .int .i64 a1, .bool (decide (a1 > 1))]) (ok := fun _ => True) (okp := fun _ => True) ?hr ?hp (fun _ hk => hk) trivial (Below.refl _ _) (Nat.le_refl _) (by simp) ?_; (case hd => rfl); (case hg => rfl); (case hr => first | (go_simp; done) | (go_simp; rfl)); (case hp => exact (Reps.c3 (show Kd.M k44 _ _ _ (⟨a0, a1, decide (a1 > 1)⟩ : S44) [.int .i64 a0, .int .i64 a1, .bool (decide (a1 > 1))] from (k44_mkM _ _ _ (⟨a0, a1, decide (a1 > 1)⟩ : S44) )) (Reps.none _ _))); intro v33002 w3 ho4 hb hg_ hnew_; clear hg_ hnew_; (first | rw [← Ny33001.out] at ho4 | (simp only [Int.reduceToNat] at ho4; rw [← Ny33001.out] at ho4)); have n0_ := Aside0.mk (Kd.R_lower ho4 (below_size (by repeat (first | exact HB.out | apply below_alloc | apply pw_below_drewN | apply below_drew1)))); have n1_ := Aside0.mk (below_step (by repeat (first | exact HB.out | apply below_alloc | apply pw_below_drewN | apply below_drew1)) hb); clear HB; have HO33003 := n0_; have HB := n1_; clear n0_ n1_; clear hb ho4))
 go_ret
 exact ⟨_, by first | rfl | (simp [errW_none, errW_some] <;> rfl) | (simp [*, errW_none, errW_some] <;> rfl), by exact HO33003.out, by repeat (first | exact HB.out | apply below_alloc | apply pw_below_drewN | apply below_drew1)⟩

end Go.Proofs.Ytalpegglbfobiaa.G

namespace Go.Proofs.Ytalpegglbfobiaa.G
open Go.RowKit Go.Proofs.YtalpegglbfobiaaW.PrintWords Go.Proofs.YtalpegglbfobiaaW.PrintLast Go.Proofs.YtalpegglbfobiaaW.PrintMore
attribute [local go_sem] max2_int min2_int max_two min_two max_three min_three max_four min_four   -- for this text's walks alone
set_option linter.unusedVariables false
set_option linter.unusedSimpArgs false

mutual
def papermillref41_Split.j0 : Nat → Int → List Int → Bool → Option ((List (List (S44))) × Int)
 | 0, _, _, _ => none
 | k + 1, x0, x1, x15 => if x15 = true then (some (([] : List (List (S44))), 1)) else (if (x1.length : Int) = 0 then (some (([] : List (List (S44))), 10)) else (if (x1.length : Int) > 512 then (some (([] : List (List (S44))), 8)) else (papermillref41_Split.l0 k x0 x1 0 0)))
def papermillref41_Split.l0 : Nat → Int → List Int → Int → Int → Option ((List (List (S44))) × Int)
 | 0, _, _, _, _ => none
 | k + 1, x0, x1, x6, x7 => if x7 < (x1.length : Int) then (if 0 ≤ x7 then (if (rd x1 x7) < 1 then (some (([] : List (List (S44))), 1)) else (if (rd x1 x7) > 17179869184 then (some (([] : List (List (S44))), 1)) else (papermillref41_Split.l0 k x0 x1 (wrap64 (x6 + (rd x1 x7))) (wrap64 (x7 + 1))))) else (none)) else (if x6 > x0 then (some (([] : List (List (S44))), 21)) else (papermillref41_Split.l1 k x0 x1 ([] : List (List (S44))) 0))
def papermillref41_Split.l1 : Nat → Int → List Int → List (List (S44)) → Int → Option ((List (List (S44))) × Int)
 | 0, _, _, _, _ => none
 | k + 1, x0, x1, x8, x9 => if x9 < (x1.length : Int) then (if 0 ≤ x9 then ((papermillref41_back.f (wrap64 (x0 - 1)) (rd x1 x9)).bind fun t19005 => (if x8.length < 5864062014805 then (papermillref41_Split.l1 k (wrap64 (x0 - (rd x1 x9))) x1 (x8 ++ [t19005]) (wrap64 (x9 + 1))) else (none))) else (none)) else (some (x8, 0))
end
def papermillref41_Split.f (k : Nat) (a0 : Int) (l1 : List Int) : Option ((List (List (S44))) × Int) := if a0 < 1 then (papermillref41_Split.j0 k a0 l1 true) else (papermillref41_Split.j0 k a0 l1 (decide (a0 > 17179869184)))
theorem papermillref41_Split.mono_l : ∀ k, (∀ y0 y1 y2, LeO (papermillref41_Split.j0 k y0 y1 y2) (papermillref41_Split.j0 (k + 1) y0 y1 y2)) ∧ (∀ y0 y1 y2 y3, LeO (papermillref41_Split.l0 k y0 y1 y2 y3) (papermillref41_Split.l0 (k + 1) y0 y1 y2 y3)) ∧ (∀ y0 y1 y2 y3, LeO (papermillref41_Split.l1 k y0 y1 y2 y3) (papermillref41_Split.l1 (k + 1) y0 y1 y2 y3))
 | 0 => ⟨fun _ _ _ r h => by simp [papermillref41_Split.j0] at h, fun _ _ _ _ r h => by simp [papermillref41_Split.l0] at h, fun _ _ _ _ r h => by simp [papermillref41_Split.l1] at h⟩
 | k + 1 => by
  obtain ⟨ih0, ih1, ih2⟩ := papermillref41_Split.mono_l k
  refine ⟨?_, ?_, ?_⟩
  ·intro y0 y1 y2
   unfold papermillref41_Split.j0
   repeat' first
   | (with_reducible exact ih0 _ _ _)
   | (with_reducible exact ih1 _ _ _ _)
   | (with_reducible exact ih2 _ _ _ _)
   | (with_reducible exact LeO.refl _)
   | (with_reducible exact LeO.none _)
   | (with_reducible refine LeO.ite ?_ ?_)
   | (with_reducible refine LeO.bind ?_ (fun _ => ?_))
   | exact ih0 _ _ _
   | exact ih1 _ _ _ _
   | exact ih2 _ _ _ _
   | exact LeO.none _
   | refine LeO.ite ?_ ?_
   | refine LeO.bind ?_ (fun _ => ?_)
  ·intro y0 y1 y2 y3
   unfold papermillref41_Split.l0
   repeat' first
   | (with_reducible exact ih0 _ _ _)
   | (with_reducible exact ih1 _ _ _ _)
   | (with_reducible exact ih2 _ _ _ _)
   | (with_reducible exact LeO.refl _)
   | (with_reducible exact LeO.none _)
   | (with_reducible refine LeO.ite ?_ ?_)
   | (with_reducible refine LeO.bind ?_ (fun _ => ?_))
   | exact ih0 _ _ _
   | exact ih1 _ _ _ _
   | exact ih2 _ _ _ _
   | exact LeO.none _
   | refine LeO.ite ?_ ?_
   | refine LeO.bind ?_ (fun _ => ?_)
  ·intro y0 y1 y2 y3
   unfold papermillref41_Split.l1
   repeat' first
   | (with_reducible exact ih0 _ _ _)
   | (with_reducible exact ih1 _ _ _ _)
   | (with_reducible exact ih2 _ _ _ _)
   | (with_reducible exact LeO.refl _)
   | (with_reducible exact LeO.none _)
   | (with_reducible refine LeO.ite ?_ ?_)
   | (with_reducible refine LeO.bind ?_ (fun _ => ?_))
   | exact ih0 _ _ _
   | exact ih1 _ _ _ _
   | exact ih2 _ _ _ _
   | exact LeO.none _
   | refine LeO.ite ?_ ?_
   | refine LeO.bind ?_ (fun _ => ?_)
theorem papermillref41_Split.mono : ∀ a0 a1 k, LeO (papermillref41_Split.f k a0 a1) (papermillref41_Split.f (k + 1) a0 a1) := by
 intro a0 a1 k
 obtain ⟨ih0, ih1, ih2⟩ := papermillref41_Split.mono_l k
 unfold papermillref41_Split.f
 repeat' first
   | (with_reducible exact ih0 _ _ _)
   | (with_reducible exact ih1 _ _ _ _)
   | (with_reducible exact ih2 _ _ _ _)
   | (with_reducible exact LeO.refl _)
   | (with_reducible exact LeO.none _)
   | (with_reducible refine LeO.ite ?_ ?_)
   | (with_reducible refine LeO.bind ?_ (fun _ => ?_))
   | exact ih0 _ _ _
   | exact ih1 _ _ _ _
   | exact ih2 _ _ _ _
   | exact LeO.none _
   | refine LeO.ite ?_ ?_
   | refine LeO.bind ?_ (fun _ => ?_)
set_option maxHeartbeats 8000000 in
set_option maxRecDepth 100000 in
theorem papermillref41_Split.calls (k : Nat) (a0 : Int) (A1 : Option Addr) (c1 : Nat) (l1 : List Int) (r1 : List (List (S44))) (r2 : Int) (w : World) (hr1 : Kd.C (Kd.int .i64) w A1 l1.length l1) (hc1 : l1.length ≤ c1) (h : papermillref41_Split.f k a0 l1 = some (r1, r2)) :
  Calls Try.prog 18 #[.int .i64 a0, .slice A1 l1.length c1] w fun e w' => ∃ v0_ : Value, e = .returned (.tuple #[v0_, .int .i64 r2]) ∧ Kd.S (Kd.slice 44 k44) 22 w' w.heap.size (fun _ => True) v0_ r1 ∧ Below w.heap.size w w' := by
 have HR1 := Aside0.mk hr1
 have HC1 := Aside0.mk hc1
 clear hr1 hc1
 have HB := Aside0.mk (Below.refl w.heap.size w)
 have H : (if a0 < 1 then (papermillref41_Split.j0 k a0 l1 true) else (papermillref41_Split.j0 k a0 l1 (decide (a0 > 17179869184)))) = some (r1, r2) := h
 clear h
 have HC3 := Aside0.mk H
 clear H
 go_enter Try.func18, Try.ntmps18
 go_upto_region 1 with (fail)
 go_cut [15] (fun v15 wc => ∃ (kq : Nat) (x15_2 : Bool), v15 = .bool x15_2 ∧ Aside0 (papermillref41_Split.j0 kq a0 l1 x15_2 = some (r1, r2)) ∧ Aside0 (kq ≤ k) ∧ Aside0 (Below w.heap.size w wc))
 case first =>
  have H := HC3.out
  clear HC3
  by_cases c4 : a0 < 1
  ·rw [if_pos c4] at H
   have c4b0 : decide (a0 < 1) = true := decide_eq_true c4
   clear c4
   (first | rw [c4b0] | (simp only [i64_w, i32_w]; rw [c4b0]) | skip)
   have H' := Aside0.mk H
   clear H
   go_wp2
   go_meet
   case rel => exact ⟨_, (true), (by first | rfl | (simp; done) | (simp [*]; done)), H', ⟨by first | omega | exact Nat.le_refl _⟩, ⟨by repeat (first | exact HB.out | apply below_alloc | apply pw_below_drewN | apply below_drew1)⟩⟩
  ·rw [if_neg c4] at H
   have c4b0 : decide (a0 < 1) = false := decide_eq_false c4
   clear c4
   (first | rw [c4b0] | (simp only [i64_w, i32_w]; rw [c4b0]) | skip)
   have H' := Aside0.mk H
   clear H
   go_wp2
   go_meet
   case rel => exact ⟨_, (decide (a0 > 17179869184)), (by first | rfl | (simp; done) | (simp [*]; done)), H', ⟨by first | omega | exact Nat.le_refl _⟩, ⟨by repeat (first | exact HB.out | apply below_alloc | apply pw_below_drewN | apply below_drew1)⟩⟩
 case rest =>
  clear HC3
  try clear c1
  try clear p2
  try clear c4
  try clear c4b0
  obtain ⟨kq, x15_2, rfl, HA, HJ2, HB⟩ := hcut
  cases kq with
  | zero => exact absurd HA.out (by simp [papermillref41_Split.j0])
  | succ kj2 =>
   have H := HA.out
   clear HA
   simp only [papermillref41_Split.j0] at H
   by_cases c5 : x15_2 = true
   ·subst c5
    have H1 : (some (([] : List (List (S44))), 1)) = some (r1, r2) := by rw [if_pos rfl] at H; exact H
    clear H
    have H := H1
    clear H1
    simp only [Option.some.injEq, Prod.mk.injEq] at H
    obtain ⟨rfl, rfl⟩ := H
    go_wp2
    go_ret2
    exact ⟨_, by first | rfl | (simp [errW_none, errW_some] <;> rfl) | (simp [*, errW_none, errW_some] <;> rfl), by first | exact Kd.S_nil _ _ _ _ _ | exact Kd.N_nil _ _ _ _ _ | exact Kd.V_nil _ _ _ _ _ | exact Kd.Q_nil _ _ _ _ _ | exact Kd.R_nil _ _ _ _ _, by repeat (first | exact HB.out | apply below_alloc | apply pw_below_drewN | apply below_drew1)⟩
   ·replace c5 := Bool.eq_false_iff.mpr c5
    subst c5
    have H1 : (if (l1.length : Int) = 0 then (some (([] : List (List (S44))), 10)) else (if (l1.length : Int) > 512 then (some (([] : List (List (S44))), 8)) else (papermillref41_Split.l0 kj2 a0 l1 0 0))) = some (r1, r2) := by rw [if_neg (show ¬ (false = true) by decide)] at H; first | exact H | simpa using H
    clear H
    have H := H1
    clear H1
    by_cases c6 : (l1.length : Int) = 0
    ·rw [if_pos c6] at H
     have c6b0 : ((l1.length : Int) == 0) = true := beq_iff_eq.mpr c6
     have c6b1 : ((l1.length : Int) != 0) = false := bne_eq_false_iff_eq.mpr c6
     clear c6
     simp only [Option.some.injEq, Prod.mk.injEq] at H
     obtain ⟨rfl, rfl⟩ := H
     go_wp2
     go_ret2
     exact ⟨_, by first | rfl | (simp [errW_none, errW_some] <;> rfl) | (simp [*, errW_none, errW_some] <;> rfl), by first | exact Kd.S_nil _ _ _ _ _ | exact Kd.N_nil _ _ _ _ _ | exact Kd.V_nil _ _ _ _ _ | exact Kd.Q_nil _ _ _ _ _ | exact Kd.R_nil _ _ _ _ _, by repeat (first | exact HB.out | apply below_alloc | apply pw_below_drewN | apply below_drew1)⟩
    ·rw [if_neg c6] at H
     have c6b0 : ((l1.length : Int) == 0) = false := beq_eq_false_iff_ne.mpr c6
     have c6b1 : ((l1.length : Int) != 0) = true := bne_iff_ne.mpr c6
     have c6b2 : ¬ (l1 = []) := fun h_ => c6 (by rw [h_]; rfl)
     by_cases c7 : (l1.length : Int) > 512
     ·rw [if_pos c7] at H
      have c7b0 : decide (512 < (l1.length : Int)) = true := decide_eq_true c7
      have c7b1 : decide (512 < l1.length) = true := decide_eq_true (by omega)
      clear c7
      simp only [Option.some.injEq, Prod.mk.injEq] at H
      obtain ⟨rfl, rfl⟩ := H
      go_wp2
      go_ret2
      exact ⟨_, by first | rfl | (simp [errW_none, errW_some] <;> rfl) | (simp [*, errW_none, errW_some] <;> rfl), by first | exact Kd.S_nil _ _ _ _ _ | exact Kd.N_nil _ _ _ _ _ | exact Kd.V_nil _ _ _ _ _ | exact Kd.Q_nil _ _ _ _ _ | exact Kd.R_nil _ _ _ _ _, by repeat (first | exact HB.out | apply below_alloc | apply pw_below_drewN | apply below_drew1)⟩
     ·rw [if_neg c7] at H
      have c7b0 : decide (512 < (l1.length : Int)) = false := decide_eq_false c7
      have c7b1 : decide (512 < l1.length) = false := decide_eq_false (by omega)
      clear c7
      have H' := Aside0.mk H
      clear H
      go_wp2
      go_loopg [6, 7] kj2 (fun kq v6 v7 w' => ∃ (x6_2 : Int) (x7_2 : Int), v6 = .int .i64 x6_2 ∧ v7 = .int .i64 x7_2 ∧ Aside0 (papermillref41_Split.l0 kq a0 l1 x6_2 x7_2 = some (r1, r2)) ∧ Aside0 (kq ≤ kj2) ∧ Aside0 (Below w.heap.size w w'))
      case atStart => exact ⟨(0), (0), (by first | rfl | (simp; done) | (simp [*]; done)), (by first | rfl | (simp; done) | (simp [*]; done)), H', ⟨Nat.le_refl _⟩, ⟨by repeat (first | exact HB.out | apply below_alloc | apply pw_below_drewN | apply below_drew1)⟩⟩
      case round =>
       clear H'
       try clear c1
       try clear p2
       try clear c4
       try clear c4b0
       try clear c5
       try clear c6
       try clear c6b0
       try clear c6b1
       try clear c6b2
       try clear c7
       try clear c7b0
       try clear c7b1
       try clear p2
       obtain ⟨x6_2, x7_2, rfl, rfl, HA, HK2, HB⟩ := hrel
       cases gk with
       | zero => exact absurd HA.out (by simp [papermillref41_Split.l0])
       | succ k2 =>
        have H := HA.out
        clear HA
        simp only [papermillref41_Split.l0] at H
        by_cases c8 : x7_2 < (l1.length : Int)
        ·rw [if_pos c8] at H
         have c8b0 : decide (x7_2 < (l1.length : Int)) = true := decide_eq_true c8
         clear c8
         by_cases c9 : 0 ≤ x7_2
         ·rw [if_pos c9] at H
          have c9b0 : decide (0 ≤ x7_2) = true := decide_eq_true c9
          clear c9
          by_cases c10 : (rd l1 x7_2) < 1
          ·rw [if_pos c10] at H
           have c10b0 : decide ((rd l1 x7_2) < 1) = true := decide_eq_true c10
           clear c10
           simp only [Option.some.injEq, Prod.mk.injEq] at H
           obtain ⟨rfl, rfl⟩ := H
           have p19001 : 0 ≤ (x7_2 : Int) := of_decide_eq_true (by assumption)
           have q19001 : x7_2 < (l1.length : Int) := of_decide_eq_true (by assumption)
           obtain ⟨ad19001, e19001, hx19001_0⟩ := Kd.at_int HR1.out x7_2 p19001 q19001
           cases e19001
           replace hx19001_0 := (HB.out.cell (World.block_lt_of_cell? w _ hx19001_0)).trans hx19001_0
           replace p19001 := eq_true p19001
           replace q19001 := eq_true q19001
           go_wp2
           go_ret2
           exact ⟨_, by first | rfl | (simp [errW_none, errW_some] <;> rfl) | (simp [*, errW_none, errW_some] <;> rfl), by first | exact Kd.S_nil _ _ _ _ _ | exact Kd.N_nil _ _ _ _ _ | exact Kd.V_nil _ _ _ _ _ | exact Kd.Q_nil _ _ _ _ _ | exact Kd.R_nil _ _ _ _ _, by repeat (first | exact HB.out | apply below_alloc | apply pw_below_drewN | apply below_drew1)⟩
          ·rw [if_neg c10] at H
           have c10b0 : decide ((rd l1 x7_2) < 1) = false := decide_eq_false c10
           clear c10
           by_cases c11 : (rd l1 x7_2) > 17179869184
           ·rw [if_pos c11] at H
            have c11b0 : decide (17179869184 < (rd l1 x7_2)) = true := decide_eq_true c11
            clear c11
            simp only [Option.some.injEq, Prod.mk.injEq] at H
            obtain ⟨rfl, rfl⟩ := H
            have p19001 : 0 ≤ (x7_2 : Int) := of_decide_eq_true (by assumption)
            have q19001 : x7_2 < (l1.length : Int) := of_decide_eq_true (by assumption)
            obtain ⟨ad19001, e19001, hx19001_0⟩ := Kd.at_int HR1.out x7_2 p19001 q19001
            cases e19001
            replace hx19001_0 := (HB.out.cell (World.block_lt_of_cell? w _ hx19001_0)).trans hx19001_0
            replace p19001 := eq_true p19001
            replace q19001 := eq_true q19001
            have p19002 : 0 ≤ (x7_2 : Int) := of_decide_eq_true (by assumption)
            have q19002 : x7_2 < (l1.length : Int) := of_decide_eq_true (by assumption)
            obtain ⟨ad19002, e19002, hx19002_0⟩ := Kd.at_int HR1.out x7_2 p19002 q19002
            obtain rfl : ad19001 = ad19002 := (by injection e19002)
            replace hx19002_0 := (HB.out.cell (World.block_lt_of_cell? w _ hx19002_0)).trans hx19002_0
            replace p19002 := eq_true p19002
            replace q19002 := eq_true q19002
            go_wp2
            go_ret2
            exact ⟨_, by first | rfl | (simp [errW_none, errW_some] <;> rfl) | (simp [*, errW_none, errW_some] <;> rfl), by first | exact Kd.S_nil _ _ _ _ _ | exact Kd.N_nil _ _ _ _ _ | exact Kd.V_nil _ _ _ _ _ | exact Kd.Q_nil _ _ _ _ _ | exact Kd.R_nil _ _ _ _ _, by repeat (first | exact HB.out | apply below_alloc | apply pw_below_drewN | apply below_drew1)⟩
           ·rw [if_neg c11] at H
            have c11b0 : decide (17179869184 < (rd l1 x7_2)) = false := decide_eq_false c11
            clear c11
            have H' := Aside0.mk H
            clear H
            have p19001 : 0 ≤ (x7_2 : Int) := of_decide_eq_true (by assumption)
            have q19001 : x7_2 < (l1.length : Int) := of_decide_eq_true (by assumption)
            obtain ⟨ad19001, e19001, hx19001_0⟩ := Kd.at_int HR1.out x7_2 p19001 q19001
            cases e19001
            replace hx19001_0 := (HB.out.cell (World.block_lt_of_cell? w _ hx19001_0)).trans hx19001_0
            replace p19001 := eq_true p19001
            replace q19001 := eq_true q19001
            have p19002 : 0 ≤ (x7_2 : Int) := of_decide_eq_true (by assumption)
            have q19002 : x7_2 < (l1.length : Int) := of_decide_eq_true (by assumption)
            obtain ⟨ad19002, e19002, hx19002_0⟩ := Kd.at_int HR1.out x7_2 p19002 q19002
            obtain rfl : ad19001 = ad19002 := (by injection e19002)
            replace hx19002_0 := (HB.out.cell (World.block_lt_of_cell? w _ hx19002_0)).trans hx19002_0
            replace p19002 := eq_true p19002
            replace q19002 := eq_true q19002
            have p19003 : 0 ≤ (x7_2 : Int) := of_decide_eq_true (by assumption)
            have q19003 : x7_2 < (l1.length : Int) := of_decide_eq_true (by assumption)
            obtain ⟨ad19003, e19003, hx19003_0⟩ := Kd.at_int HR1.out x7_2 p19003 q19003
            obtain rfl : ad19001 = ad19003 := (by injection e19003)
            replace hx19003_0 := (HB.out.cell (World.block_lt_of_cell? w _ hx19003_0)).trans hx19003_0
            replace p19003 := eq_true p19003
            replace q19003 := eq_true q19003
            go_wp2
            go_roundg k2
            case measure => have := HJ2.out; have := HK2.out; omega
            case rel => exact ⟨(wrap64 (x6_2 + (rd l1 x7_2))), (wrap64 (x7_2 + 1)), (by first | rfl | (simp; done) | (simp [*]; done)), (by first | rfl | (simp; done) | (simp [*]; done)), H', ⟨by have := HJ2.out; have := HK2.out; omega⟩, ⟨by repeat (first | exact HB.out | apply below_alloc | apply pw_below_drewN | apply below_drew1)⟩⟩
         ·rw [if_neg c9] at H
          exact absurd H (by simp)
        ·rw [if_neg c8] at H
         have c8b0 : decide (x7_2 < (l1.length : Int)) = false := decide_eq_false c8
         clear c8
         by_cases c12 : x6_2 > a0
         ·rw [if_pos c12] at H
          have c12b0 : decide (a0 < x6_2) = true := decide_eq_true c12
          clear c12
          simp only [Option.some.injEq, Prod.mk.injEq] at H
          obtain ⟨rfl, rfl⟩ := H
          go_wp2
          go_ret2
          exact ⟨_, by first | rfl | (simp [errW_none, errW_some] <;> rfl) | (simp [*, errW_none, errW_some] <;> rfl), by first | exact Kd.S_nil _ _ _ _ _ | exact Kd.N_nil _ _ _ _ _ | exact Kd.V_nil _ _ _ _ _ | exact Kd.Q_nil _ _ _ _ _ | exact Kd.R_nil _ _ _ _ _, by repeat (first | exact HB.out | apply below_alloc | apply pw_below_drewN | apply below_drew1)⟩
         ·rw [if_neg c12] at H
          have c12b0 : decide (a0 < x6_2) = false := decide_eq_false c12
          clear c12
          have H' := Aside0.mk H
          clear H
          go_wp2
          go_loopg [0, 8, 9] k2 (fun kq v0 v8 v9 w' => ∃ (x0_3 : Int) (x8_3 : List (List (S44))) (x9_3 : Int), v0 = .int .i64 x0_3 ∧ v9 = .int .i64 x9_3 ∧ Aside0 (papermillref41_Split.l1 kq x0_3 l1 x8_3 x9_3 = some (r1, r2)) ∧ Aside0 (kq ≤ k2) ∧ Aside0 (Kd.S (Kd.slice 44 k44) 22 w' w.heap.size (fun _ => True) v8 x8_3) ∧ Aside0 (Below w.heap.size w w'))
          case atStart => exact ⟨(a0), (([] : List (List (S44)))), (0), (by first | rfl | (simp; done) | (simp [*]; done)), (by first | rfl | (simp; done) | (simp [*]; done)), H', ⟨Nat.le_refl _⟩, ⟨by first | exact Kd.S_nil _ _ _ _ _ | exact Kd.N_nil _ _ _ _ _ | exact Kd.V_nil _ _ _ _ _ | exact Kd.Q_nil _ _ _ _ _ | exact Kd.R_nil _ _ _ _ _⟩, ⟨by repeat (first | exact HB.out | apply below_alloc | apply pw_below_drewN | apply below_drew1)⟩⟩
          case round =>
           clear H'
           try clear c1
           try clear p1
           try clear q1
           try clear hx1
           try clear p2
           try clear c4
           try clear c4b0
           try clear c5
           try clear c6
           try clear c6b0
           try clear c6b1
           try clear c6b2
           try clear p6
           try clear c7
           try clear c7b0
           try clear c7b1
           try clear c8
           try clear c8b0
           try clear c9
           try clear c9b0
           try clear c10
           try clear c10b0
           try clear c11
           try clear c11b0
           try clear c12
           try clear c12b0
           try clear hx19001_0
           try clear hx19002_0
           try clear hx19003_0
           try clear p19001
           try clear p19002
           try clear p19003
           try clear p2
           try clear q19001
           try clear q19002
           try clear q19003
           obtain ⟨x0_3, x8_3, x9_3, rfl, rfl, HA, HK3, HO_8, HB⟩ := hrel
           cases gk with
           | zero => exact absurd HA.out (by simp [papermillref41_Split.l1])
           | succ k3 =>
            have H := HA.out
            clear HA
            simp only [papermillref41_Split.l1] at H
            by_cases c13 : x9_3 < (l1.length : Int)
            ·rw [if_pos c13] at H
             have c13b0 : decide (x9_3 < (l1.length : Int)) = true := decide_eq_true c13
             clear c13
             by_cases c14 : 0 ≤ x9_3
             ·rw [if_pos c14] at H
              have c14b0 : decide (0 ≤ x9_3) = true := decide_eq_true c14
              clear c14
              replace H := Option.bind_eq_some_iff.mp H
              obtain ⟨t19005, A150, H⟩ := H
              replace H : (if x8_3.length < 5864062014805 then (papermillref41_Split.l1 k3 (wrap64 (x0_3 - (rd l1 x9_3))) l1 (x8_3 ++ [t19005]) (wrap64 (x9_3 + 1))) else (none)) = some (r1, r2) := H
              have A15 := Aside0.mk A150
              clear A150
              by_cases c16 : x8_3.length < 5864062014805
              ·rw [if_pos c16] at H
               have LMc16 := Aside0.mk c16
               clear c16
               obtain ⟨y19008, hy19008⟩ : ∃ y_ : List (List (S44)), y_ = (x8_3 ++ [t19005]) := ⟨_, rfl⟩
               replace H : (papermillref41_Split.l1 k3 (wrap64 (x0_3 - (rd l1 x9_3))) l1 y19008 (wrap64 (x9_3 + 1))) = some (r1, r2) := by first | (rw [hy19008]; with_reducible exact H) | (have H2_ := (Option.bind_some _ _).symm.trans H; rw [hy19008]; with_reducible exact H2_) | (have H2_ := (Option.bind_some _ _).symm.trans H; with_reducible exact H2_) | with_reducible exact H | (rw [hy19008]; exact H) | exact H
               have Ny19008 := Aside0.mk hy19008
               clear hy19008
               have H' := Aside0.mk H
               clear H
               have p19004 : 0 ≤ (x9_3 : Int) := of_decide_eq_true (by assumption)
               have q19004 : x9_3 < (l1.length : Int) := of_decide_eq_true (by assumption)
               obtain ⟨ad19004, e19004, hx19004_0⟩ := Kd.at_int HR1.out x9_3 p19004 q19004
               cases e19004
               replace hx19004_0 := (HB.out.cell (World.block_lt_of_cell? w _ hx19004_0)).trans hx19004_0
               replace p19004 := eq_true p19004
               replace q19004 := eq_true q19004
               go_wp2_with (first | ((with_reducible refine gate_callee (f := 32) rfl ?_); refine goesL_ (some 62) rfl rfl Try.func32 (by kernel_rfl) rfl #[.int .i64 (wrap64 (x0_3 - 1)), .int .i64 (rd l1 x9_3)] rfl (by (try simp only [List.map_toArray, List.map_cons, List.map_nil]); first | done | rfl | (simp only [List.length_drop, List.length_take]; rfl)) ?_; (with_reducible refine (papermillref41_back.calls (wrap64 (x0_3 - 1)) (rd l1 x9_3) t19005 _ A15.out).mono ?_); rintro e w17 ⟨v19006, rfl, ho0, hb⟩; refine ⟨_, rfl, ?_⟩; have n0_ := Aside0.mk (Kd.S_elder' (by (with_reducible repeat (first | apply Kd.S_alloc | apply Kd.S_drewN | apply Kd.S_drew)); exact HO_8.out) (Kd.R_base ho0) hb); have n1_ := Aside0.mk (Kd.R_lower ho0 (below_size (by repeat (first | exact HB.out | apply below_alloc | apply pw_below_drewN | apply below_drew1)))); have n2_ := Aside0.mk (below_step (by repeat (first | exact HB.out | apply below_alloc | apply pw_below_drewN | apply below_drew1)) hb); clear HO_8; clear HB; have HO_8 := n0_; have HO19007 := n1_; have HB := n2_; clear n0_ n1_ n2_; (try clear hb); (try clear hb2); (try clear hk); (try clear hi); (try clear ho0); obtain ⟨Ao19, co19, eo19⟩ := Kd.R_slice HO19007.out; subst eo19) | ((with_reducible refine gate_builtin (b := .append) (xs := #[.tmp 55, .tmp 63]) rfl ?_); at_builtin; refine Kd.S_append (Kd.slice 44 k44) (w0 := w) w.heap.size rfl (.tmp 55) (.tmp 63) 33 22 (.slice none 0 0) 24 rfl Try.underlying33 info22 rfl (by decide) (by omega) u8 x8_3 t19005 [.slice Ao19 t19005.length co19] (fun _ => True) (fun k_ => some k_ = (.slice Ao19 t19005.length co19 : Value).ownBlock) rfl rfl ?aP (fun k_ hk_ => ((Kd.R_mono (ok' := fun k_ => ((fun _ => True)) k_ ∧ some k_ ≠ (u8 : Value).ownBlock) (Kd.R_apart' (HO19007.out) (Kd.S_typed HO_8.out) (by decide)) (fun k_ hk => ⟨trivial, hk.2⟩))).1 k_ hk_.symm) ?aF ?aO ?aB ?aS ?aL ?_; (case aP => exact Kd.M_row (Kd.R_mono (Kd.R_tight rfl (Kd.R_mono (ok' := fun k_ => ((fun _ => True)) k_ ∧ some k_ ≠ (u8 : Value).ownBlock) (Kd.R_apart' (HO19007.out) (Kd.S_typed HO_8.out) (by decide)) (fun k_ hk => ⟨trivial, hk.2⟩))) (fun _ h_ => h_))); (case aB => exact (by repeat (first | exact HB.out | apply below_alloc | apply pw_below_drewN | apply below_drew1))); (case aF => exact (fun _ _ => trivial)); (case aO => exact (by (with_reducible repeat (first | apply Kd.S_alloc | apply Kd.S_drewN | apply Kd.S_drew)); exact Kd.S_mono HO_8.out (fun k_ hk => ⟨trivial, fun e_ => hk.2 e_⟩))); (case aS => exact (below_size (by repeat (first | exact HB.out | apply below_alloc | apply pw_below_drewN | apply below_drew1)))); (case aL => have := LMc16.out; omega); intro v19009 w18 ho hb hg hat; rw [← Ny19008.out] at ho; have n0_ := Aside0.mk (hb); have n1_ := Aside0.mk (ho); clear HB; clear HO_8; clear HO19007; have HB := n0_; have HO19010 := n1_; clear n0_ n1_; clear ho hb hg hat; have p19011 : 0 ≤ (x9_3 : Int) := of_decide_eq_true (by assumption); have q19011 : x9_3 < (l1.length : Int) := of_decide_eq_true (by assumption); obtain ⟨ad19011, e19011, hx19011_0⟩ := Kd.at_int HR1.out x9_3 p19011 q19011; obtain rfl : ad19004 = ad19011 := (by injection e19011); replace hx19011_0 := (HB.out.cell (World.block_lt_of_cell? w _ hx19011_0)).trans hx19011_0; replace p19011 := eq_true p19011; replace q19011 := eq_true q19011))
               go_roundg k3
               case measure => have := HJ2.out; have := HK2.out; have := HK3.out; omega
               case rel => exact ⟨(wrap64 (x0_3 - (rd l1 x9_3))), (y19008), (wrap64 (x9_3 + 1)), (by first | rfl | (simp; done) | (simp [*]; done)), (by first | rfl | (simp; done) | (simp [*]; done)), H', ⟨by have := HJ2.out; have := HK2.out; have := HK3.out; omega⟩, ⟨by (with_reducible repeat (first | apply Kd.S_alloc | apply Kd.S_drewN | apply Kd.S_drew)); exact HO19010.out⟩, ⟨by repeat (first | exact HB.out | apply below_alloc | apply pw_below_drewN | apply below_drew1)⟩⟩
              ·rw [if_neg c16] at H
               exact absurd H (by simp)
             ·rw [if_neg c14] at H
              exact absurd H (by simp)
            ·rw [if_neg c13] at H
             have c13b0 : decide (x9_3 < (l1.length : Int)) = false := decide_eq_false c13
             clear c13
             simp only [Option.some.injEq, Prod.mk.injEq] at H
             obtain ⟨rfl, rfl⟩ := H
             go_wp2
             go_ret2
             exact ⟨_, by first | rfl | (simp [errW_none, errW_some] <;> rfl) | (simp [*, errW_none, errW_some] <;> rfl), by (with_reducible repeat (first | apply Kd.S_alloc | apply Kd.S_drewN | apply Kd.S_drew)); exact HO_8.out, by repeat (first | exact HB.out | apply below_alloc | apply pw_below_drewN | apply below_drew1)⟩

end Go.Proofs.Ytalpegglbfobiaa.G

namespace Go.Proofs.Ytalpegglbfobiaa.G
open Go.RowKit Go.Proofs.YtalpegglbfobiaaW.PrintWords Go.Proofs.YtalpegglbfobiaaW.PrintLast Go.Proofs.YtalpegglbfobiaaW.PrintMore
attribute [local go_sem] max2_int min2_int max_two min_two max_three min_three max_four min_four   -- for this text's walks alone
set_option linter.unusedVariables false
set_option linter.unusedSimpArgs false

def papermilllaw41_RewindSplits.f (k : Nat) (a0 : Int) (l1 : List Int) : Option (Bool) := if (l1.length : Int) > 600 then ((papermilllaw41_awake.f).bind fun t6001 => (some t6001)) else ((rewind_Split.f k a0 l1).bind fun bt6002 => ((papermillref41_Split.f k a0 l1).bind fun bt6006 => ((papermilllaw41_same.f k bt6002.1 bt6006.1).bind fun t6010 => (if t6010 = true then (if bt6002.2 = bt6006.2 then ((papermilllaw41_awake.f).bind fun t6011 => (some t6011)) else (some false)) else (some false)))))
set_option maxHeartbeats 8000000 in
set_option maxRecDepth 100000 in
theorem papermilllaw41_RewindSplits.calls (k : Nat) (a0 : Int) (A1 : Option Addr) (c1 : Nat) (l1 : List Int) (r : Bool) (w : World) (hr1 : Kd.C (Kd.int .i64) w A1 l1.length l1) (hc1 : l1.length ≤ c1) (h : papermilllaw41_RewindSplits.f k a0 l1 = some r) :
  Calls Try.prog 5 #[.int .i64 a0, .slice A1 l1.length c1] w fun e w' => e = .returned (.bool r) ∧ Below w.heap.size w w' := by
 have HR1 := Aside0.mk hr1
 have HC1 := Aside0.mk hc1
 clear hr1 hc1
 have HB := Aside0.mk (Below.refl w.heap.size w)
 have H : (if (l1.length : Int) > 600 then ((papermilllaw41_awake.f).bind fun t6001 => (some t6001)) else ((rewind_Split.f k a0 l1).bind fun bt6002 => ((papermillref41_Split.f k a0 l1).bind fun bt6006 => ((papermilllaw41_same.f k bt6002.1 bt6006.1).bind fun t6010 => (if t6010 = true then (if bt6002.2 = bt6006.2 then ((papermilllaw41_awake.f).bind fun t6011 => (some t6011)) else (some false)) else (some false)))))) = some r := h
 clear h
 by_cases c3 : (l1.length : Int) > 600
 ·rw [if_pos c3] at H
  have c3b0 : decide (600 < (l1.length : Int)) = true := decide_eq_true c3
  have c3b1 : decide (600 < l1.length) = true := decide_eq_true (by omega)
  clear c3
  replace H := Option.bind_eq_some_iff.mp H
  obtain ⟨t6001, A40, H⟩ := H
  replace H : (some t6001) = some r := H
  have A4 := Aside0.mk A40
  clear A40
  obtain rfl := Option.some.inj H
  go_enter Try.func5, Try.ntmps5
  go_wp2_with (first | ((with_reducible refine gate_callee (f := 14) rfl ?_); refine goesL_ (some 12) rfl rfl Try.func14 (by kernel_rfl) rfl #[] rfl (by (try simp only [List.map_toArray, List.map_cons, List.map_nil]); first | done | rfl | (simp only [List.length_drop, List.length_take]; rfl)) ?_; (with_reducible refine (papermilllaw41_awake.calls  t6001 _ A4.out).mono ?_); rintro e w5 ⟨rfl, hb⟩; refine ⟨_, rfl, ?_⟩; have n0_ := Aside0.mk (below_step (by repeat (first | exact HB.out | apply below_alloc | apply pw_below_drewN | apply below_drew1)) hb); clear HB; have HB := n0_; clear n0_; (try clear hb); (try clear hb2); (try clear hk); (try clear hi)))
  go_ret
  exact ⟨by first | rfl | (simp [errW_none, errW_some] <;> rfl) | (simp [*, errW_none, errW_some] <;> rfl), by repeat (first | exact HB.out | apply below_alloc | apply pw_below_drewN | apply below_drew1)⟩
 ·rw [if_neg c3] at H
  have c3b0 : decide (600 < (l1.length : Int)) = false := decide_eq_false c3
  have c3b1 : decide (600 < l1.length) = false := decide_eq_false (by omega)
  clear c3
  replace H := Option.bind_eq_some_iff.mp H
  obtain ⟨⟨t6002, t6003⟩, A60, H⟩ := H
  replace H : ((papermillref41_Split.f k a0 l1).bind fun bt6006 => ((papermilllaw41_same.f k t6002 bt6006.1).bind fun t6010 => (if t6010 = true then (if t6003 = bt6006.2 then ((papermilllaw41_awake.f).bind fun t6011 => (some t6011)) else (some false)) else (some false)))) = some r := H
  have A6 := Aside0.mk A60
  clear A60
  replace H := Option.bind_eq_some_iff.mp H
  obtain ⟨⟨t6006, t6007⟩, A70, H⟩ := H
  replace H : ((papermilllaw41_same.f k t6002 t6006).bind fun t6010 => (if t6010 = true then (if t6003 = t6007 then ((papermilllaw41_awake.f).bind fun t6011 => (some t6011)) else (some false)) else (some false))) = some r := H
  have A7 := Aside0.mk A70
  clear A70
  replace H := Option.bind_eq_some_iff.mp H
  obtain ⟨t6010, A80, H⟩ := H
  replace H : (if t6010 = true then (if t6003 = t6007 then ((papermilllaw41_awake.f).bind fun t6011 => (some t6011)) else (some false)) else (some false)) = some r := H
  have A8 := Aside0.mk A80
  clear A80
  by_cases c9 : t6010 = true
  ·subst c9
   have H1 : (if t6003 = t6007 then ((papermilllaw41_awake.f).bind fun t6011 => (some t6011)) else (some false)) = some r := by rw [if_pos rfl] at H; exact H
   clear H
   have H := H1
   clear H1
   by_cases c10 : t6003 = t6007
   ·rw [if_pos c10] at H
    have c10b0 : (t6003 == t6007) = true := beq_iff_eq.mpr c10
    have c10b1 : (t6003 != t6007) = false := bne_eq_false_iff_eq.mpr c10
    clear c10
    replace H := Option.bind_eq_some_iff.mp H
    obtain ⟨t6011, A110, H⟩ := H
    replace H : (some t6011) = some r := H
    have A11 := Aside0.mk A110
    clear A110
    obtain rfl := Option.some.inj H
    go_enter Try.func5, Try.ntmps5
    go_wp2_with (first | ((with_reducible refine gate_callee (f := 17) rfl ?_); refine goesL_ (some 16) rfl rfl Try.func17 (by kernel_rfl) rfl #[.int .i64 a0, .slice A1 l1.length c1] rfl (by (try simp only [List.map_toArray, List.map_cons, List.map_nil]); first | done | rfl | (simp only [List.length_drop, List.length_take]; rfl)) ?_; (with_reducible refine (rewind_Split.calls k a0 _ _ l1 t6002 t6003 _ ?side1 ?side2 A6.out).mono ?_); (case side1 => repeat (first | exact HR1.out | (with_reducible refine Kd.C_alloc ?_ _) | (with_reducible refine Kd.C_drewN ?_ _) | (with_reducible refine Kd.C_drew ?_))); (case side2 => exact HC1.out); rintro e w12 ⟨v6004, rfl, ho0, hb⟩; refine ⟨_, rfl, ?_⟩; have n0_ := Aside0.mk (Kd.S_lower ho0 (below_size (by repeat (first | exact HB.out | apply below_alloc | apply pw_below_drewN | apply below_drew1)))); have n1_ := Aside0.mk (below_step (by repeat (first | exact HB.out | apply below_alloc | apply pw_below_drewN | apply below_drew1)) hb); clear HB; have HO6005 := n0_; have HB := n1_; clear n0_ n1_; (try clear hb); (try clear hb2); (try clear hk); (try clear hi); (try clear ho0)) | ((with_reducible refine gate_callee (f := 18) rfl ?_); refine goesL_ (some 22) rfl rfl Try.func18 (by kernel_rfl) rfl #[.int .i64 a0, .slice A1 l1.length c1] rfl (by (try simp only [List.map_toArray, List.map_cons, List.map_nil]); first | done | rfl | (simp only [List.length_drop, List.length_take]; rfl)) ?_; (with_reducible refine (papermillref41_Split.calls k a0 _ _ l1 t6006 t6007 _ ?side1 ?side2 A7.out).mono ?_); (case side1 => repeat (first | exact (Kd.C_below HR1.out HB.out) | (with_reducible refine Kd.C_alloc ?_ _) | (with_reducible refine Kd.C_drewN ?_ _) | (with_reducible refine Kd.C_drew ?_))); (case side2 => exact HC1.out); rintro e w13 ⟨v6008, rfl, ho0, hb⟩; refine ⟨_, rfl, ?_⟩; have n0_ := Aside0.mk (Kd.S_elder' (by (with_reducible repeat (first | apply Kd.S_alloc | apply Kd.S_drewN | apply Kd.S_drew)); exact HO6005.out) (Kd.S_base ho0) hb); have n1_ := Aside0.mk (Kd.S_lower (Kd.S_new' ho0 (Kd.S_lt (by (with_reducible repeat (first | apply Kd.S_alloc | apply Kd.S_drewN | apply Kd.S_drew)); exact HO6005.out))) (below_size (by repeat (first | exact HB.out | apply below_alloc | apply pw_below_drewN | apply below_drew1)))); have n2_ := Aside0.mk (below_step (by repeat (first | exact HB.out | apply below_alloc | apply pw_below_drewN | apply below_drew1)) hb); clear HO6005; clear HB; have HO6005 := n0_; have HO6009 := n1_; have HB := n2_; clear n0_ n1_ n2_; (try clear hb); (try clear hb2); (try clear hk); (try clear hi); (try clear ho0); obtain ⟨Ao14, co14, eo14⟩ := Kd.S_slice HO6005.out; subst eo14; obtain ⟨Ao15, co15, eo15⟩ := Kd.S_slice HO6009.out; subst eo15) | ((with_reducible refine gate_callee (f := 19) rfl ?_); refine goesL_ (some 27) rfl rfl Try.func19 (by kernel_rfl) rfl #[.slice Ao14 t6002.length co14, .slice Ao15 t6006.length co15] rfl (by (try simp only [List.map_toArray, List.map_cons, List.map_nil]); first | done | rfl | (simp only [List.length_drop, List.length_take]; rfl)) ?_; (with_reducible refine (papermilllaw41_same.calls k _ _ t6002 _ _ t6006 true _ ?side1 ?side2 ?side3 ?side4 A8.out).mono ?_); (case side1 => repeat (first | exact (Kd.S_reads' HO6005.out).2.2 | (with_reducible refine Kd.C_alloc ?_ _) | (with_reducible refine Kd.C_drewN ?_ _) | (with_reducible refine Kd.C_drew ?_))); (case side2 => exact (Kd.S_reads' HO6005.out).2.1); (case side3 => repeat (first | exact (Kd.S_reads' HO6009.out).2.2 | (with_reducible refine Kd.C_alloc ?_ _) | (with_reducible refine Kd.C_drewN ?_ _) | (with_reducible refine Kd.C_drew ?_))); (case side4 => exact (Kd.S_reads' HO6009.out).2.1); rintro e w' ⟨rfl, ⟨nd, rfl⟩⟩; refine ⟨_, rfl, ?_⟩) | (go_at_call 14; (with_reducible refine (papermilllaw41_awake.calls  t6011 _ A11.out).mono ?_); rintro e w16 ⟨rfl, hb⟩; have n0_ := Aside0.mk (Kd.S_below (by (with_reducible repeat (first | apply Kd.S_alloc | apply Kd.S_drewN | apply Kd.S_drew)); exact HO6005.out) hb); have n1_ := Aside0.mk (Kd.S_below (by (with_reducible repeat (first | apply Kd.S_alloc | apply Kd.S_drewN | apply Kd.S_drew)); exact HO6009.out) hb); have n2_ := Aside0.mk (below_step (by repeat (first | exact HB.out | apply below_alloc | apply pw_below_drewN | apply below_drew1)) hb); clear HO6005; clear HO6009; clear HB; have HO6005 := n0_; have HO6009 := n1_; have HB := n2_; clear n0_ n1_ n2_; (try clear hb); (try clear hb2); (try clear hk); (try clear hi)))
    go_ret
    exact ⟨by first | rfl | (simp [errW_none, errW_some] <;> rfl) | (simp [*, errW_none, errW_some] <;> rfl), by repeat (first | exact HB.out | apply below_alloc | apply pw_below_drewN | apply below_drew1)⟩
   ·rw [if_neg c10] at H
    have c10b0 : (t6003 == t6007) = false := beq_eq_false_iff_ne.mpr c10
    have c10b1 : (t6003 != t6007) = true := bne_iff_ne.mpr c10
    obtain rfl := Option.some.inj H
    go_enter Try.func5, Try.ntmps5
    go_wp2_with (first | ((with_reducible refine gate_callee (f := 17) rfl ?_); refine goesL_ (some 16) rfl rfl Try.func17 (by kernel_rfl) rfl #[.int .i64 a0, .slice A1 l1.length c1] rfl (by (try simp only [List.map_toArray, List.map_cons, List.map_nil]); first | done | rfl | (simp only [List.length_drop, List.length_take]; rfl)) ?_; (with_reducible refine (rewind_Split.calls k a0 _ _ l1 t6002 t6003 _ ?side1 ?side2 A6.out).mono ?_); (case side1 => repeat (first | exact HR1.out | (with_reducible refine Kd.C_alloc ?_ _) | (with_reducible refine Kd.C_drewN ?_ _) | (with_reducible refine Kd.C_drew ?_))); (case side2 => exact HC1.out); rintro e w17 ⟨v6004, rfl, ho0, hb⟩; refine ⟨_, rfl, ?_⟩; have n0_ := Aside0.mk (Kd.S_lower ho0 (below_size (by repeat (first | exact HB.out | apply below_alloc | apply pw_below_drewN | apply below_drew1)))); have n1_ := Aside0.mk (below_step (by repeat (first | exact HB.out | apply below_alloc | apply pw_below_drewN | apply below_drew1)) hb); clear HB; have HO6005 := n0_; have HB := n1_; clear n0_ n1_; (try clear hb); (try clear hb2); (try clear hk); (try clear hi); (try clear ho0)) | ((with_reducible refine gate_callee (f := 18) rfl ?_); refine goesL_ (some 22) rfl rfl Try.func18 (by kernel_rfl) rfl #[.int .i64 a0, .slice A1 l1.length c1] rfl (by (try simp only [List.map_toArray, List.map_cons, List.map_nil]); first | done | rfl | (simp only [List.length_drop, List.length_take]; rfl)) ?_; (with_reducible refine (papermillref41_Split.calls k a0 _ _ l1 t6006 t6007 _ ?side1 ?side2 A7.out).mono ?_); (case side1 => repeat (first | exact (Kd.C_below HR1.out HB.out) | (with_reducible refine Kd.C_alloc ?_ _) | (with_reducible refine Kd.C_drewN ?_ _) | (with_reducible refine Kd.C_drew ?_))); (case side2 => exact HC1.out); rintro e w18 ⟨v6008, rfl, ho0, hb⟩; refine ⟨_, rfl, ?_⟩; have n0_ := Aside0.mk (Kd.S_elder' (by (with_reducible repeat (first | apply Kd.S_alloc | apply Kd.S_drewN | apply Kd.S_drew)); exact HO6005.out) (Kd.S_base ho0) hb); have n1_ := Aside0.mk (Kd.S_lower (Kd.S_new' ho0 (Kd.S_lt (by (with_reducible repeat (first | apply Kd.S_alloc | apply Kd.S_drewN | apply Kd.S_drew)); exact HO6005.out))) (below_size (by repeat (first | exact HB.out | apply below_alloc | apply pw_below_drewN | apply below_drew1)))); have n2_ := Aside0.mk (below_step (by repeat (first | exact HB.out | apply below_alloc | apply pw_below_drewN | apply below_drew1)) hb); clear HO6005; clear HB; have HO6005 := n0_; have HO6009 := n1_; have HB := n2_; clear n0_ n1_ n2_; (try clear hb); (try clear hb2); (try clear hk); (try clear hi); (try clear ho0); obtain ⟨Ao19, co19, eo19⟩ := Kd.S_slice HO6005.out; subst eo19; obtain ⟨Ao20, co20, eo20⟩ := Kd.S_slice HO6009.out; subst eo20) | ((with_reducible refine gate_callee (f := 19) rfl ?_); refine goesL_ (some 27) rfl rfl Try.func19 (by kernel_rfl) rfl #[.slice Ao19 t6002.length co19, .slice Ao20 t6006.length co20] rfl (by (try simp only [List.map_toArray, List.map_cons, List.map_nil]); first | done | rfl | (simp only [List.length_drop, List.length_take]; rfl)) ?_; (with_reducible refine (papermilllaw41_same.calls k _ _ t6002 _ _ t6006 true _ ?side1 ?side2 ?side3 ?side4 A8.out).mono ?_); (case side1 => repeat (first | exact (Kd.S_reads' HO6005.out).2.2 | (with_reducible refine Kd.C_alloc ?_ _) | (with_reducible refine Kd.C_drewN ?_ _) | (with_reducible refine Kd.C_drew ?_))); (case side2 => exact (Kd.S_reads' HO6005.out).2.1); (case side3 => repeat (first | exact (Kd.S_reads' HO6009.out).2.2 | (with_reducible refine Kd.C_alloc ?_ _) | (with_reducible refine Kd.C_drewN ?_ _) | (with_reducible refine Kd.C_drew ?_))); (case side4 => exact (Kd.S_reads' HO6009.out).2.1); rintro e w' ⟨rfl, ⟨nd, rfl⟩⟩; refine ⟨_, rfl, ?_⟩))
    go_ret
    exact ⟨by first | rfl | (simp [errW_none, errW_some] <;> rfl) | (simp [*, errW_none, errW_some] <;> rfl), by repeat (first | exact HB.out | apply below_alloc | apply pw_below_drewN | apply below_drew1)⟩
  ·replace c9 := Bool.eq_false_iff.mpr c9
   subst c9
   have H1 : (some false) = some r := by rw [if_neg (show ¬ (false = true) by decide)] at H; first | exact H | simpa using H
   clear H
   have H := H1
   clear H1
   obtain rfl := Option.some.inj H
   go_enter Try.func5, Try.ntmps5
   go_wp2_with (first | ((with_reducible refine gate_callee (f := 17) rfl ?_); refine goesL_ (some 16) rfl rfl Try.func17 (by kernel_rfl) rfl #[.int .i64 a0, .slice A1 l1.length c1] rfl (by (try simp only [List.map_toArray, List.map_cons, List.map_nil]); first | done | rfl | (simp only [List.length_drop, List.length_take]; rfl)) ?_; (with_reducible refine (rewind_Split.calls k a0 _ _ l1 t6002 t6003 _ ?side1 ?side2 A6.out).mono ?_); (case side1 => repeat (first | exact HR1.out | (with_reducible refine Kd.C_alloc ?_ _) | (with_reducible refine Kd.C_drewN ?_ _) | (with_reducible refine Kd.C_drew ?_))); (case side2 => exact HC1.out); rintro e w21 ⟨v6004, rfl, ho0, hb⟩; refine ⟨_, rfl, ?_⟩; have n0_ := Aside0.mk (Kd.S_lower ho0 (below_size (by repeat (first | exact HB.out | apply below_alloc | apply pw_below_drewN | apply below_drew1)))); have n1_ := Aside0.mk (below_step (by repeat (first | exact HB.out | apply below_alloc | apply pw_below_drewN | apply below_drew1)) hb); clear HB; have HO6005 := n0_; have HB := n1_; clear n0_ n1_; (try clear hb); (try clear hb2); (try clear hk); (try clear hi); (try clear ho0)) | ((with_reducible refine gate_callee (f := 18) rfl ?_); refine goesL_ (some 22) rfl rfl Try.func18 (by kernel_rfl) rfl #[.int .i64 a0, .slice A1 l1.length c1] rfl (by (try simp only [List.map_toArray, List.map_cons, List.map_nil]); first | done | rfl | (simp only [List.length_drop, List.length_take]; rfl)) ?_; (with_reducible refine (papermillref41_Split.calls k a0 _ _ l1 t6006 t6007 _ ?side1 ?side2 A7.out).mono ?_); (case side1 => repeat (first | exact (Kd.C_below HR1.out HB.out) | (with_reducible refine Kd.C_alloc ?_ _) | (with_reducible refine Kd.C_drewN ?_ _) | (with_reducible refine Kd.C_drew ?_))); (case side2 => exact HC1.out); rintro e w22 ⟨v6008, rfl, ho0, hb⟩; refine ⟨_, rfl, ?_⟩; have n0_ := Aside0.mk (Kd.S_elder' (by (with_reducible repeat (first | apply Kd.S_alloc | apply Kd.S_drewN | apply Kd.S_drew)); exact HO6005.out) (Kd.S_base ho0) hb); have n1_ := Aside0.mk (Kd.S_lower (Kd.S_new' ho0 (Kd.S_lt (by (with_reducible repeat (first | apply Kd.S_alloc | apply Kd.S_drewN | apply Kd.S_drew)); exact HO6005.out))) (below_size (by repeat (first | exact HB.out | apply below_alloc | apply pw_below_drewN | apply below_drew1)))); have n2_ := Aside0.mk (below_step (by repeat (first | exact HB.out | apply below_alloc | apply pw_below_drewN | apply below_drew1)) hb); clear HO6005; clear HB; have HO6005 := n0_; have HO6009 := n1_; have HB := n2_; clear n0_ n1_ n2_; (try clear hb); (try clear hb2); (try clear hk); (try clear hi); (try clear ho0); obtain ⟨Ao23, co23, eo23⟩ := Kd.S_slice HO6005.out; subst eo23; obtain ⟨Ao24, co24, eo24⟩ := Kd.S_slice HO6009.out; subst eo24) | ((with_reducible refine gate_callee (f := 19) rfl ?_); refine goesL_ (some 27) rfl rfl Try.func19 (by kernel_rfl) rfl #[.slice Ao23 t6002.length co23, .slice Ao24 t6006.length co24] rfl (by (try simp only [List.map_toArray, List.map_cons, List.map_nil]); first | done | rfl | (simp only [List.length_drop, List.length_take]; rfl)) ?_; (with_reducible refine (papermilllaw41_same.calls k _ _ t6002 _ _ t6006 false _ ?side1 ?side2 ?side3 ?side4 A8.out).mono ?_); (case side1 => repeat (first | exact (Kd.S_reads' HO6005.out).2.2 | (with_reducible refine Kd.C_alloc ?_ _) | (with_reducible refine Kd.C_drewN ?_ _) | (with_reducible refine Kd.C_drew ?_))); (case side2 => exact (Kd.S_reads' HO6005.out).2.1); (case side3 => repeat (first | exact (Kd.S_reads' HO6009.out).2.2 | (with_reducible refine Kd.C_alloc ?_ _) | (with_reducible refine Kd.C_drewN ?_ _) | (with_reducible refine Kd.C_drew ?_))); (case side4 => exact (Kd.S_reads' HO6009.out).2.1); rintro e w' ⟨rfl, ⟨nd, rfl⟩⟩; refine ⟨_, rfl, ?_⟩))
   go_ret
   exact ⟨by first | rfl | (simp [errW_none, errW_some] <;> rfl) | (simp [*, errW_none, errW_some] <;> rfl), by repeat (first | exact HB.out | apply below_alloc | apply pw_below_drewN | apply below_drew1)⟩

def papermilllaw41_RewindSplits.Pure : Prop := ∀ (a0 : Int) (l1 : List Int), (Lit.int .i64 a0).wf = true → l1.length ≤ maxLen → l1.length * 8 ≤ 140737488351232 → (∀ x ∈ l1, (Lit.int .i64 x).wf = true) → ∃ k, papermilllaw41_RewindSplits.f k a0 l1 = some true
theorem papermilllaw41_RewindSplits.walk (P : papermilllaw41_RewindSplits.Pure) (a0 : Int) (a1 : Option Addr) (len1 cap1 : Nat) (z1 : List Int) (w : World) (w0 : (Lit.int .i64 a0).wf = true) (w1 : (a1 = none ∧ len1 = 0 ∧ cap1 = 0 ∧ z1 = []) ∨ ∃ x, a1 = some x ∧ len1 ≤ cap1 ∧ cap1 ≤ maxLen ∧ z1.length = cap1 ∧ (∀ i, i < z1.length → w.cell? (x.add i) = some (.int .i64 (z1.getD i 0))) ∧ ∀ n ∈ z1, (Lit.int .i64 n).wf = true) (y1 : len1 * 8 ≤ 140737488351232) :
  Calls Try.prog 5 #[.int .i64 a0, .slice a1 len1 cap1] w fun e w' => e = .returned (.bool true) ∧ Below w.heap.size w w' := by
 obtain ⟨l1, rfl, hr1, hm1, hw1, hc1⟩ := ReadsInt.ofRowC w1
 obtain ⟨k, h⟩ := P a0 l1 w0 hm1 y1 hw1
 refine (papermilllaw41_RewindSplits.calls k a0 _ _ l1 true w (Kd.C_of_reads (d := (0 : Int)) (h1 := fun _ => rfl) hr1) hc1 h).mono ?_
 rintro e w' ⟨rfl, hd⟩
 exact ⟨rfl, hd⟩

end Go.Proofs.Ytalpegglbfobiaa.G

namespace Go.Proofs.Ytalpegglbfobiaa.G
open Go.RowKit Go.Proofs.YtalpegglbfobiaaW.PrintWords Go.Proofs.YtalpegglbfobiaaW.PrintLast Go.Proofs.YtalpegglbfobiaaW.PrintMore
attribute [local go_sem] max2_int min2_int max_two min_two max_three min_three max_four min_four   -- for this text's walks alone
set_option linter.unusedVariables false
set_option linter.unusedSimpArgs false

def papermillref41_Whole.f (a0 : Int) : Option ((List (S44)) × Int) := if a0 < 1 then (some (([] : List (S44)), 1)) else (if a0 > 17179869184 then (some (([] : List (S44)), 1)) else ((papermillref41_back.f (wrap64 (a0 - 1)) a0).bind fun t13001 => (some (t13001, 0))))
set_option maxHeartbeats 8000000 in
set_option maxRecDepth 100000 in
theorem papermillref41_Whole.calls (a0 : Int) (r1 : List (S44)) (r2 : Int) (w : World) (h : papermillref41_Whole.f a0 = some (r1, r2)) :
  Calls Try.prog 12 #[.int .i64 a0] w fun e w' => ∃ v0_ : Value, e = .returned (.tuple #[v0_, .int .i64 r2]) ∧ Kd.R k44 44 w' w.heap.size (fun _ => True) v0_ r1 ∧ Below w.heap.size w w' := by
 have HB := Aside0.mk (Below.refl w.heap.size w)
 have H : (if a0 < 1 then (some (([] : List (S44)), 1)) else (if a0 > 17179869184 then (some (([] : List (S44)), 1)) else ((papermillref41_back.f (wrap64 (a0 - 1)) a0).bind fun t13001 => (some (t13001, 0))))) = some (r1, r2) := h
 clear h
 by_cases c2 : a0 < 1
 ·rw [if_pos c2] at H
  have c2b0 : decide (a0 < 1) = true := decide_eq_true c2
  clear c2
  simp only [Option.some.injEq, Prod.mk.injEq] at H
  obtain ⟨rfl, rfl⟩ := H
  go_enter Try.func12, Try.ntmps12
  go_wp2
  go_ret2
  exact ⟨_, by first | rfl | (simp [errW_none, errW_some] <;> rfl) | (simp [*, errW_none, errW_some] <;> rfl), by first | exact Kd.R_nil _ _ _ _ _ | exact Kd.N_nil _ _ _ _ _ | exact Kd.V_nil _ _ _ _ _ | exact Kd.Q_nil _ _ _ _ _ | exact Kd.S_nil _ _ _ _ _, by repeat (first | exact HB.out | apply below_alloc | apply pw_below_drewN | apply below_drew1)⟩
 ·rw [if_neg c2] at H
  have c2b0 : decide (a0 < 1) = false := decide_eq_false c2
  clear c2
  by_cases c3 : a0 > 17179869184
  ·rw [if_pos c3] at H
   have c3b0 : decide (17179869184 < a0) = true := decide_eq_true c3
   clear c3
   simp only [Option.some.injEq, Prod.mk.injEq] at H
   obtain ⟨rfl, rfl⟩ := H
   go_enter Try.func12, Try.ntmps12
   go_wp2
   go_ret2
   exact ⟨_, by first | rfl | (simp [errW_none, errW_some] <;> rfl) | (simp [*, errW_none, errW_some] <;> rfl), by first | exact Kd.R_nil _ _ _ _ _ | exact Kd.N_nil _ _ _ _ _ | exact Kd.V_nil _ _ _ _ _ | exact Kd.Q_nil _ _ _ _ _ | exact Kd.S_nil _ _ _ _ _, by repeat (first | exact HB.out | apply below_alloc | apply pw_below_drewN | apply below_drew1)⟩
  ·rw [if_neg c3] at H
   have c3b0 : decide (17179869184 < a0) = false := decide_eq_false c3
   clear c3
   replace H := Option.bind_eq_some_iff.mp H
   obtain ⟨t13001, A40, H⟩ := H
   replace H : (some (t13001, 0)) = some (r1, r2) := H
   have A4 := Aside0.mk A40
   clear A40
   simp only [Option.some.injEq, Prod.mk.injEq] at H
   obtain ⟨rfl, rfl⟩ := H
   go_enter Try.func12, Try.ntmps12
   go_wp2_with (first | ((with_reducible refine gate_callee (f := 32) rfl ?_); refine goesL_ (some 13) rfl rfl Try.func32 (by kernel_rfl) rfl #[.int .i64 (wrap64 (a0 - 1)), .int .i64 a0] rfl (by (try simp only [List.map_toArray, List.map_cons, List.map_nil]); first | done | rfl | (simp only [List.length_drop, List.length_take]; rfl)) ?_; (with_reducible refine (papermillref41_back.calls (wrap64 (a0 - 1)) a0 t13001 _ A4.out).mono ?_); rintro e w5 ⟨v13002, rfl, ho0, hb⟩; refine ⟨_, rfl, ?_⟩; have n0_ := Aside0.mk (Kd.R_lower ho0 (below_size (by repeat (first | exact HB.out | apply below_alloc | apply pw_below_drewN | apply below_drew1)))); have n1_ := Aside0.mk (below_step (by repeat (first | exact HB.out | apply below_alloc | apply pw_below_drewN | apply below_drew1)) hb); clear HB; have HO13003 := n0_; have HB := n1_; clear n0_ n1_; (try clear hb); (try clear hb2); (try clear hk); (try clear hi); (try clear ho0)))
   go_ret2
   exact ⟨_, by first | rfl | (simp [errW_none, errW_some] <;> rfl) | (simp [*, errW_none, errW_some] <;> rfl), by exact HO13003.out, by repeat (first | exact HB.out | apply below_alloc | apply pw_below_drewN | apply below_drew1)⟩

end Go.Proofs.Ytalpegglbfobiaa.G

namespace Go.Proofs.Ytalpegglbfobiaa.G
open Go.RowKit Go.Proofs.YtalpegglbfobiaaW.PrintWords Go.Proofs.YtalpegglbfobiaaW.PrintLast Go.Proofs.YtalpegglbfobiaaW.PrintMore
set_option linter.unusedVariables false
set_option linter.unusedSimpArgs false
theorem rback_is (a n : Int) : papermillref41_back.f a n = some [backR a n] := rfl
theorem rwhole_is (n : Int) : papermillref41_Whole.f n = some (wholeOf n) := by
 unfold papermillref41_Whole.f wholeOf
 by_cases h : long n
 ·rw [if_pos h]
  unfold long at h
  rw [if_neg (by omega), if_neg (by omega), rback_is, Option.bind_some, show wrap64 (n - 1) = n - 1 by unfold wrap64; omega]
 ·rw [if_neg h]
  unfold long at h
  by_cases h1 : n < 1
  ·rw [if_pos h1]
  ·rw [if_neg h1, if_pos (by omega)]
theorem rsplit_l1 (l : List Int) (hl : l.length ≤ 512) (hv : ∀ x ∈ l, long x) : ∀ (d i : Nat) (n : Int) (o : List (List S44)), l.length - i = d → i ≤ l.length → o.length ≤ i → sumI (l.drop i) ≤ n → n ≤ 17179869184 → Ends (fun k => papermillref41_Split.l1 k n l o (i : Int)) (o ++ splitGo n (l.drop i), 0) := by
 intro d
 induction d with
 | zero =>
  intro i n o hd hi ho h0 h1
  refine Ends.succ ?_
  simp only [papermillref41_Split.l1]
  rw [List.drop_of_length_le (by omega)]
  exact Ends.neg (by omega) ((Ends.ret _).congr (by simp [splitGo]))
 | succ d ih =>
  intro i n o hd hi ho h0 h1
  refine Ends.succ ?_
  have hx := hv (rd l (i : Int)) (by rw [rdI l i (by omega)]; exact List.getElem_mem _)
  have hs := sumI_pos (l.drop (i + 1)) (fun y hy => hv y (List.mem_of_mem_drop hy))
  rw [dropI l i (by omega), sumI_cons] at h0
  rw [dropI l i (by omega)]
  unfold long at hx
  simp only [papermillref41_Split.l1, wrap_nat i (by omega), rback_is, Option.bind_some, splitGo]
  generalize rd l (i : Int) = x at *
  have hw : wrap64 (n - 1) = n - 1 := by unfold wrap64; omega
  have hw2 : wrap64 (n - x) = n - x := by unfold wrap64; omega
  rw [hw, hw2]
  refine Ends.pos (by omega) (Ends.pos (by omega) (Ends.pos (by omega) ((ih (i + 1) (n - x) (o ++ [[backR (n - 1) x]]) (by omega) (by omega) (by simp; omega) (by omega) (by omega)).congr ?_)))
  rw [List.append_assoc]
  rfl
theorem rsplit_l0 (n : Int) (hn : long n) (l : List Int) (hl : l.length ≤ 512) : ∀ (d i : Nat) (s : Int), l.length - i = d → i ≤ l.length → (∀ x ∈ l.take i, long x) → s + sumI (l.drop i) = sumI l → 0 ≤ s → s ≤ i * 17179869184 → Ends (fun k => papermillref41_Split.l0 k n l s (i : Int)) (if ∀ x ∈ l, long x then (if sumI l > n then ([], 21) else (splitGo n l, 0)) else ([], 1)) := by
 intro d
 induction d with
 | zero =>
  intro i s hd hi hv hs h0 h1
  refine Ends.succ ?_
  simp only [papermillref41_Split.l0]
  rw [List.take_of_length_le (by omega)] at hv
  rw [List.drop_of_length_le (by omega)] at hs
  have hs : s + 0 = sumI l := hs
  rw [if_pos hv]
  unfold long at hn
  refine Ends.neg (by omega) ?_
  by_cases h : sumI l > n
  ·rw [if_pos h]; exact Ends.pos (by omega) (Ends.ret _)
  ·rw [if_neg h]
   exact Ends.neg (by omega) ((rsplit_l1 l hl hv _ 0 n [] rfl (by omega) (by simp) (by simp; omega) (by omega)).congr (by simp))
 | succ d ih =>
  intro i s hd hi hv hs h0 h1
  refine Ends.succ ?_
  have hsn : l.take (i + 1) = l.take i ++ [rd l (i : Int)] := by rw [List.take_succ_eq_append_getElem (by omega), rdI l i (by omega)]
  have hmem : rd l (i : Int) ∈ l := by rw [rdI l i (by omega)]; exact List.getElem_mem _
  rw [dropI l i (by omega), sumI_cons] at hs
  simp only [papermillref41_Split.l0, wrap_nat i (by omega)]
  refine Ends.pos (by omega) (Ends.pos (by omega) ?_)
  by_cases h2 : rd l (i : Int) < 1
  ·rw [if_neg (fun hh => by have := hh _ hmem; unfold long at this; omega)]
   exact Ends.pos h2 (Ends.ret _)
  ·refine Ends.neg h2 ?_
   by_cases h3 : rd l (i : Int) > 17179869184
   ·rw [if_neg (fun hh => by have := hh _ hmem; unfold long at this; omega)]
    exact Ends.pos h3 (Ends.ret _)
   ·have hw : wrap64 (s + rd l (i : Int)) = s + rd l (i : Int) := by unfold wrap64; omega
    rw [hw]
    refine Ends.neg h3 (ih (i + 1) _ (by omega) (by omega) (fun x hx => ?_) (by omega) (by omega) (by omega))
    rw [hsn] at hx
    rcases List.mem_append.mp hx with hx | hx
    ·exact hv x hx
    ·rw [List.mem_singleton.mp hx]; unfold long; omega
theorem rsplit_j0 (n : Int) (l : List Int) (z : Bool) (hz : z = true → ¬ long n) (hz2 : z = false → long n) : Ends (fun k => papermillref41_Split.j0 k n l z) (splitOf n l) := by
 refine Ends.succ ?_
 simp only [papermillref41_Split.j0]
 unfold splitOf
 cases z with
 | true => rw [if_neg (hz rfl)]; exact Ends.pos rfl (Ends.ret _)
 | false =>
  have h := hz2 rfl
  rw [if_pos h]
  refine Ends.neg (by simp) ?_
  by_cases h0 : l = []
  ·rw [if_pos h0]
   exact Ends.pos (by rw [h0]; rfl) (Ends.ret _)
  ·rw [if_neg h0]
   refine Ends.neg (fun e => h0 (List.length_eq_zero_iff.1 (by omega))) ?_
   by_cases h1 : l.length > 512
   ·rw [if_pos h1]
    exact Ends.pos (by omega) (Ends.ret _)
   ·rw [if_neg h1]
    exact Ends.neg (by omega) (rsplit_l0 n h l (by omega) _ 0 0 rfl (by omega) (by simp) (by simp) (by omega) (by omega))
theorem rsplit_ends (n : Int) (l : List Int) : Ends (fun k => papermillref41_Split.f k n l) (splitOf n l) := by
 unfold papermillref41_Split.f
 by_cases h1 : n < 1
 ·exact Ends.pos h1 (rsplit_j0 n l true (fun _ => by unfold long; omega) (by simp))
 ·refine Ends.neg h1 (rsplit_j0 n l _ (fun h => ?_) (fun h => ?_))
  ·have := of_decide_eq_true h; unfold long; omega
  ·have := of_decide_eq_false h; unfold long; omega
end Go.Proofs.Ytalpegglbfobiaa.G
