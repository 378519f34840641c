import Derived.Test.YtalpegglbfobiaaQ1
namespace Go.Proofs.Ytalpegglbfobiaa.G
open Go.RowKit Go.Proofs.YtalpegglbfobiaaW.PrintWords Go.Proofs.YtalpegglbfobiaaW.PrintLast Go.Proofs.YtalpegglbfobiaaW.PrintMore
attribute [local go_sem] max2_int min2_int max_two min_two max_three min_three max_four min_four   -- for this text's walks alone
set_option linter.unusedVariables false
set_option linter.unusedSimpArgs false

mutual
def span_sets.l0 (kf : Bool → Bool → Option Bool) : Nat → List (S55) → List (S55) → List Int → List (S55) → Int → Int → Option ((List (S55)) × Int)
 | 0, _, _, _, _, _, _ => none
 | k + 1, x0, x1, x10, x35, x36, x37 => if x37 < x36 then (if 0 ≤ x37 then (if x37 < (x35.length : Int) then ((some (([(rd_T55 x35 x37).f0, (rd_T55 x35 x37).f1] : List Int) : List Int)).bind fun y10001014 => (if x10.length + y10001014.length < 17592186044416 then (span_sets.l0 kf k x0 x1 (x10 ++ y10001014) x35 x36 (wrap64 (x37 + 1))) else (none))) else (none)) else (none)) else ((slices_Sort_int_int.f x10).bind fun t10001020 => (span_sets.l1 kf k x0 x1 t10001020 ([] : List (S55)) 0 0 t10001020 (x10.length : Int) 0))
def span_sets.l1 (kf : Bool → Bool → Option Bool) : Nat → List (S55) → List (S55) → List Int → List (S55) → Int → Int → List Int → Int → Int → Option ((List (S55)) × Int)
 | 0, _, _, _, _, _, _, _, _, _ => none
 | k + 1, x0, x1, x10, x13, x14, x15, x51, x52, x53 => if x53 < x52 then (if 0 ≤ x53 then (if x53 < (x51.length : Int) then (span_sets.l2 kf k x0 x1 x10 x13 x14 x15 x53 (rd x51 x53) x51 x52 x53) else (none)) else (none)) else ((span_joined.f x13).bind fun t10001021 => (if (t10001021.length : Int) > 256 then (some (([] : List (S55)), 8)) else (some (t10001021, 0))))
def span_sets.j3 (kf : Bool → Bool → Option Bool) : Nat → List (S55) → List (S55) → List Int → List (S55) → Int → Int → Int → Int → List Int → Int → Int → Option ((List (S55)) × Int)
 | 0, _, _, _, _, _, _, _, _, _, _, _ => none
 | k + 1, x0, x1, x10, x13, x14, x15, x16, x17, x51, x52, x53 => span_sets.l3 kf k x0 x1 x10 x13 x14 x15 x16 x17 x51 x52 x53
def span_sets.j5 (kf : Bool → Bool → Option Bool) : Nat → List (S55) → List (S55) → List Int → List (S55) → Int → Int → Int → Int → List Int → Int → Int → Option ((List (S55)) × Int)
 | 0, _, _, _, _, _, _, _, _, _, _, _ => none
 | k + 1, x0, x1, x10, x13, x14, x15, x16, x17, x51, x52, x53 => if (wrap64 (x16 + 1)) = (x10.length : Int) then (span_sets.j6 kf k x0 x1 x10 x13 x14 x15 x16 x17 x51 x52 x53 true) else (if 0 ≤ (wrap64 (x16 + 1)) then (if (wrap64 (x16 + 1)) < (x10.length : Int) then (span_sets.j6 kf k x0 x1 x10 x13 x14 x15 x16 x17 x51 x52 x53 ((rd x10 (wrap64 (x16 + 1))) == x17)) else (none)) else (none))
def span_sets.j6 (kf : Bool → Bool → Option Bool) : Nat → List (S55) → List (S55) → List Int → List (S55) → Int → Int → Int → Int → List Int → Int → Int → Bool → Option ((List (S55)) × Int)
 | 0, _, _, _, _, _, _, _, _, _, _, _, _ => none
 | k + 1, x0, x1, x10, x13, x14, x15, x16, x17, x51, x52, x53, x101 => if x101 = true then (span_sets.l1 kf k x0 x1 x10 x13 x14 x15 x51 x52 (wrap64 (x53 + 1))) else (if x14 < (x0.length : Int) then (if 0 ≤ x14 then (if x15 < (x1.length : Int) then (if 0 ≤ x15 then ((kf (decide (((rd_T55 x0 x14).f0) ≤ x17)) (decide (((rd_T55 x1 x15).f0) ≤ x17))).bind fun t10001030 => (if t10001030 = true then (if 0 ≤ (wrap64 (x16 + 1)) then (if (wrap64 (x16 + 1)) < (x10.length : Int) then (if x13.length < 8796093022208 then (span_sets.l1 kf k x0 x1 x10 (x13 ++ [(⟨x17, rd x10 (wrap64 (x16 + 1))⟩ : S55)]) x14 x15 x51 x52 (wrap64 (x53 + 1))) else (none)) else (none)) else (none)) else (span_sets.l1 kf k x0 x1 x10 x13 x14 x15 x51 x52 (wrap64 (x53 + 1))))) else (none)) else ((kf (decide (((rd_T55 x0 x14).f0) ≤ x17)) false).bind fun t10001035 => (if t10001035 = true then (if 0 ≤ (wrap64 (x16 + 1)) then (if (wrap64 (x16 + 1)) < (x10.length : Int) then (if x13.length < 8796093022208 then (span_sets.l1 kf k x0 x1 x10 (x13 ++ [(⟨x17, rd x10 (wrap64 (x16 + 1))⟩ : S55)]) x14 x15 x51 x52 (wrap64 (x53 + 1))) else (none)) else (none)) else (none)) else (span_sets.l1 kf k x0 x1 x10 x13 x14 x15 x51 x52 (wrap64 (x53 + 1)))))) else (none)) else (if x15 < (x1.length : Int) then (if 0 ≤ x15 then ((kf false (decide (((rd_T55 x1 x15).f0) ≤ x17))).bind fun t10001041 => (if t10001041 = true then (if 0 ≤ (wrap64 (x16 + 1)) then (if (wrap64 (x16 + 1)) < (x10.length : Int) then (if x13.length < 8796093022208 then (span_sets.l1 kf k x0 x1 x10 (x13 ++ [(⟨x17, rd x10 (wrap64 (x16 + 1))⟩ : S55)]) x14 x15 x51 x52 (wrap64 (x53 + 1))) else (none)) else (none)) else (none)) else (span_sets.l1 kf k x0 x1 x10 x13 x14 x15 x51 x52 (wrap64 (x53 + 1))))) else (none)) else ((kf false false).bind fun t10001046 => (if t10001046 = true then (if 0 ≤ (wrap64 (x16 + 1)) then (if (wrap64 (x16 + 1)) < (x10.length : Int) then (if x13.length < 8796093022208 then (span_sets.l1 kf k x0 x1 x10 (x13 ++ [(⟨x17, rd x10 (wrap64 (x16 + 1))⟩ : S55)]) x14 x15 x51 x52 (wrap64 (x53 + 1))) else (none)) else (none)) else (none)) else (span_sets.l1 kf k x0 x1 x10 x13 x14 x15 x51 x52 (wrap64 (x53 + 1)))))))
def span_sets.l3 (kf : Bool → Bool → Option Bool) : Nat → List (S55) → List (S55) → List Int → List (S55) → Int → Int → Int → Int → List Int → Int → Int → Option ((List (S55)) × Int)
 | 0, _, _, _, _, _, _, _, _, _, _, _ => none
 | k + 1, x0, x1, x10, x13, x14, x15, x16, x17, x51, x52, x53 => if x15 < (x1.length : Int) then (if 0 ≤ x15 then (if ((rd_T55 x1 x15).f1) ≤ x17 then (span_sets.l3 kf k x0 x1 x10 x13 x14 (wrap64 (x15 + 1)) x16 x17 x51 x52 x53) else (span_sets.j5 kf k x0 x1 x10 x13 x14 x15 x16 x17 x51 x52 x53)) else (none)) else (span_sets.j5 kf k x0 x1 x10 x13 x14 x15 x16 x17 x51 x52 x53)
def span_sets.l2 (kf : Bool → Bool → Option Bool) : Nat → List (S55) → List (S55) → List Int → List (S55) → Int → Int → Int → Int → List Int → Int → Int → Option ((List (S55)) × Int)
 | 0, _, _, _, _, _, _, _, _, _, _, _ => none
 | k + 1, x0, x1, x10, x13, x14, x15, x16, x17, x51, x52, x53 => if x14 < (x0.length : Int) then (if 0 ≤ x14 then (if ((rd_T55 x0 x14).f1) ≤ x17 then (span_sets.l2 kf k x0 x1 x10 x13 (wrap64 (x14 + 1)) x15 x16 x17 x51 x52 x53) else (span_sets.j3 kf k x0 x1 x10 x13 x14 x15 x16 x17 x51 x52 x53)) else (none)) else (span_sets.j3 kf k x0 x1 x10 x13 x14 x15 x16 x17 x51 x52 x53)
end
def span_sets.f (kf : Bool → Bool → Option Bool) (k : Nat) (l0 : List (S55)) (l1 : List (S55)) (a2 : Bool) : Option ((List (S55)) × Int) := (span_Check.f k l0).bind fun t10001001 => (if t10001001 = 0 then ((span_Check.f k l1).bind fun t10001002 => (if t10001002 = 0 then ((span_joined.f l0).bind fun t10001003 => ((span_joined.f l1).bind fun t10001006 => ((slices_Concat_api_Span_api_Span_2.f t10001003 t10001006).bind fun t10001009 => (span_sets.l0 kf k t10001003 t10001006 ([] : List Int) t10001009 (t10001009.length : Int) 0)))) else (some (([] : List (S55)), t10001002)))) else (some (([] : List (S55)), t10001001)))
theorem span_sets.mono_l (kf : Bool → Bool → Option Bool) : ∀ k, (∀ y0 y1 y2 y3 y4 y5, LeO (span_sets.l0 kf k y0 y1 y2 y3 y4 y5) (span_sets.l0 kf (k + 1) y0 y1 y2 y3 y4 y5)) ∧ (∀ y0 y1 y2 y3 y4 y5 y6 y7 y8, LeO (span_sets.l1 kf k y0 y1 y2 y3 y4 y5 y6 y7 y8) (span_sets.l1 kf (k + 1) y0 y1 y2 y3 y4 y5 y6 y7 y8)) ∧ (∀ y0 y1 y2 y3 y4 y5 y6 y7 y8 y9 y10, LeO (span_sets.j3 kf k y0 y1 y2 y3 y4 y5 y6 y7 y8 y9 y10) (span_sets.j3 kf (k + 1) y0 y1 y2 y3 y4 y5 y6 y7 y8 y9 y10)) ∧ (∀ y0 y1 y2 y3 y4 y5 y6 y7 y8 y9 y10, LeO (span_sets.j5 kf k y0 y1 y2 y3 y4 y5 y6 y7 y8 y9 y10) (span_sets.j5 kf (k + 1) y0 y1 y2 y3 y4 y5 y6 y7 y8 y9 y10)) ∧ (∀ y0 y1 y2 y3 y4 y5 y6 y7 y8 y9 y10 y11, LeO (span_sets.j6 kf k y0 y1 y2 y3 y4 y5 y6 y7 y8 y9 y10 y11) (span_sets.j6 kf (k + 1) y0 y1 y2 y3 y4 y5 y6 y7 y8 y9 y10 y11)) ∧ (∀ y0 y1 y2 y3 y4 y5 y6 y7 y8 y9 y10, LeO (span_sets.l3 kf k y0 y1 y2 y3 y4 y5 y6 y7 y8 y9 y10) (span_sets.l3 kf (k + 1) y0 y1 y2 y3 y4 y5 y6 y7 y8 y9 y10)) ∧ (∀ y0 y1 y2 y3 y4 y5 y6 y7 y8 y9 y10, LeO (span_sets.l2 kf k y0 y1 y2 y3 y4 y5 y6 y7 y8 y9 y10) (span_sets.l2 kf (k + 1) y0 y1 y2 y3 y4 y5 y6 y7 y8 y9 y10))
 | 0 => ⟨fun _ _ _ _ _ _ r h => by simp [span_sets.l0] at h, fun _ _ _ _ _ _ _ _ _ r h => by simp [span_sets.l1] at h, fun _ _ _ _ _ _ _ _ _ _ _ r h => by simp [span_sets.j3] at h, fun _ _ _ _ _ _ _ _ _ _ _ r h => by simp [span_sets.j5] at h, fun _ _ _ _ _ _ _ _ _ _ _ _ r h => by simp [span_sets.j6] at h, fun _ _ _ _ _ _ _ _ _ _ _ r h => by simp [span_sets.l3] at h, fun _ _ _ _ _ _ _ _ _ _ _ r h => by simp [span_sets.l2] at h⟩
 | k + 1 => by
  obtain ⟨ih0, ih1, ih2, ih3, ih4, ih5, ih6⟩ := span_sets.mono_l kf k
  refine ⟨?_, ?_, ?_, ?_, ?_, ?_, ?_⟩
  ·intro y0 y1 y2 y3 y4 y5
   unfold span_sets.l0
   repeat' first
   | (with_reducible exact ih0 _ _ _ _ _ _)
   | (with_reducible exact ih1 _ _ _ _ _ _ _ _ _)
   | (with_reducible exact ih2 _ _ _ _ _ _ _ _ _ _ _)
   | (with_reducible exact ih3 _ _ _ _ _ _ _ _ _ _ _)
   | (with_reducible exact ih4 _ _ _ _ _ _ _ _ _ _ _ _)
   | (with_reducible exact ih5 _ _ _ _ _ _ _ _ _ _ _)
   | (with_reducible exact ih6 _ _ _ _ _ _ _ _ _ _ _)
   | (with_reducible exact span_Check.mono _ _)
   | (with_reducible exact LeO.refl _)
   | (with_reducible exact LeO.none _)
   | (with_reducible refine LeO.ite ?_ ?_)
   | (with_reducible refine LeO.bind ?_ (fun _ => ?_))
   | exact ih0 _ _ _ _ _ _
   | exact ih1 _ _ _ _ _ _ _ _ _
   | exact ih2 _ _ _ _ _ _ _ _ _ _ _
   | exact ih3 _ _ _ _ _ _ _ _ _ _ _
   | exact ih4 _ _ _ _ _ _ _ _ _ _ _ _
   | exact ih5 _ _ _ _ _ _ _ _ _ _ _
   | exact ih6 _ _ _ _ _ _ _ _ _ _ _
   | exact span_Check.mono _ _
   | exact LeO.none _
   | refine LeO.ite ?_ ?_
   | refine LeO.bind ?_ (fun _ => ?_)
  ·intro y0 y1 y2 y3 y4 y5 y6 y7 y8
   unfold span_sets.l1
   repeat' first
   | (with_reducible exact ih0 _ _ _ _ _ _)
   | (with_reducible exact ih1 _ _ _ _ _ _ _ _ _)
   | (with_reducible exact ih2 _ _ _ _ _ _ _ _ _ _ _)
   | (with_reducible exact ih3 _ _ _ _ _ _ _ _ _ _ _)
   | (with_reducible exact ih4 _ _ _ _ _ _ _ _ _ _ _ _)
   | (with_reducible exact ih5 _ _ _ _ _ _ _ _ _ _ _)
   | (with_reducible exact ih6 _ _ _ _ _ _ _ _ _ _ _)
   | (with_reducible exact span_Check.mono _ _)
   | (with_reducible exact LeO.refl _)
   | (with_reducible exact LeO.none _)
   | (with_reducible refine LeO.ite ?_ ?_)
   | (with_reducible refine LeO.bind ?_ (fun _ => ?_))
   | exact ih0 _ _ _ _ _ _
   | exact ih1 _ _ _ _ _ _ _ _ _
   | exact ih2 _ _ _ _ _ _ _ _ _ _ _
   | exact ih3 _ _ _ _ _ _ _ _ _ _ _
   | exact ih4 _ _ _ _ _ _ _ _ _ _ _ _
   | exact ih5 _ _ _ _ _ _ _ _ _ _ _
   | exact ih6 _ _ _ _ _ _ _ _ _ _ _
   | exact span_Check.mono _ _
   | exact LeO.none _
   | refine LeO.ite ?_ ?_
   | refine LeO.bind ?_ (fun _ => ?_)
  ·intro y0 y1 y2 y3 y4 y5 y6 y7 y8 y9 y10
   unfold span_sets.j3
   repeat' first
   | (with_reducible exact ih0 _ _ _ _ _ _)
   | (with_reducible exact ih1 _ _ _ _ _ _ _ _ _)
   | (with_reducible exact ih2 _ _ _ _ _ _ _ _ _ _ _)
   | (with_reducible exact ih3 _ _ _ _ _ _ _ _ _ _ _)
   | (with_reducible exact ih4 _ _ _ _ _ _ _ _ _ _ _ _)
   | (with_reducible exact ih5 _ _ _ _ _ _ _ _ _ _ _)
   | (with_reducible exact ih6 _ _ _ _ _ _ _ _ _ _ _)
   | (with_reducible exact span_Check.mono _ _)
   | (with_reducible exact LeO.refl _)
   | (with_reducible exact LeO.none _)
   | (with_reducible refine LeO.ite ?_ ?_)
   | (with_reducible refine LeO.bind ?_ (fun _ => ?_))
   | exact ih0 _ _ _ _ _ _
   | exact ih1 _ _ _ _ _ _ _ _ _
   | exact ih2 _ _ _ _ _ _ _ _ _ _ _
   | exact ih3 _ _ _ _ _ _ _ _ _ _ _
   | exact ih4 _ _ _ _ _ _ _ _ _ _ _ _
   | exact ih5 _ _ _ _ _ _ _ _ _ _ _
   | exact ih6 _ _ _ _ _ _ _ _ _ _ _
   | exact span_Check.mono _ _
   | exact LeO.none _
   | refine LeO.ite ?_ ?_
   | refine LeO.bind ?_ (fun _ => ?_)
  ·intro y0 y1 y2 y3 y4 y5 y6 y7 y8 y9 y10
   unfold span_sets.j5
   repeat' first
   | (with_reducible exact ih0 _ _ _ _ _ _)
   | (with_reducible exact ih1 _ _ _ _ _ _ _ _ _)
   | (with_reducible exact ih2 _ _ _ _ _ _ _ _ _ _ _)
   | (with_reducible exact ih3 _ _ _ _ _ _ _ _ _ _ _)
   | (with_reducible exact ih4 _ _ _ _ _ _ _ _ _ _ _ _)
   | (with_reducible exact ih5 _ _ _ _ _ _ _ _ _ _ _)
   | (with_reducible exact ih6 _ _ _ _ _ _ _ _ _ _ _)
   | (with_reducible exact span_Check.mono _ _)
   | (with_reducible exact LeO.refl _)
   | (with_reducible exact LeO.none _)
   | (with_reducible refine LeO.ite ?_ ?_)
   | (with_reducible refine LeO.bind ?_ (fun _ => ?_))
   | exact ih0 _ _ _ _ _ _
   | exact ih1 _ _ _ _ _ _ _ _ _
   | exact ih2 _ _ _ _ _ _ _ _ _ _ _
   | exact ih3 _ _ _ _ _ _ _ _ _ _ _
   | exact ih4 _ _ _ _ _ _ _ _ _ _ _ _
   | exact ih5 _ _ _ _ _ _ _ _ _ _ _
   | exact ih6 _ _ _ _ _ _ _ _ _ _ _
   | exact span_Check.mono _ _
   | exact LeO.none _
   | refine LeO.ite ?_ ?_
   | refine LeO.bind ?_ (fun _ => ?_)
  ·intro y0 y1 y2 y3 y4 y5 y6 y7 y8 y9 y10 y11
   unfold span_sets.j6
   repeat' first
   | (with_reducible exact ih0 _ _ _ _ _ _)
   | (with_reducible exact ih1 _ _ _ _ _ _ _ _ _)
   | (with_reducible exact ih2 _ _ _ _ _ _ _ _ _ _ _)
   | (with_reducible exact ih3 _ _ _ _ _ _ _ _ _ _ _)
   | (with_reducible exact ih4 _ _ _ _ _ _ _ _ _ _ _ _)
   | (with_reducible exact ih5 _ _ _ _ _ _ _ _ _ _ _)
   | (with_reducible exact ih6 _ _ _ _ _ _ _ _ _ _ _)
   | (with_reducible exact span_Check.mono _ _)
   | (with_reducible exact LeO.refl _)
   | (with_reducible exact LeO.none _)
   | (with_reducible refine LeO.ite ?_ ?_)
   | (with_reducible refine LeO.bind ?_ (fun _ => ?_))
   | exact ih0 _ _ _ _ _ _
   | exact ih1 _ _ _ _ _ _ _ _ _
   | exact ih2 _ _ _ _ _ _ _ _ _ _ _
   | exact ih3 _ _ _ _ _ _ _ _ _ _ _
   | exact ih4 _ _ _ _ _ _ _ _ _ _ _ _
   | exact ih5 _ _ _ _ _ _ _ _ _ _ _
   | exact ih6 _ _ _ _ _ _ _ _ _ _ _
   | exact span_Check.mono _ _
   | exact LeO.none _
   | refine LeO.ite ?_ ?_
   | refine LeO.bind ?_ (fun _ => ?_)
  ·intro y0 y1 y2 y3 y4 y5 y6 y7 y8 y9 y10
   unfold span_sets.l3
   repeat' first
   | (with_reducible exact ih0 _ _ _ _ _ _)
   | (with_reducible exact ih1 _ _ _ _ _ _ _ _ _)
   | (with_reducible exact ih2 _ _ _ _ _ _ _ _ _ _ _)
   | (with_reducible exact ih3 _ _ _ _ _ _ _ _ _ _ _)
   | (with_reducible exact ih4 _ _ _ _ _ _ _ _ _ _ _ _)
   | (with_reducible exact ih5 _ _ _ _ _ _ _ _ _ _ _)
   | (with_reducible exact ih6 _ _ _ _ _ _ _ _ _ _ _)
   | (with_reducible exact span_Check.mono _ _)
   | (with_reducible exact LeO.refl _)
   | (with_reducible exact LeO.none _)
   | (with_reducible refine LeO.ite ?_ ?_)
   | (with_reducible refine LeO.bind ?_ (fun _ => ?_))
   | exact ih0 _ _ _ _ _ _
   | exact ih1 _ _ _ _ _ _ _ _ _
   | exact ih2 _ _ _ _ _ _ _ _ _ _ _
   | exact ih3 _ _ _ _ _ _ _ _ _ _ _
   | exact ih4 _ _ _ _ _ _ _ _ _ _ _ _
   | exact ih5 _ _ _ _ _ _ _ _ _ _ _
   | exact ih6 _ _ _ _ _ _ _ _ _ _ _
   | exact span_Check.mono _ _
   | exact LeO.none _
   | refine LeO.ite ?_ ?_
   | refine LeO.bind ?_ (fun _ => ?_)
  ·intro y0 y1 y2 y3 y4 y5 y6 y7 y8 y9 y10
   unfold span_sets.l2
   repeat' first
   | (with_reducible exact ih0 _ _ _ _ _ _)
   | (with_reducible exact ih1 _ _ _ _ _ _ _ _ _)
   | (with_reducible exact ih2 _ _ _ _ _ _ _ _ _ _ _)
   | (with_reducible exact ih3 _ _ _ _ _ _ _ _ _ _ _)
   | (with_reducible exact ih4 _ _ _ _ _ _ _ _ _ _ _ _)
   | (with_reducible exact ih5 _ _ _ _ _ _ _ _ _ _ _)
   | (with_reducible exact ih6 _ _ _ _ _ _ _ _ _ _ _)
   | (with_reducible exact span_Check.mono _ _)
   | (with_reducible exact LeO.refl _)
   | (with_reducible exact LeO.none _)
   | (with_reducible refine LeO.ite ?_ ?_)
   | (with_reducible refine LeO.bind ?_ (fun _ => ?_))
   | exact ih0 _ _ _ _ _ _
   | exact ih1 _ _ _ _ _ _ _ _ _
   | exact ih2 _ _ _ _ _ _ _ _ _ _ _
   | exact ih3 _ _ _ _ _ _ _ _ _ _ _
   | exact ih4 _ _ _ _ _ _ _ _ _ _ _ _
   | exact ih5 _ _ _ _ _ _ _ _ _ _ _
   | exact ih6 _ _ _ _ _ _ _ _ _ _ _
   | exact span_Check.mono _ _
   | exact LeO.none _
   | refine LeO.ite ?_ ?_
   | refine LeO.bind ?_ (fun _ => ?_)
theorem span_sets.mono (kf : Bool → Bool → Option Bool) : ∀ a0 a1 a2 k, LeO (span_sets.f kf k a0 a1 a2) (span_sets.f kf (k + 1) a0 a1 a2) := by
 intro a0 a1 a2 k
 obtain ⟨ih0, ih1, ih2, ih3, ih4, ih5, ih6⟩ := span_sets.mono_l kf k
 unfold span_sets.f
 repeat' first
   | (with_reducible exact ih0 _ _ _ _ _ _)
   | (with_reducible exact ih1 _ _ _ _ _ _ _ _ _)
   | (with_reducible exact ih2 _ _ _ _ _ _ _ _ _ _ _)
   | (with_reducible exact ih3 _ _ _ _ _ _ _ _ _ _ _)
   | (with_reducible exact ih4 _ _ _ _ _ _ _ _ _ _ _ _)
   | (with_reducible exact ih5 _ _ _ _ _ _ _ _ _ _ _)
   | (with_reducible exact ih6 _ _ _ _ _ _ _ _ _ _ _)
   | (with_reducible exact span_Check.mono _ _)
   | (with_reducible exact LeO.refl _)
   | (with_reducible exact LeO.none _)
   | (with_reducible refine LeO.ite ?_ ?_)
   | (with_reducible refine LeO.bind ?_ (fun _ => ?_))
   | exact ih0 _ _ _ _ _ _
   | exact ih1 _ _ _ _ _ _ _ _ _
   | exact ih2 _ _ _ _ _ _ _ _ _ _ _
   | exact ih3 _ _ _ _ _ _ _ _ _ _ _
   | exact ih4 _ _ _ _ _ _ _ _ _ _ _ _
   | exact ih5 _ _ _ _ _ _ _ _ _ _ _
   | exact ih6 _ _ _ _ _ _ _ _ _ _ _
   | exact span_Check.mono _ _
   | exact LeO.none _
   | refine LeO.ite ?_ ?_
   | refine LeO.bind ?_ (fun _ => ?_)
set_option maxHeartbeats 40000000 in
set_option maxRecDepth 100000 in
theorem span_sets.calls (kf : Bool → Bool → Option Bool) (g : Nat) (hen : ∀ args w, (callFunc g args).run Try.prog w = .ok (.enter g args) w) (hg : ∀ (a0 a1 r : Bool) (w : World), kf a0 a1 = some r → Calls Try.prog g #[.bool a0, .bool a1] w fun e w' => e = .returned (.bool r) ∧ Drawn0 w w') (k : Nat) (A0 : Option Addr) (c0 : Nat) (l0 : List (S55)) (A1 : Option Addr) (c1 : Nat) (l1 : List (S55)) (a2 : Bool) (r1 : List (S55)) (r2 : Int) (w : World) (hr0 : Kd.C k55 w A0 l0.length l0) (hc0 : l0.length ≤ c0) (hr1 : Kd.C k55 w A1 l1.length l1) (hc1 : l1.length ≤ c1) (h : span_sets.f kf k l0 l1 a2 = some (r1, r2)) :
  Calls Try.prog 67 #[.slice A0 l0.length c0, .slice A1 l1.length c1, .func (.func g) #[] #[]] w fun e w' => ∃ v0_ : Value, e = .returned (.tuple #[v0_, .int .i64 r2]) ∧ Kd.R k55 55 w' w.heap.size (fun _ => True) v0_ r1 ∧ Below w.heap.size w w' := by
 have HG := Aside0.mk hg
 clear hg
 have hu55 := Try.underlying55
 have HR0 := Aside0.mk hr0
 have HC0 := Aside0.mk hc0
 clear hr0 hc0
 have HR1 := Aside0.mk hr1
 have HC1 := Aside0.mk hc1
 clear hr1 hc1
 have HB := Aside0.mk (Below.refl w.heap.size w)
 have H : ((span_Check.f k l0).bind fun t10001001 => (if t10001001 = 0 then ((span_Check.f k l1).bind fun t10001002 => (if t10001002 = 0 then ((span_joined.f l0).bind fun t10001003 => ((span_joined.f l1).bind fun t10001006 => ((slices_Concat_api_Span_api_Span_2.f t10001003 t10001006).bind fun t10001009 => (span_sets.l0 kf k t10001003 t10001006 ([] : List Int) t10001009 (t10001009.length : Int) 0)))) else (some (([] : List (S55)), t10001002)))) else (some (([] : List (S55)), t10001001)))) = some (r1, r2) := h
 clear h
 replace H := Option.bind_eq_some_iff.mp H
 obtain ⟨t10001001, A40, H⟩ := H
 replace H : (if t10001001 = 0 then ((span_Check.f k l1).bind fun t10001002 => (if t10001002 = 0 then ((span_joined.f l0).bind fun t10001003 => ((span_joined.f l1).bind fun t10001006 => ((slices_Concat_api_Span_api_Span_2.f t10001003 t10001006).bind fun t10001009 => (span_sets.l0 kf k t10001003 t10001006 ([] : List Int) t10001009 (t10001009.length : Int) 0)))) else (some (([] : List (S55)), t10001002)))) else (some (([] : List (S55)), t10001001))) = some (r1, r2) := H
 have A4 := Aside0.mk A40
 clear A40
 by_cases c5 : t10001001 = 0
 ·rw [if_pos c5] at H
  have c5b0 : (t10001001 == 0) = true := beq_iff_eq.mpr c5
  have c5b1 : (t10001001 != 0) = false := bne_eq_false_iff_eq.mpr c5
  clear c5
  replace H := Option.bind_eq_some_iff.mp H
  obtain ⟨t10001002, A60, H⟩ := H
  replace H : (if t10001002 = 0 then ((span_joined.f l0).bind fun t10001003 => ((span_joined.f l1).bind fun t10001006 => ((slices_Concat_api_Span_api_Span_2.f t10001003 t10001006).bind fun t10001009 => (span_sets.l0 kf k t10001003 t10001006 ([] : List Int) t10001009 (t10001009.length : Int) 0)))) else (some (([] : List (S55)), t10001002))) = some (r1, r2) := H
  have A6 := Aside0.mk A60
  clear A60
  by_cases c7 : t10001002 = 0
  ·rw [if_pos c7] at H
   have c7b0 : (t10001002 == 0) = true := beq_iff_eq.mpr c7
   have c7b1 : (t10001002 != 0) = false := bne_eq_false_iff_eq.mpr c7
   clear c7
   replace H := Option.bind_eq_some_iff.mp H
   obtain ⟨t10001003, A80, H⟩ := H
   replace H : ((span_joined.f l1).bind fun t10001006 => ((slices_Concat_api_Span_api_Span_2.f t10001003 t10001006).bind fun t10001009 => (span_sets.l0 kf k t10001003 t10001006 ([] : List Int) t10001009 (t10001009.length : Int) 0))) = some (r1, r2) := H
   have A8 := Aside0.mk A80
   clear A80
   replace H := Option.bind_eq_some_iff.mp H
   obtain ⟨t10001006, A90, H⟩ := H
   replace H : ((slices_Concat_api_Span_api_Span_2.f t10001003 t10001006).bind fun t10001009 => (span_sets.l0 kf k t10001003 t10001006 ([] : List Int) t10001009 (t10001009.length : Int) 0)) = some (r1, r2) := H
   have A9 := Aside0.mk A90
   clear A90
   replace H := Option.bind_eq_some_iff.mp H
   obtain ⟨t10001009, A100, H⟩ := H
   replace H : (span_sets.l0 kf k t10001003 t10001006 ([] : List Int) t10001009 (t10001009.length : Int) 0) = some (r1, r2) := H
   have A10 := Aside0.mk A100
   clear A100
   have H' := Aside0.mk H
   clear H
   go_enter Try.func67, Try.ntmps67
   go_wp2_with (first | (go_at_call 74; (with_reducible refine (span_Check.calls k _ _ l0 t10001001 _ ?side1 ?side2 A4.out).mono ?_); (case side1 => exact HR0.out); (case side2 => exact HC0.out); rintro e w11 ⟨rfl, hb⟩; have n0_ := Aside0.mk (below_step (by repeat (first | exact HB.out | apply below_alloc | apply pw_below_drewN | apply below_drew1)) hb); clear HB; have HB := n0_; clear n0_; (try clear hb); (try clear hb2); (try clear hk); (try clear hi)) | (go_at_call 74; (with_reducible refine (span_Check.calls k _ _ l1 t10001002 _ ?side1 ?side2 A6.out).mono ?_); (case side1 => exact (Kd.C_below HR1.out HB.out)); (case side2 => exact HC1.out); rintro e w12 ⟨rfl, hb⟩; have n0_ := Aside0.mk (below_step (by repeat (first | exact HB.out | apply below_alloc | apply pw_below_drewN | apply below_drew1)) hb); clear HB; have HB := n0_; clear n0_; (try clear hb); (try clear hb2); (try clear hk); (try clear hi)) | (go_at_call 75; (with_reducible refine (span_joined.calls _ _ l0 t10001003 _ ?side1 ?side2 A8.out).mono ?_); (case side1 => exact (Kd.C_below HR0.out HB.out)); (case side2 => exact HC0.out); rintro e w13 ⟨v10001004, rfl, ho0, hb⟩; have n0_ := Aside0.mk (Kd.R_lower ho0 (below_size (by repeat (first | exact HB.out | apply below_alloc | apply pw_below_drewN | apply below_drew1)))); have n1_ := Aside0.mk (below_step (by repeat (first | exact HB.out | apply below_alloc | apply pw_below_drewN | apply below_drew1)) hb); clear HB; have HO10001005 := n0_; have HB := n1_; clear n0_ n1_; (try clear hb); (try clear hb2); (try clear hk); (try clear hi); (try clear ho0)) | (go_at_call 75; (with_reducible refine (span_joined.calls _ _ l1 t10001006 _ ?side1 ?side2 A9.out).mono ?_); (case side1 => exact (Kd.C_below HR1.out HB.out)); (case side2 => exact HC1.out); rintro e w14 ⟨v10001007, rfl, ho0, hb⟩; have n0_ := Aside0.mk (Kd.R_elder' (HO10001005.out) (Kd.R_base ho0) hb); have n1_ := Aside0.mk (Kd.R_lower (Kd.R_new' ho0 (Kd.R_lt (HO10001005.out))) (below_size (by repeat (first | exact HB.out | apply below_alloc | apply pw_below_drewN | apply below_drew1)))); have n2_ := Aside0.mk (below_step (by repeat (first | exact HB.out | apply below_alloc | apply pw_below_drewN | apply below_drew1)) hb); clear HO10001005; clear HB; have HO10001005 := n0_; have HO10001008 := n1_; have HB := n2_; clear n0_ n1_ n2_; (try clear hb); (try clear hb2); (try clear hk); (try clear hi); (try clear ho0); obtain ⟨Ao15, co15, eo15⟩ := Kd.R_slice HO10001005.out; subst eo15; obtain ⟨Ao16, co16, eo16⟩ := Kd.R_slice HO10001008.out; subst eo16) | (go_at_call 76; (with_reducible refine (slices_Concat_api_Span_api_Span_2.calls _ _ t10001003 _ _ t10001006 t10001009 _ ?side1 ?side2 ?side3 ?side4 A10.out).mono ?_); (case side1 => exact (Kd.R_reads' HO10001005.out).2.2); (case side2 => exact (Kd.R_reads' HO10001005.out).2.1); (case side3 => exact (Kd.R_reads' HO10001008.out).2.2); (case side4 => exact (Kd.R_reads' HO10001008.out).2.1); rintro e w17 ⟨v10001010, rfl, ho0, hb⟩; have n0_ := Aside0.mk (Kd.R_elder' (HO10001005.out) (Kd.R_base ho0) hb); have n1_ := Aside0.mk (Kd.R_elder' (HO10001008.out) (Kd.R_base ho0) hb); have n2_ := Aside0.mk (Kd.R_lower (Kd.R_new' (Kd.R_new' ho0 (Kd.R_lt (HO10001005.out))) (Kd.R_lt (HO10001008.out))) (below_size (by repeat (first | exact HB.out | apply below_alloc | apply pw_below_drewN | apply below_drew1)))); have n3_ := Aside0.mk (below_step (by repeat (first | exact HB.out | apply below_alloc | apply pw_below_drewN | apply below_drew1)) hb); clear HO10001005; clear HO10001008; clear HB; have HO10001005 := n0_; have HO10001008 := n1_; have HO10001011 := n2_; have HB := n3_; clear n0_ n1_ n2_ n3_; (try clear hb); (try clear hb2); (try clear hk); (try clear hi); (try clear ho0); obtain ⟨Ao18, co18, eo18⟩ := Kd.R_slice HO10001011.out; subst eo18))
   repeat (go_quiet (first | (go_at_call 74; (with_reducible refine (span_Check.calls k _ _ l0 t10001001 _ ?side1 ?side2 A4.out).mono ?_); (case side1 => exact HR0.out); (case side2 => exact HC0.out); rintro e w11 ⟨rfl, hb⟩; have n0_ := Aside0.mk (below_step (by repeat (first | exact HB.out | apply below_alloc | apply pw_below_drewN | apply below_drew1)) hb); clear HB; have HB := n0_; clear n0_; (try clear hb); (try clear hb2); (try clear hk); (try clear hi)) | (go_at_call 74; (with_reducible refine (span_Check.calls k _ _ l1 t10001002 _ ?side1 ?side2 A6.out).mono ?_); (case side1 => exact (Kd.C_below HR1.out HB.out)); (case side2 => exact HC1.out); rintro e w12 ⟨rfl, hb⟩; have n0_ := Aside0.mk (below_step (by repeat (first | exact HB.out | apply below_alloc | apply pw_below_drewN | apply below_drew1)) hb); clear HB; have HB := n0_; clear n0_; (try clear hb); (try clear hb2); (try clear hk); (try clear hi)) | (go_at_call 75; (with_reducible refine (span_joined.calls _ _ l0 t10001003 _ ?side1 ?side2 A8.out).mono ?_); (case side1 => exact (Kd.C_below HR0.out HB.out)); (case side2 => exact HC0.out); rintro e w13 ⟨v10001004, rfl, ho0, hb⟩; have n0_ := Aside0.mk (Kd.R_lower ho0 (below_size (by repeat (first | exact HB.out | apply below_alloc | apply pw_below_drewN | apply below_drew1)))); have n1_ := Aside0.mk (below_step (by repeat (first | exact HB.out | apply below_alloc | apply pw_below_drewN | apply below_drew1)) hb); clear HB; have HO10001005 := n0_; have HB := n1_; clear n0_ n1_; (try clear hb); (try clear hb2); (try clear hk); (try clear hi); (try clear ho0)) | (go_at_call 75; (with_reducible refine (span_joined.calls _ _ l1 t10001006 _ ?side1 ?side2 A9.out).mono ?_); (case side1 => exact (Kd.C_below HR1.out HB.out)); (case side2 => exact HC1.out); rintro e w14 ⟨v10001007, rfl, ho0, hb⟩; have n0_ := Aside0.mk (Kd.R_elder' (HO10001005.out) (Kd.R_base ho0) hb); have n1_ := Aside0.mk (Kd.R_lower (Kd.R_new' ho0 (Kd.R_lt (HO10001005.out))) (below_size (by repeat (first | exact HB.out | apply below_alloc | apply pw_below_drewN | apply below_drew1)))); have n2_ := Aside0.mk (below_step (by repeat (first | exact HB.out | apply below_alloc | apply pw_below_drewN | apply below_drew1)) hb); clear HO10001005; clear HB; have HO10001005 := n0_; have HO10001008 := n1_; have HB := n2_; clear n0_ n1_ n2_; (try clear hb); (try clear hb2); (try clear hk); (try clear hi); (try clear ho0); obtain ⟨Ao15, co15, eo15⟩ := Kd.R_slice HO10001005.out; subst eo15; obtain ⟨Ao16, co16, eo16⟩ := Kd.R_slice HO10001008.out; subst eo16) | (go_at_call 76; (with_reducible refine (slices_Concat_api_Span_api_Span_2.calls _ _ t10001003 _ _ t10001006 t10001009 _ ?side1 ?side2 ?side3 ?side4 A10.out).mono ?_); (case side1 => exact (Kd.R_reads' HO10001005.out).2.2); (case side2 => exact (Kd.R_reads' HO10001005.out).2.1); (case side3 => exact (Kd.R_reads' HO10001008.out).2.2); (case side4 => exact (Kd.R_reads' HO10001008.out).2.1); rintro e w17 ⟨v10001010, rfl, ho0, hb⟩; have n0_ := Aside0.mk (Kd.R_elder' (HO10001005.out) (Kd.R_base ho0) hb); have n1_ := Aside0.mk (Kd.R_elder' (HO10001008.out) (Kd.R_base ho0) hb); have n2_ := Aside0.mk (Kd.R_lower (Kd.R_new' (Kd.R_new' ho0 (Kd.R_lt (HO10001005.out))) (Kd.R_lt (HO10001008.out))) (below_size (by repeat (first | exact HB.out | apply below_alloc | apply pw_below_drewN | apply below_drew1)))); have n3_ := Aside0.mk (below_step (by repeat (first | exact HB.out | apply below_alloc | apply pw_below_drewN | apply below_drew1)) hb); clear HO10001005; clear HO10001008; clear HB; have HO10001005 := n0_; have HO10001008 := n1_; have HO10001011 := n2_; have HB := n3_; clear n0_ n1_ n2_ n3_; (try clear hb); (try clear hb2); (try clear hk); (try clear hi); (try clear ho0); obtain ⟨Ao18, co18, eo18⟩ := Kd.R_slice HO10001011.out; subst eo18)); try go_wp2_with (first | (go_at_call 74; (with_reducible refine (span_Check.calls k _ _ l0 t10001001 _ ?side1 ?side2 A4.out).mono ?_); (case side1 => exact HR0.out); (case side2 => exact HC0.out); rintro e w11 ⟨rfl, hb⟩; have n0_ := Aside0.mk (below_step (by repeat (first | exact HB.out | apply below_alloc | apply pw_below_drewN | apply below_drew1)) hb); clear HB; have HB := n0_; clear n0_; (try clear hb); (try clear hb2); (try clear hk); (try clear hi)) | (go_at_call 74; (with_reducible refine (span_Check.calls k _ _ l1 t10001002 _ ?side1 ?side2 A6.out).mono ?_); (case side1 => exact (Kd.C_below HR1.out HB.out)); (case side2 => exact HC1.out); rintro e w12 ⟨rfl, hb⟩; have n0_ := Aside0.mk (below_step (by repeat (first | exact HB.out | apply below_alloc | apply pw_below_drewN | apply below_drew1)) hb); clear HB; have HB := n0_; clear n0_; (try clear hb); (try clear hb2); (try clear hk); (try clear hi)) | (go_at_call 75; (with_reducible refine (span_joined.calls _ _ l0 t10001003 _ ?side1 ?side2 A8.out).mono ?_); (case side1 => exact (Kd.C_below HR0.out HB.out)); (case side2 => exact HC0.out); rintro e w13 ⟨v10001004, rfl, ho0, hb⟩; have n0_ := Aside0.mk (Kd.R_lower ho0 (below_size (by repeat (first | exact HB.out | apply below_alloc | apply pw_below_drewN | apply below_drew1)))); have n1_ := Aside0.mk (below_step (by repeat (first | exact HB.out | apply below_alloc | apply pw_below_drewN | apply below_drew1)) hb); clear HB; have HO10001005 := n0_; have HB := n1_; clear n0_ n1_; (try clear hb); (try clear hb2); (try clear hk); (try clear hi); (try clear ho0)) | (go_at_call 75; (with_reducible refine (span_joined.calls _ _ l1 t10001006 _ ?side1 ?side2 A9.out).mono ?_); (case side1 => exact (Kd.C_below HR1.out HB.out)); (case side2 => exact HC1.out); rintro e w14 ⟨v10001007, rfl, ho0, hb⟩; have n0_ := Aside0.mk (Kd.R_elder' (HO10001005.out) (Kd.R_base ho0) hb); have n1_ := Aside0.mk (Kd.R_lower (Kd.R_new' ho0 (Kd.R_lt (HO10001005.out))) (below_size (by repeat (first | exact HB.out | apply below_alloc | apply pw_below_drewN | apply below_drew1)))); have n2_ := Aside0.mk (below_step (by repeat (first | exact HB.out | apply below_alloc | apply pw_below_drewN | apply below_drew1)) hb); clear HO10001005; clear HB; have HO10001005 := n0_; have HO10001008 := n1_; have HB := n2_; clear n0_ n1_ n2_; (try clear hb); (try clear hb2); (try clear hk); (try clear hi); (try clear ho0); obtain ⟨Ao15, co15, eo15⟩ := Kd.R_slice HO10001005.out; subst eo15; obtain ⟨Ao16, co16, eo16⟩ := Kd.R_slice HO10001008.out; subst eo16) | (go_at_call 76; (with_reducible refine (slices_Concat_api_Span_api_Span_2.calls _ _ t10001003 _ _ t10001006 t10001009 _ ?side1 ?side2 ?side3 ?side4 A10.out).mono ?_); (case side1 => exact (Kd.R_reads' HO10001005.out).2.2); (case side2 => exact (Kd.R_reads' HO10001005.out).2.1); (case side3 => exact (Kd.R_reads' HO10001008.out).2.2); (case side4 => exact (Kd.R_reads' HO10001008.out).2.1); rintro e w17 ⟨v10001010, rfl, ho0, hb⟩; have n0_ := Aside0.mk (Kd.R_elder' (HO10001005.out) (Kd.R_base ho0) hb); have n1_ := Aside0.mk (Kd.R_elder' (HO10001008.out) (Kd.R_base ho0) hb); have n2_ := Aside0.mk (Kd.R_lower (Kd.R_new' (Kd.R_new' ho0 (Kd.R_lt (HO10001005.out))) (Kd.R_lt (HO10001008.out))) (below_size (by repeat (first | exact HB.out | apply below_alloc | apply pw_below_drewN | apply below_drew1)))); have n3_ := Aside0.mk (below_step (by repeat (first | exact HB.out | apply below_alloc | apply pw_below_drewN | apply below_drew1)) hb); clear HO10001005; clear HO10001008; clear HB; have HO10001005 := n0_; have HO10001008 := n1_; have HO10001011 := n2_; have HB := n3_; clear n0_ n1_ n2_ n3_; (try clear hb); (try clear hb2); (try clear hk); (try clear hi); (try clear ho0); obtain ⟨Ao18, co18, eo18⟩ := Kd.R_slice HO10001011.out; subst eo18)))
   go_loopg [10, 37] k (fun kq v10 v37 w' => ∃ (x10_1 : List Int) (x37_1 : Int), v37 = .int .i64 x37_1 ∧ Aside0 (span_sets.l0 kf kq t10001003 t10001006 x10_1 t10001009 (t10001009.length : Int) x37_1 = some (r1, r2)) ∧ Aside0 (kq ≤ k) ∧ Aside0 (Kd.R k55 55 w' w.heap.size (fun k_ => some k_ ≠ ((.slice Ao16 t10001006.length co16) : Value).ownBlock ∧ some k_ ≠ ((.slice Ao18 t10001009.length co18) : Value).ownBlock) (.slice Ao15 t10001003.length co15) t10001003) ∧ Aside0 (Kd.R k55 55 w' w.heap.size (fun k_ => some k_ ≠ ((.slice Ao15 t10001003.length co15) : Value).ownBlock ∧ some k_ ≠ ((.slice Ao18 t10001009.length co18) : Value).ownBlock) (.slice Ao16 t10001006.length co16) t10001006) ∧ Aside0 (Kd.R (Kd.int .i64) 3 w' w.heap.size (fun _ => True) v10 x10_1) ∧ Aside0 (Kd.R k55 55 w' w.heap.size (fun k_ => some k_ ≠ ((.slice Ao15 t10001003.length co15) : Value).ownBlock ∧ some k_ ≠ ((.slice Ao16 t10001006.length co16) : Value).ownBlock) (.slice Ao18 t10001009.length co18) t10001009) ∧ Aside0 (Below w.heap.size w w'))
   case atStart => exact ⟨(([] : List Int)), (0), (by first | rfl | (simp; done) | (simp [*]; done)), H', ⟨Nat.le_refl _⟩, ⟨by exact Kd.R_mono HO10001005.out (fun _ hk => ⟨hk.1.2, hk.2⟩)⟩, ⟨by exact Kd.R_mono HO10001008.out (fun _ hk => ⟨hk.1.2, hk.2⟩)⟩, ⟨by first | exact Kd.R_nil _ _ _ _ _ | exact Kd.N_nil _ _ _ _ _ | exact Kd.V_nil _ _ _ _ _ | exact Kd.Q_nil _ _ _ _ _ | exact Kd.S_nil _ _ _ _ _⟩, ⟨by exact Kd.R_mono HO10001011.out (fun _ hk => ⟨hk.1.2, hk.2⟩)⟩, ⟨by repeat (first | exact HB.out | apply below_alloc | apply pw_below_drewN | apply below_drew1)⟩⟩
   case round => as_aux_lemma =>
    clear H'
    try clear c1
    try clear p2
    try clear c5
    try clear c5b0
    try clear c5b1
    try clear c7
    try clear c7b0
    try clear c7b1
    try clear c10
    obtain ⟨x10_1, x37_1, rfl, HA, HK1, HO_0, HO_1, HO_10, HO_35, HB⟩ := hrel
    cases gk with
    | zero => exact absurd HA.out (by simp [span_sets.l0])
    | succ k1 =>
     have H := HA.out
     clear HA
     simp only [span_sets.l0] at H
     by_cases c19 : x37_1 < (t10001009.length : Int)
     ·rw [if_pos c19] at H
      have c19b0 : decide (x37_1 < (t10001009.length : Int)) = true := decide_eq_true c19
      clear c19
      by_cases c20 : 0 ≤ x37_1
      ·rw [if_pos c20] at H
       have c20b0 : decide (0 ≤ x37_1) = true := decide_eq_true c20
       clear c20
       by_cases c21 : x37_1 < (t10001009.length : Int)
       ·rw [if_pos c21] at H
        have c21b0 : decide (x37_1 < (t10001009.length : Int)) = true := decide_eq_true c21
        clear c21
        obtain ⟨y10001014, hy10001014⟩ : ∃ y_ : List Int, y_ = (([(rd_T55 t10001009 x37_1).f0, (rd_T55 t10001009 x37_1).f1] : List Int)) := ⟨_, rfl⟩
        replace H : (if x10_1.length + y10001014.length < 17592186044416 then (span_sets.l0 kf k1 t10001003 t10001006 (x10_1 ++ y10001014) t10001009 (t10001009.length : Int) (wrap64 (x37_1 + 1))) else (none)) = some (r1, r2) := by first | (rw [hy10001014]; with_reducible exact H) | (have H2_ := (Option.bind_some _ _).symm.trans H; rw [hy10001014]; with_reducible exact H2_) | (have H2_ := (Option.bind_some _ _).symm.trans H; with_reducible exact H2_) | with_reducible exact H | (rw [hy10001014]; exact H) | exact H
        have Ny10001014 := Aside0.mk hy10001014
        clear hy10001014
        by_cases c22 : x10_1.length + y10001014.length < 17592186044416
        ·rw [if_pos c22] at H
         have LMc22 := Aside0.mk c22
         clear c22
         obtain ⟨y10001017, hy10001017⟩ : ∃ y_ : List Int, y_ = (x10_1 ++ y10001014) := ⟨_, rfl⟩
         replace H : (span_sets.l0 kf k1 t10001003 t10001006 y10001017 t10001009 (t10001009.length : Int) (wrap64 (x37_1 + 1))) = some (r1, r2) := by first | (rw [hy10001017]; with_reducible exact H) | (have H2_ := (Option.bind_some _ _).symm.trans H; rw [hy10001017]; with_reducible exact H2_) | (have H2_ := (Option.bind_some _ _).symm.trans H; with_reducible exact H2_) | with_reducible exact H | (rw [hy10001017]; exact H) | exact H
         have Ny10001017 := Aside0.mk hy10001017
         clear hy10001017
         have H' := Aside0.mk H
         clear H
         have p10001012 : 0 ≤ (x37_1 : Int) := of_decide_eq_true (by assumption)
         have q10001012 : x37_1 < (t10001009.length : Int) := of_decide_eq_true (by assumption)
         obtain ⟨ad10001012, e10001012, hx10001012_0, hx10001012_1⟩ := at_T55 (Kd.R_reads' HO_35.out).2.2 x37_1 p10001012 q10001012
         cases e10001012
         replace p10001012 := eq_true p10001012
         replace q10001012 := eq_true q10001012
         go_wp2_with (first | ((with_reducible refine gate_dst (N := 12) rfl ?_); refine box_event ?hg (N := 12) ?hd (cs := #[.int .i64 0, .int .i64 0]) (t := 55) ?hr ?_; (case hd => rfl); (case hg => rfl); (case hr => first | (go_simp; done) | (go_simp; rfl)); intro gb10001013 hg w23 hbox hb; have n0_ := Aside0.mk (Kd.R_below (Kd.R_elderB (HO_0.out) gb10001013 (Nat.le_of_eq hg.symm)) hb); have n1_ := Aside0.mk (Kd.R_below (Kd.R_elderB (HO_1.out) gb10001013 (Nat.le_of_eq hg.symm)) hb); have n2_ := Aside0.mk (Kd.R_below (HO_10.out) hb); have n3_ := Aside0.mk (Kd.R_below (Kd.R_elderB (HO_35.out) gb10001013 (Nat.le_of_eq hg.symm)) hb); have n4_ := Aside0.mk (below_step (by repeat (first | exact HB.out | apply below_alloc | apply pw_below_drewN | apply below_drew1)) hb); have n5_ := Aside0.mk (hbox); have n6_ := Aside0.mk ((by rw [hg]; exact (below_size (by repeat (first | exact HB.out | apply below_alloc | apply pw_below_drewN | apply below_drew1))) : w.heap.size ≤ gb10001013)); have n7_ := Aside0.mk ((by rw [hg]; exact (below_size (by repeat (first | exact HB.out | apply below_alloc | apply pw_below_drewN | apply below_drew1))) : w.heap.size ≤ gb10001013)); clear HO_0; clear HO_1; clear HO_10; clear HO_35; clear HB; have HO_0 := n0_; have HO_1 := n1_; have HO_10 := n2_; have HO_35 := n3_; have HB := n4_; have BK10001013 := n5_; have GW10001013 := n6_; have GE10001013 := n7_; clear n0_ n1_ n2_ n3_ n4_ n5_ n6_ n7_; clear hb hbox hg; have hcz24_0 : w23.cell? ⟨gb10001013, 0, none⟩ = some (.int .i64 0) := (blk_cell BK10001013.out 0).trans rfl; have hcz24_1 : w23.cell? ⟨gb10001013, 1, none⟩ = some (.int .i64 0) := (blk_cell BK10001013.out 1).trans rfl; have hfz24_0 := blk_frozen BK10001013.out 0; have hfz24_1 := blk_frozen BK10001013.out 1) | ((with_reducible refine gate_dst (N := 46) rfl ?_); refine Kd.R_lit (Kd.int .i64) _ 3 ?hg (N := 46) ?hd (xs := ([(rd_T55 t10001009 x37_1).f0, (rd_T55 t10001009 x37_1).f1] : List Int)) (inner := [.int .i64 ((rd_T55 t10001009 x37_1).f0), .int .i64 ((rd_T55 t10001009 x37_1).f1)]) (ok := fun _ => True) (okp := fun _ => True) ?hr ?hp (fun _ hk => hk) trivial (Below.refl _ _) (Nat.le_refl _) (by simp) ?_; (case hd => rfl); (case hg => rfl); (case hr => first | (go_simp; done) | (go_simp; rfl)); (case hp => exact (Reps.one (show Kd.M (Kd.int .i64) _ _ _ ((rd_T55 t10001009 x37_1).f0) [.int .i64 ((rd_T55 t10001009 x37_1).f0)] from rfl) (Reps.one (show Kd.M (Kd.int .i64) _ _ _ ((rd_T55 t10001009 x37_1).f1) [.int .i64 ((rd_T55 t10001009 x37_1).f1)] from rfl) (Reps.none _ _)))); intro v10001015 w25 ho26 hb hg_ hnew_; clear hg_ hnew_; (first | rw [← Ny10001014.out] at ho26 | (simp only [Int.reduceToNat] at ho26; rw [← Ny10001014.out] at ho26)); have n0_ := Aside0.mk (Kd.R_below (by exact (Kd.R_mono (Kd.R_far (p := ⟨gb10001013, 1, none⟩) (Kd.R_far (p := ⟨gb10001013, 0, none⟩) (Kd.R_mono HO_0.out (fun k_ hk => (⟨hk, hk.2⟩ : _ ∧ k_ ≠ gb10001013))) (fun _ hk => hk.2) (.int .i64 ((rd_T55 t10001009 x37_1).f0))) (fun _ hk => hk.2) (.int .i64 ((rd_T55 t10001009 x37_1).f1))) (fun _ h_ => h_.1))) hb); have n1_ := Aside0.mk (Kd.R_below (by exact (Kd.R_mono (Kd.R_far (p := ⟨gb10001013, 1, none⟩) (Kd.R_far (p := ⟨gb10001013, 0, none⟩) (Kd.R_mono HO_1.out (fun k_ hk => (⟨hk, hk.2⟩ : _ ∧ k_ ≠ gb10001013))) (fun _ hk => hk.2) (.int .i64 ((rd_T55 t10001009 x37_1).f0))) (fun _ hk => hk.2) (.int .i64 ((rd_T55 t10001009 x37_1).f1))) (fun _ h_ => h_.1))) hb); have n2_ := Aside0.mk (Kd.R_elder' (by exact (Kd.R_mono (Kd.R_far (p := ⟨gb10001013, 1, none⟩) (Kd.R_far (p := ⟨gb10001013, 0, none⟩) (Kd.R_types HO_10.out BK10001013.out (by decide)) (fun _ hk => hk.2) (.int .i64 ((rd_T55 t10001009 x37_1).f0))) (fun _ hk => hk.2) (.int .i64 ((rd_T55 t10001009 x37_1).f1))) (fun _ h_ => h_.1))) (Kd.R_base ho26) hb); have n3_ := Aside0.mk (Kd.R_below (by exact (Kd.R_mono (Kd.R_far (p := ⟨gb10001013, 1, none⟩) (Kd.R_far (p := ⟨gb10001013, 0, none⟩) (Kd.R_mono HO_35.out (fun k_ hk => (⟨hk, hk.2⟩ : _ ∧ k_ ≠ gb10001013))) (fun _ hk => hk.2) (.int .i64 ((rd_T55 t10001009 x37_1).f0))) (fun _ hk => hk.2) (.int .i64 ((rd_T55 t10001009 x37_1).f1))) (fun _ h_ => h_.1))) hb); have n4_ := Aside0.mk (Kd.R_lower (Kd.R_new' ho26 (Kd.R_lt (by exact (Kd.R_mono (Kd.R_far (p := ⟨gb10001013, 1, none⟩) (Kd.R_far (p := ⟨gb10001013, 0, none⟩) (Kd.R_types HO_10.out BK10001013.out (by decide)) (fun _ hk => hk.2) (.int .i64 ((rd_T55 t10001009 x37_1).f0))) (fun _ hk => hk.2) (.int .i64 ((rd_T55 t10001009 x37_1).f1))) (fun _ h_ => h_.1))))) (below_size (by repeat (first | exact HB.out | apply below_alloc | apply pw_below_drewN | apply below_drew1 | refine below_set ?_ GE10001013.out)))); have n5_ := Aside0.mk (blk_below (g := gb10001013) (o := .cells #[.int .i64 ((rd_T55 t10001009 x37_1).f0), .int .i64 ((rd_T55 t10001009 x37_1).f1)] 55 (0, 0)) (by refine blk_put (cs := #[.int .i64 ((rd_T55 t10001009 x37_1).f0), .int .i64 0]) ?_ 1 _ rfl; refine blk_put (cs := #[.int .i64 0, .int .i64 0]) ?_ 0 _ rfl; exact BK10001013.out) hb); have n6_ := Aside0.mk (below_step (by repeat (first | exact HB.out | apply below_alloc | apply pw_below_drewN | apply below_drew1 | refine below_set ?_ GE10001013.out)) hb); clear HO_0; clear HO_1; clear HO_10; clear HO_35; clear BK10001013; clear HB; have HO_0 := n0_; have HO_1 := n1_; have HO_10 := n2_; have HO_35 := n3_; have HO10001016 := n4_; have BK10001013 := n5_; have HB := n6_; clear n0_ n1_ n2_ n3_ n4_ n5_ n6_; clear hb ho26; obtain ⟨Ao28, co28, eo28⟩ := Kd.R_slice HO10001016.out; subst eo28) | ((with_reducible refine gate_builtin (b := .append) (xs := #[.tmp 41, .tmp 46]) rfl ?_); at_builtin; refine Kd.R_append_rows (Kd.int .i64) (w0 := w) w.heap.size rfl (.tmp 41) (.tmp 46) 32 3 (.int .i64 0) 8 rfl Try.underlying32 info3 rfl (by decide) (by omega) u10 x10_1 y10001014 _ _ _ (fun k_ => some k_ ≠ (.slice Ao28 y10001014.length co28 : Value).ownBlock) (fun _ => False) rfl rfl ?aO ?aR (fun _ _ h => h) (fun _ h => h.elim) ?aF ?aB ?aS ?aL ?_; (case aR => exact (Kd.R_reads' HO10001016.out).2.2); (case aB => exact (by repeat (first | exact HB.out | apply below_alloc | apply pw_below_drewN | apply below_drew1 | refine below_set ?_ GE10001013.out))); (case aF => exact (fun k_ hk => Kd.fresh' (Kd.R_lt (HO10001016.out)) k_ hk)); (case aO => exact (by exact Kd.R_mono HO_10.out (fun _ hk => hk.2))); (case aS => exact (below_size (by repeat (first | exact HB.out | apply below_alloc | apply pw_below_drewN | apply below_drew1 | refine below_set ?_ GE10001013.out)))); (case aL => have := LMc22.out; omega); intro v10001018 w27 ho hb hg hat; rw [← Ny10001017.out] at ho; have n0_ := Aside0.mk (Kd.R_over' (HO_0.out) (Kd.R_typed (HO_10.out)) (by decide) hg); have n1_ := Aside0.mk (Kd.R_over' (HO_1.out) (Kd.R_typed (HO_10.out)) (by decide) hg); have n2_ := Aside0.mk (Kd.R_over' (HO_35.out) (Kd.R_typed (HO_10.out)) (by decide) hg); have n3_ := Aside0.mk (blk_grown (g := gb10001013) (o := .cells #[.int .i64 ((rd_T55 t10001009 x37_1).f0), .int .i64 ((rd_T55 t10001009 x37_1).f1)] 55 (0, 0)) (BK10001013.out) hg (Kd.R_ne HO_10.out BK10001013.out (by decide))); have n4_ := Aside0.mk (Kd.R_after (ok := (fun _ => True)) (HO10001016.out) hg hat); have n5_ := Aside0.mk (hb); have n6_ := Aside0.mk (ho); clear HO_0; clear HO_1; clear HO_35; clear BK10001013; clear HO10001016; clear HB; clear HO_10; have HO_0 := n0_; have HO_1 := n1_; have HO_35 := n2_; have BK10001013 := n3_; have HO10001016 := n4_; have HB := n5_; have HO10001019 := n6_; clear n0_ n1_ n2_ n3_ n4_ n5_ n6_; clear ho hb hg hat))
         repeat (go_quiet (first | ((with_reducible refine gate_dst (N := 12) rfl ?_); refine box_event ?hg (N := 12) ?hd (cs := #[.int .i64 0, .int .i64 0]) (t := 55) ?hr ?_; (case hd => rfl); (case hg => rfl); (case hr => first | (go_simp; done) | (go_simp; rfl)); intro gb10001013 hg w23 hbox hb; have n0_ := Aside0.mk (Kd.R_below (Kd.R_elderB (HO_0.out) gb10001013 (Nat.le_of_eq hg.symm)) hb); have n1_ := Aside0.mk (Kd.R_below (Kd.R_elderB (HO_1.out) gb10001013 (Nat.le_of_eq hg.symm)) hb); have n2_ := Aside0.mk (Kd.R_below (HO_10.out) hb); have n3_ := Aside0.mk (Kd.R_below (Kd.R_elderB (HO_35.out) gb10001013 (Nat.le_of_eq hg.symm)) hb); have n4_ := Aside0.mk (below_step (by repeat (first | exact HB.out | apply below_alloc | apply pw_below_drewN | apply below_drew1)) hb); have n5_ := Aside0.mk (hbox); have n6_ := Aside0.mk ((by rw [hg]; exact (below_size (by repeat (first | exact HB.out | apply below_alloc | apply pw_below_drewN | apply below_drew1))) : w.heap.size ≤ gb10001013)); have n7_ := Aside0.mk ((by rw [hg]; exact (below_size (by repeat (first | exact HB.out | apply below_alloc | apply pw_below_drewN | apply below_drew1))) : w.heap.size ≤ gb10001013)); clear HO_0; clear HO_1; clear HO_10; clear HO_35; clear HB; have HO_0 := n0_; have HO_1 := n1_; have HO_10 := n2_; have HO_35 := n3_; have HB := n4_; have BK10001013 := n5_; have GW10001013 := n6_; have GE10001013 := n7_; clear n0_ n1_ n2_ n3_ n4_ n5_ n6_ n7_; clear hb hbox hg; have hcz24_0 : w23.cell? ⟨gb10001013, 0, none⟩ = some (.int .i64 0) := (blk_cell BK10001013.out 0).trans rfl; have hcz24_1 : w23.cell? ⟨gb10001013, 1, none⟩ = some (.int .i64 0) := (blk_cell BK10001013.out 1).trans rfl; have hfz24_0 := blk_frozen BK10001013.out 0; have hfz24_1 := blk_frozen BK10001013.out 1) | ((with_reducible refine gate_dst (N := 46) rfl ?_); refine Kd.R_lit (Kd.int .i64) _ 3 ?hg (N := 46) ?hd (xs := ([(rd_T55 t10001009 x37_1).f0, (rd_T55 t10001009 x37_1).f1] : List Int)) (inner := [.int .i64 ((rd_T55 t10001009 x37_1).f0), .int .i64 ((rd_T55 t10001009 x37_1).f1)]) (ok := fun _ => True) (okp := fun _ => True) ?hr ?hp (fun _ hk => hk) trivial (Below.refl _ _) (Nat.le_refl _) (by simp) ?_; (case hd => rfl); (case hg => rfl); (case hr => first | (go_simp; done) | (go_simp; rfl)); (case hp => exact (Reps.one (show Kd.M (Kd.int .i64) _ _ _ ((rd_T55 t10001009 x37_1).f0) [.int .i64 ((rd_T55 t10001009 x37_1).f0)] from rfl) (Reps.one (show Kd.M (Kd.int .i64) _ _ _ ((rd_T55 t10001009 x37_1).f1) [.int .i64 ((rd_T55 t10001009 x37_1).f1)] from rfl) (Reps.none _ _)))); intro v10001015 w25 ho26 hb hg_ hnew_; clear hg_ hnew_; (first | rw [← Ny10001014.out] at ho26 | (simp only [Int.reduceToNat] at ho26; rw [← Ny10001014.out] at ho26)); have n0_ := Aside0.mk (Kd.R_below (by exact (Kd.R_mono (Kd.R_far (p := ⟨gb10001013, 1, none⟩) (Kd.R_far (p := ⟨gb10001013, 0, none⟩) (Kd.R_mono HO_0.out (fun k_ hk => (⟨hk, hk.2⟩ : _ ∧ k_ ≠ gb10001013))) (fun _ hk => hk.2) (.int .i64 ((rd_T55 t10001009 x37_1).f0))) (fun _ hk => hk.2) (.int .i64 ((rd_T55 t10001009 x37_1).f1))) (fun _ h_ => h_.1))) hb); have n1_ := Aside0.mk (Kd.R_below (by exact (Kd.R_mono (Kd.R_far (p := ⟨gb10001013, 1, none⟩) (Kd.R_far (p := ⟨gb10001013, 0, none⟩) (Kd.R_mono HO_1.out (fun k_ hk => (⟨hk, hk.2⟩ : _ ∧ k_ ≠ gb10001013))) (fun _ hk => hk.2) (.int .i64 ((rd_T55 t10001009 x37_1).f0))) (fun _ hk => hk.2) (.int .i64 ((rd_T55 t10001009 x37_1).f1))) (fun _ h_ => h_.1))) hb); have n2_ := Aside0.mk (Kd.R_elder' (by exact (Kd.R_mono (Kd.R_far (p := ⟨gb10001013, 1, none⟩) (Kd.R_far (p := ⟨gb10001013, 0, none⟩) (Kd.R_types HO_10.out BK10001013.out (by decide)) (fun _ hk => hk.2) (.int .i64 ((rd_T55 t10001009 x37_1).f0))) (fun _ hk => hk.2) (.int .i64 ((rd_T55 t10001009 x37_1).f1))) (fun _ h_ => h_.1))) (Kd.R_base ho26) hb); have n3_ := Aside0.mk (Kd.R_below (by exact (Kd.R_mono (Kd.R_far (p := ⟨gb10001013, 1, none⟩) (Kd.R_far (p := ⟨gb10001013, 0, none⟩) (Kd.R_mono HO_35.out (fun k_ hk => (⟨hk, hk.2⟩ : _ ∧ k_ ≠ gb10001013))) (fun _ hk => hk.2) (.int .i64 ((rd_T55 t10001009 x37_1).f0))) (fun _ hk => hk.2) (.int .i64 ((rd_T55 t10001009 x37_1).f1))) (fun _ h_ => h_.1))) hb); have n4_ := Aside0.mk (Kd.R_lower (Kd.R_new' ho26 (Kd.R_lt (by exact (Kd.R_mono (Kd.R_far (p := ⟨gb10001013, 1, none⟩) (Kd.R_far (p := ⟨gb10001013, 0, none⟩) (Kd.R_types HO_10.out BK10001013.out (by decide)) (fun _ hk => hk.2) (.int .i64 ((rd_T55 t10001009 x37_1).f0))) (fun _ hk => hk.2) (.int .i64 ((rd_T55 t10001009 x37_1).f1))) (fun _ h_ => h_.1))))) (below_size (by repeat (first | exact HB.out | apply below_alloc | apply pw_below_drewN | apply below_drew1 | refine below_set ?_ GE10001013.out)))); have n5_ := Aside0.mk (blk_below (g := gb10001013) (o := .cells #[.int .i64 ((rd_T55 t10001009 x37_1).f0), .int .i64 ((rd_T55 t10001009 x37_1).f1)] 55 (0, 0)) (by refine blk_put (cs := #[.int .i64 ((rd_T55 t10001009 x37_1).f0), .int .i64 0]) ?_ 1 _ rfl; refine blk_put (cs := #[.int .i64 0, .int .i64 0]) ?_ 0 _ rfl; exact BK10001013.out) hb); have n6_ := Aside0.mk (below_step (by repeat (first | exact HB.out | apply below_alloc | apply pw_below_drewN | apply below_drew1 | refine below_set ?_ GE10001013.out)) hb); clear HO_0; clear HO_1; clear HO_10; clear HO_35; clear BK10001013; clear HB; have HO_0 := n0_; have HO_1 := n1_; have HO_10 := n2_; have HO_35 := n3_; have HO10001016 := n4_; have BK10001013 := n5_; have HB := n6_; clear n0_ n1_ n2_ n3_ n4_ n5_ n6_; clear hb ho26; obtain ⟨Ao28, co28, eo28⟩ := Kd.R_slice HO10001016.out; subst eo28) | ((with_reducible refine gate_builtin (b := .append) (xs := #[.tmp 41, .tmp 46]) rfl ?_); at_builtin; refine Kd.R_append_rows (Kd.int .i64) (w0 := w) w.heap.size rfl (.tmp 41) (.tmp 46) 32 3 (.int .i64 0) 8 rfl Try.underlying32 info3 rfl (by decide) (by omega) u10 x10_1 y10001014 _ _ _ (fun k_ => some k_ ≠ (.slice Ao28 y10001014.length co28 : Value).ownBlock) (fun _ => False) rfl rfl ?aO ?aR (fun _ _ h => h) (fun _ h => h.elim) ?aF ?aB ?aS ?aL ?_; (case aR => exact (Kd.R_reads' HO10001016.out).2.2); (case aB => exact (by repeat (first | exact HB.out | apply below_alloc | apply pw_below_drewN | apply below_drew1 | refine below_set ?_ GE10001013.out))); (case aF => exact (fun k_ hk => Kd.fresh' (Kd.R_lt (HO10001016.out)) k_ hk)); (case aO => exact (by exact Kd.R_mono HO_10.out (fun _ hk => hk.2))); (case aS => exact (below_size (by repeat (first | exact HB.out | apply below_alloc | apply pw_below_drewN | apply below_drew1 | refine below_set ?_ GE10001013.out)))); (case aL => have := LMc22.out; omega); intro v10001018 w27 ho hb hg hat; rw [← Ny10001017.out] at ho; have n0_ := Aside0.mk (Kd.R_over' (HO_0.out) (Kd.R_typed (HO_10.out)) (by decide) hg); have n1_ := Aside0.mk (Kd.R_over' (HO_1.out) (Kd.R_typed (HO_10.out)) (by decide) hg); have n2_ := Aside0.mk (Kd.R_over' (HO_35.out) (Kd.R_typed (HO_10.out)) (by decide) hg); have n3_ := Aside0.mk (blk_grown (g := gb10001013) (o := .cells #[.int .i64 ((rd_T55 t10001009 x37_1).f0), .int .i64 ((rd_T55 t10001009 x37_1).f1)] 55 (0, 0)) (BK10001013.out) hg (Kd.R_ne HO_10.out BK10001013.out (by decide))); have n4_ := Aside0.mk (Kd.R_after (ok := (fun _ => True)) (HO10001016.out) hg hat); have n5_ := Aside0.mk (hb); have n6_ := Aside0.mk (ho); clear HO_0; clear HO_1; clear HO_35; clear BK10001013; clear HO10001016; clear HB; clear HO_10; have HO_0 := n0_; have HO_1 := n1_; have HO_35 := n2_; have BK10001013 := n3_; have HO10001016 := n4_; have HB := n5_; have HO10001019 := n6_; clear n0_ n1_ n2_ n3_ n4_ n5_ n6_; clear ho hb hg hat)); try go_wp2_with (first | ((with_reducible refine gate_dst (N := 12) rfl ?_); refine box_event ?hg (N := 12) ?hd (cs := #[.int .i64 0, .int .i64 0]) (t := 55) ?hr ?_; (case hd => rfl); (case hg => rfl); (case hr => first | (go_simp; done) | (go_simp; rfl)); intro gb10001013 hg w23 hbox hb; have n0_ := Aside0.mk (Kd.R_below (Kd.R_elderB (HO_0.out) gb10001013 (Nat.le_of_eq hg.symm)) hb); have n1_ := Aside0.mk (Kd.R_below (Kd.R_elderB (HO_1.out) gb10001013 (Nat.le_of_eq hg.symm)) hb); have n2_ := Aside0.mk (Kd.R_below (HO_10.out) hb); have n3_ := Aside0.mk (Kd.R_below (Kd.R_elderB (HO_35.out) gb10001013 (Nat.le_of_eq hg.symm)) hb); have n4_ := Aside0.mk (below_step (by repeat (first | exact HB.out | apply below_alloc | apply pw_below_drewN | apply below_drew1)) hb); have n5_ := Aside0.mk (hbox); have n6_ := Aside0.mk ((by rw [hg]; exact (below_size (by repeat (first | exact HB.out | apply below_alloc | apply pw_below_drewN | apply below_drew1))) : w.heap.size ≤ gb10001013)); have n7_ := Aside0.mk ((by rw [hg]; exact (below_size (by repeat (first | exact HB.out | apply below_alloc | apply pw_below_drewN | apply below_drew1))) : w.heap.size ≤ gb10001013)); clear HO_0; clear HO_1; clear HO_10; clear HO_35; clear HB; have HO_0 := n0_; have HO_1 := n1_; have HO_10 := n2_; have HO_35 := n3_; have HB := n4_; have BK10001013 := n5_; have GW10001013 := n6_; have GE10001013 := n7_; clear n0_ n1_ n2_ n3_ n4_ n5_ n6_ n7_; clear hb hbox hg; have hcz24_0 : w23.cell? ⟨gb10001013, 0, none⟩ = some (.int .i64 0) := (blk_cell BK10001013.out 0).trans rfl; have hcz24_1 : w23.cell? ⟨gb10001013, 1, none⟩ = some (.int .i64 0) := (blk_cell BK10001013.out 1).trans rfl; have hfz24_0 := blk_frozen BK10001013.out 0; have hfz24_1 := blk_frozen BK10001013.out 1) | ((with_reducible refine gate_dst (N := 46) rfl ?_); refine Kd.R_lit (Kd.int .i64) _ 3 ?hg (N := 46) ?hd (xs := ([(rd_T55 t10001009 x37_1).f0, (rd_T55 t10001009 x37_1).f1] : List Int)) (inner := [.int .i64 ((rd_T55 t10001009 x37_1).f0), .int .i64 ((rd_T55 t10001009 x37_1).f1)]) (ok := fun _ => True) (okp := fun _ => True) ?hr ?hp (fun _ hk => hk) trivial (Below.refl _ _) (Nat.le_refl _) (by simp) ?_; (case hd => rfl); (case hg => rfl); (case hr => first | (go_simp; done) | (go_simp; rfl)); (case hp => exact (Reps.one (show Kd.M (Kd.int .i64) _ _ _ ((rd_T55 t10001009 x37_1).f0) [.int .i64 ((rd_T55 t10001009 x37_1).f0)] from rfl) (Reps.one (show Kd.M (Kd.int .i64) _ _ _ ((rd_T55 t10001009 x37_1).f1) [.int .i64 ((rd_T55 t10001009 x37_1).f1)] from rfl) (Reps.none _ _)))); intro v10001015 w25 ho26 hb hg_ hnew_; clear hg_ hnew_; (first | rw [← Ny10001014.out] at ho26 | (simp only [Int.reduceToNat] at ho26; rw [← Ny10001014.out] at ho26)); have n0_ := Aside0.mk (Kd.R_below (by exact (Kd.R_mono (Kd.R_far (p := ⟨gb10001013, 1, none⟩) (Kd.R_far (p := ⟨gb10001013, 0, none⟩) (Kd.R_mono HO_0.out (fun k_ hk => (⟨hk, hk.2⟩ : _ ∧ k_ ≠ gb10001013))) (fun _ hk => hk.2) (.int .i64 ((rd_T55 t10001009 x37_1).f0))) (fun _ hk => hk.2) (.int .i64 ((rd_T55 t10001009 x37_1).f1))) (fun _ h_ => h_.1))) hb); have n1_ := Aside0.mk (Kd.R_below (by exact (Kd.R_mono (Kd.R_far (p := ⟨gb10001013, 1, none⟩) (Kd.R_far (p := ⟨gb10001013, 0, none⟩) (Kd.R_mono HO_1.out (fun k_ hk => (⟨hk, hk.2⟩ : _ ∧ k_ ≠ gb10001013))) (fun _ hk => hk.2) (.int .i64 ((rd_T55 t10001009 x37_1).f0))) (fun _ hk => hk.2) (.int .i64 ((rd_T55 t10001009 x37_1).f1))) (fun _ h_ => h_.1))) hb); have n2_ := Aside0.mk (Kd.R_elder' (by exact (Kd.R_mono (Kd.R_far (p := ⟨gb10001013, 1, none⟩) (Kd.R_far (p := ⟨gb10001013, 0, none⟩) (Kd.R_types HO_10.out BK10001013.out (by decide)) (fun _ hk => hk.2) (.int .i64 ((rd_T55 t10001009 x37_1).f0))) (fun _ hk => hk.2) (.int .i64 ((rd_T55 t10001009 x37_1).f1))) (fun _ h_ => h_.1))) (Kd.R_base ho26) hb); have n3_ := Aside0.mk (Kd.R_below (by exact (Kd.R_mono (Kd.R_far (p := ⟨gb10001013, 1, none⟩) (Kd.R_far (p := ⟨gb10001013, 0, none⟩) (Kd.R_mono HO_35.out (fun k_ hk => (⟨hk, hk.2⟩ : _ ∧ k_ ≠ gb10001013))) (fun _ hk => hk.2) (.int .i64 ((rd_T55 t10001009 x37_1).f0))) (fun _ hk => hk.2) (.int .i64 ((rd_T55 t10001009 x37_1).f1))) (fun _ h_ => h_.1))) hb); have n4_ := Aside0.mk (Kd.R_lower (Kd.R_new' ho26 (Kd.R_lt (by exact (Kd.R_mono (Kd.R_far (p := ⟨gb10001013, 1, none⟩) (Kd.R_far (p := ⟨gb10001013, 0, none⟩) (Kd.R_types HO_10.out BK10001013.out (by decide)) (fun _ hk => hk.2) (.int .i64 ((rd_T55 t10001009 x37_1).f0))) (fun _ hk => hk.2) (.int .i64 ((rd_T55 t10001009 x37_1).f1))) (fun _ h_ => h_.1))))) (below_size (by repeat (first | exact HB.out | apply below_alloc | apply pw_below_drewN | apply below_drew1 | refine below_set ?_ GE10001013.out)))); have n5_ := Aside0.mk (blk_below (g := gb10001013) (o := .cells #[.int .i64 ((rd_T55 t10001009 x37_1).f0), .int .i64 ((rd_T55 t10001009 x37_1).f1)] 55 (0, 0)) (by refine blk_put (cs := #[.int .i64 ((rd_T55 t10001009 x37_1).f0), .int .i64 0]) ?_ 1 _ rfl; refine blk_put (cs := #[.int .i64 0, .int .i64 0]) ?_ 0 _ rfl; exact BK10001013.out) hb); have n6_ := Aside0.mk (below_step (by repeat (first | exact HB.out | apply below_alloc | apply pw_below_drewN | apply below_drew1 | refine below_set ?_ GE10001013.out)) hb); clear HO_0; clear HO_1; clear HO_10; clear HO_35; clear BK10001013; clear HB; have HO_0 := n0_; have HO_1 := n1_; have HO_10 := n2_; have HO_35 := n3_; have HO10001016 := n4_; have BK10001013 := n5_; have HB := n6_; clear n0_ n1_ n2_ n3_ n4_ n5_ n6_; clear hb ho26; obtain ⟨Ao28, co28, eo28⟩ := Kd.R_slice HO10001016.out; subst eo28) | ((with_reducible refine gate_builtin (b := .append) (xs := #[.tmp 41, .tmp 46]) rfl ?_); at_builtin; refine Kd.R_append_rows (Kd.int .i64) (w0 := w) w.heap.size rfl (.tmp 41) (.tmp 46) 32 3 (.int .i64 0) 8 rfl Try.underlying32 info3 rfl (by decide) (by omega) u10 x10_1 y10001014 _ _ _ (fun k_ => some k_ ≠ (.slice Ao28 y10001014.length co28 : Value).ownBlock) (fun _ => False) rfl rfl ?aO ?aR (fun _ _ h => h) (fun _ h => h.elim) ?aF ?aB ?aS ?aL ?_; (case aR => exact (Kd.R_reads' HO10001016.out).2.2); (case aB => exact (by repeat (first | exact HB.out | apply below_alloc | apply pw_below_drewN | apply below_drew1 | refine below_set ?_ GE10001013.out))); (case aF => exact (fun k_ hk => Kd.fresh' (Kd.R_lt (HO10001016.out)) k_ hk)); (case aO => exact (by exact Kd.R_mono HO_10.out (fun _ hk => hk.2))); (case aS => exact (below_size (by repeat (first | exact HB.out | apply below_alloc | apply pw_below_drewN | apply below_drew1 | refine below_set ?_ GE10001013.out)))); (case aL => have := LMc22.out; omega); intro v10001018 w27 ho hb hg hat; rw [← Ny10001017.out] at ho; have n0_ := Aside0.mk (Kd.R_over' (HO_0.out) (Kd.R_typed (HO_10.out)) (by decide) hg); have n1_ := Aside0.mk (Kd.R_over' (HO_1.out) (Kd.R_typed (HO_10.out)) (by decide) hg); have n2_ := Aside0.mk (Kd.R_over' (HO_35.out) (Kd.R_typed (HO_10.out)) (by decide) hg); have n3_ := Aside0.mk (blk_grown (g := gb10001013) (o := .cells #[.int .i64 ((rd_T55 t10001009 x37_1).f0), .int .i64 ((rd_T55 t10001009 x37_1).f1)] 55 (0, 0)) (BK10001013.out) hg (Kd.R_ne HO_10.out BK10001013.out (by decide))); have n4_ := Aside0.mk (Kd.R_after (ok := (fun _ => True)) (HO10001016.out) hg hat); have n5_ := Aside0.mk (hb); have n6_ := Aside0.mk (ho); clear HO_0; clear HO_1; clear HO_35; clear BK10001013; clear HO10001016; clear HB; clear HO_10; have HO_0 := n0_; have HO_1 := n1_; have HO_35 := n2_; have BK10001013 := n3_; have HO10001016 := n4_; have HB := n5_; have HO10001019 := n6_; clear n0_ n1_ n2_ n3_ n4_ n5_ n6_; clear ho hb hg hat)))
         go_roundg k1
         case measure => have := HK1.out; omega
         case rel => exact ⟨(y10001017), (wrap64 (x37_1 + 1)), (by first | rfl | (simp; done) | (simp [*]; done)), H', ⟨by have := HK1.out; omega⟩, ⟨by exact Kd.R_mono HO_0.out (fun _ hk => ⟨hk.1.1, hk.1.2⟩)⟩, ⟨by exact Kd.R_mono HO_1.out (fun _ hk => ⟨hk.1.1, hk.1.2⟩)⟩, ⟨by exact Kd.R_mono HO10001019.out (fun _ hk => trivial)⟩, ⟨by exact Kd.R_mono HO_35.out (fun _ hk => ⟨hk.1.1, hk.1.2⟩)⟩, ⟨by repeat (first | exact HB.out | apply below_alloc | apply pw_below_drewN | apply below_drew1 | refine below_set ?_ GE10001013.out)⟩⟩
        ·rw [if_neg c22] at H
         exact absurd H (by simp)
       ·rw [if_neg c21] at H
        exact absurd H (by simp)
      ·rw [if_neg c20] at H
       exact absurd H (by simp)
     ·rw [if_neg c19] at H
      have c19b0 : decide (x37_1 < (t10001009.length : Int)) = false := decide_eq_false c19
      clear c19
      replace H := Option.bind_eq_some_iff.mp H
      obtain ⟨t10001020, A290, H⟩ := H
      replace H : (span_sets.l1 kf k1 t10001003 t10001006 t10001020 ([] : List (S55)) 0 0 t10001020 (x10_1.length : Int) 0) = some (r1, r2) := H
      have A29 := Aside0.mk A290
      clear A290
      have H' := Aside0.mk H
      clear H
      obtain ⟨Ao30, co30, eo30⟩ := Kd.R_slice HO_10.out
      subst eo30
      go_wp2_with (first | (go_at_call 77; (with_reducible refine (slices_Sort_int_int.calls (fun k_ => some k_ = (.slice Ao30 x10_1.length co30 : Value).ownBlock) (.slice Ao30 x10_1.length co30) x10_1 t10001020 w _ ?side1 ?side2 A29.out).mono ?_); (case side1 => repeat (first | exact HB.out | apply below_alloc | apply pw_below_drewN | apply below_drew1)); (case side2 => exact Kd.R_tight rfl HO_10.out); rintro e w31 ⟨rfl, hy0, hb, hkp⟩; have n0_ := Aside0.mk (Kd.R_mono (ok' := fun k_ => some k_ ≠ (.slice Ao16 t10001006.length co16 : Value).ownBlock ∧ some k_ ≠ (.slice Ao18 t10001009.length co18 : Value).ownBlock) (Kd.R_keptB ((Kd.R_apart' HO_0.out (Kd.R_typed HO_10.out) (by decide))) hkp (fun k_ hk_ hs_ => (hk_.2) hs_)) (fun k_ hk_ => ⟨hk_.1.1.1, hk_.1.1.2⟩)); have n1_ := Aside0.mk (Kd.R_mono (ok' := fun k_ => some k_ ≠ (.slice Ao15 t10001003.length co15 : Value).ownBlock ∧ some k_ ≠ (.slice Ao18 t10001009.length co18 : Value).ownBlock) (Kd.R_keptB ((Kd.R_apart' HO_1.out (Kd.R_typed HO_10.out) (by decide))) hkp (fun k_ hk_ hs_ => (hk_.2) hs_)) (fun k_ hk_ => ⟨hk_.1.1.1, hk_.1.1.2⟩)); have n2_ := Aside0.mk (Kd.R_reok rfl hy0 (fun k_ e_ => HO_10.out.1 k_ e_)); have n3_ := Aside0.mk (Kd.R_mono (ok' := fun k_ => some k_ ≠ (.slice Ao15 t10001003.length co15 : Value).ownBlock ∧ some k_ ≠ (.slice Ao16 t10001006.length co16 : Value).ownBlock) (Kd.R_keptB ((Kd.R_apart' HO_35.out (Kd.R_typed HO_10.out) (by decide))) hkp (fun k_ hk_ hs_ => (hk_.2) hs_)) (fun k_ hk_ => ⟨hk_.1.1.1, hk_.1.1.2⟩)); have n4_ := Aside0.mk (hb); clear HO_0; clear HO_1; clear HO_10; clear HO_35; clear HB; have HO_0 := n0_; have HO_1 := n1_; have HO_10 := n2_; have HO_35 := n3_; have HB := n4_; clear n0_ n1_ n2_ n3_ n4_; (try clear hb); (try clear hkp); (try clear hy0)))
      repeat (go_quiet (first | (go_at_call 77; (with_reducible refine (slices_Sort_int_int.calls (fun k_ => some k_ = (.slice Ao30 x10_1.length co30 : Value).ownBlock) (.slice Ao30 x10_1.length co30) x10_1 t10001020 w _ ?side1 ?side2 A29.out).mono ?_); (case side1 => repeat (first | exact HB.out | apply below_alloc | apply pw_below_drewN | apply below_drew1)); (case side2 => exact Kd.R_tight rfl HO_10.out); rintro e w31 ⟨rfl, hy0, hb, hkp⟩; have n0_ := Aside0.mk (Kd.R_mono (ok' := fun k_ => some k_ ≠ (.slice Ao16 t10001006.length co16 : Value).ownBlock ∧ some k_ ≠ (.slice Ao18 t10001009.length co18 : Value).ownBlock) (Kd.R_keptB ((Kd.R_apart' HO_0.out (Kd.R_typed HO_10.out) (by decide))) hkp (fun k_ hk_ hs_ => (hk_.2) hs_)) (fun k_ hk_ => ⟨hk_.1.1.1, hk_.1.1.2⟩)); have n1_ := Aside0.mk (Kd.R_mono (ok' := fun k_ => some k_ ≠ (.slice Ao15 t10001003.length co15 : Value).ownBlock ∧ some k_ ≠ (.slice Ao18 t10001009.length co18 : Value).ownBlock) (Kd.R_keptB ((Kd.R_apart' HO_1.out (Kd.R_typed HO_10.out) (by decide))) hkp (fun k_ hk_ hs_ => (hk_.2) hs_)) (fun k_ hk_ => ⟨hk_.1.1.1, hk_.1.1.2⟩)); have n2_ := Aside0.mk (Kd.R_reok rfl hy0 (fun k_ e_ => HO_10.out.1 k_ e_)); have n3_ := Aside0.mk (Kd.R_mono (ok' := fun k_ => some k_ ≠ (.slice Ao15 t10001003.length co15 : Value).ownBlock ∧ some k_ ≠ (.slice Ao16 t10001006.length co16 : Value).ownBlock) (Kd.R_keptB ((Kd.R_apart' HO_35.out (Kd.R_typed HO_10.out) (by decide))) hkp (fun k_ hk_ hs_ => (hk_.2) hs_)) (fun k_ hk_ => ⟨hk_.1.1.1, hk_.1.1.2⟩)); have n4_ := Aside0.mk (hb); clear HO_0; clear HO_1; clear HO_10; clear HO_35; clear HB; have HO_0 := n0_; have HO_1 := n1_; have HO_10 := n2_; have HO_35 := n3_; have HB := n4_; clear n0_ n1_ n2_ n3_ n4_; (try clear hb); (try clear hkp); (try clear hy0))); try go_wp2_with (first | (go_at_call 77; (with_reducible refine (slices_Sort_int_int.calls (fun k_ => some k_ = (.slice Ao30 x10_1.length co30 : Value).ownBlock) (.slice Ao30 x10_1.length co30) x10_1 t10001020 w _ ?side1 ?side2 A29.out).mono ?_); (case side1 => repeat (first | exact HB.out | apply below_alloc | apply pw_below_drewN | apply below_drew1)); (case side2 => exact Kd.R_tight rfl HO_10.out); rintro e w31 ⟨rfl, hy0, hb, hkp⟩; have n0_ := Aside0.mk (Kd.R_mono (ok' := fun k_ => some k_ ≠ (.slice Ao16 t10001006.length co16 : Value).ownBlock ∧ some k_ ≠ (.slice Ao18 t10001009.length co18 : Value).ownBlock) (Kd.R_keptB ((Kd.R_apart' HO_0.out (Kd.R_typed HO_10.out) (by decide))) hkp (fun k_ hk_ hs_ => (hk_.2) hs_)) (fun k_ hk_ => ⟨hk_.1.1.1, hk_.1.1.2⟩)); have n1_ := Aside0.mk (Kd.R_mono (ok' := fun k_ => some k_ ≠ (.slice Ao15 t10001003.length co15 : Value).ownBlock ∧ some k_ ≠ (.slice Ao18 t10001009.length co18 : Value).ownBlock) (Kd.R_keptB ((Kd.R_apart' HO_1.out (Kd.R_typed HO_10.out) (by decide))) hkp (fun k_ hk_ hs_ => (hk_.2) hs_)) (fun k_ hk_ => ⟨hk_.1.1.1, hk_.1.1.2⟩)); have n2_ := Aside0.mk (Kd.R_reok rfl hy0 (fun k_ e_ => HO_10.out.1 k_ e_)); have n3_ := Aside0.mk (Kd.R_mono (ok' := fun k_ => some k_ ≠ (.slice Ao15 t10001003.length co15 : Value).ownBlock ∧ some k_ ≠ (.slice Ao16 t10001006.length co16 : Value).ownBlock) (Kd.R_keptB ((Kd.R_apart' HO_35.out (Kd.R_typed HO_10.out) (by decide))) hkp (fun k_ hk_ hs_ => (hk_.2) hs_)) (fun k_ hk_ => ⟨hk_.1.1.1, hk_.1.1.2⟩)); have n4_ := Aside0.mk (hb); clear HO_0; clear HO_1; clear HO_10; clear HO_35; clear HB; have HO_0 := n0_; have HO_1 := n1_; have HO_10 := n2_; have HO_35 := n3_; have HB := n4_; clear n0_ n1_ n2_ n3_ n4_; (try clear hb); (try clear hkp); (try clear hy0))))
      have hlen_ := (Kd.R_reads' HO_10.out).1
      rw [hlen_] at H' HO_10 ⊢
      clear hlen_
      go_loopg [13, 14, 15, 53] k1 (fun kq v13 v14 v15 v53 w' => ∃ (x13_2 : List (S55)) (x14_2 : Int) (x15_2 : Int) (x53_2 : Int), v14 = .int .i64 x14_2 ∧ v15 = .int .i64 x15_2 ∧ v53 = .int .i64 x53_2 ∧ Aside0 (span_sets.l1 kf kq t10001003 t10001006 t10001020 x13_2 x14_2 x15_2 t10001020 (t10001020.length : Int) x53_2 = some (r1, r2)) ∧ Aside0 (kq ≤ k1) ∧ Aside0 (Kd.R k55 55 w' w.heap.size (fun k_ => some k_ ≠ ((.slice Ao16 t10001006.length co16) : Value).ownBlock ∧ some k_ ≠ (v13 : Value).ownBlock) (.slice Ao15 t10001003.length co15) t10001003) ∧ Aside0 (Kd.R k55 55 w' w.heap.size (fun k_ => some k_ ≠ ((.slice Ao15 t10001003.length co15) : Value).ownBlock ∧ some k_ ≠ (v13 : Value).ownBlock) (.slice Ao16 t10001006.length co16) t10001006) ∧ Aside0 (Kd.R (Kd.int .i64) 3 w' w.heap.size (fun _ => True) (.slice Ao30 t10001020.length co30) t10001020) ∧ Aside0 (Kd.R k55 55 w' w.heap.size (fun k_ => some k_ ≠ ((.slice Ao15 t10001003.length co15) : Value).ownBlock ∧ some k_ ≠ ((.slice Ao16 t10001006.length co16) : Value).ownBlock) v13 x13_2) ∧ Aside0 (Kd.R (Kd.int .i64) 3 w' w.heap.size (fun _ => True) (.slice Ao30 t10001020.length co30) t10001020) ∧ Aside0 (Below w.heap.size w w'))
      case atStart => exact ⟨(([] : List (S55))), (0), (0), (0), (by first | rfl | (simp; done) | (simp [*]; done)), (by first | rfl | (simp; done) | (simp [*]; done)), (by first | rfl | (simp; done) | (simp [*]; done)), H', ⟨Nat.le_refl _⟩, ⟨by exact Kd.R_mono HO_0.out (fun _ hk => ⟨hk.1, (by simp [Value.ownBlock])⟩)⟩, ⟨by exact Kd.R_mono HO_1.out (fun _ hk => ⟨hk.1, (by simp [Value.ownBlock])⟩)⟩, ⟨HO_10.out⟩, ⟨by first | exact Kd.R_nil _ _ _ _ _ | exact Kd.N_nil _ _ _ _ _ | exact Kd.V_nil _ _ _ _ _ | exact Kd.Q_nil _ _ _ _ _ | exact Kd.S_nil _ _ _ _ _⟩, ⟨HO_10.out⟩, ⟨by repeat (first | exact HB.out | apply below_alloc | apply pw_below_drewN | apply below_drew1)⟩⟩
      case round => as_aux_lemma =>
       clear H'
       try clear c1
       try clear p1
       try clear q1
       try clear hx1
       try clear c2
       try clear p2
       try clear c5
       try clear c5b0
       try clear c5b1
       try clear p6
       try clear c7
       try clear c7b0
       try clear c7b1
       try clear c10
       try clear p10
       try clear q10
       try clear hx10
       try clear c19
       try clear c19b0
       try clear c20
       try clear c20b0
       try clear c21
       try clear c21b0
       try clear c22
       try clear hcz24_0
       try clear hcz24_1
       try clear hfz24_0
       try clear hfz24_1
       try clear hx10001012_0
       try clear hx10001012_1
       try clear p10001012
       try clear p2
       try clear q10001012
       obtain ⟨x13_2, x14_2, x15_2, x53_2, rfl, rfl, rfl, HA, HK2, HO_0, HO_1, HO_10, HO_13, HO_51, HB⟩ := hrel
       have hl10_2 := (Kd.R_reads' HO_10.out).1
       rw [hl10_2] at HO_10
       (try simp only [hl10_2])
       (try simp only [hl10_2] at HO_0)
       (try simp only [hl10_2] at HO_1)
       (try simp only [hl10_2] at HO_13)
       (try simp only [hl10_2] at HO_51)
       have hl51_2 := (Kd.R_reads' HO_51.out).1
       rw [hl51_2] at HO_51
       (try simp only [hl51_2])
       (try simp only [hl51_2] at HO_0)
       (try simp only [hl51_2] at HO_1)
       (try simp only [hl51_2] at HO_10)
       (try simp only [hl51_2] at HO_13)
       cases gk with
       | zero => exact absurd HA.out (by simp [span_sets.l1])
       | succ k2 =>
        have H := HA.out
        clear HA
        simp only [span_sets.l1] at H
        by_cases c32 : x53_2 < (t10001020.length : Int)
        ·rw [if_pos c32] at H
         have c32b0 : decide (x53_2 < (t10001020.length : Int)) = true := decide_eq_true c32
         clear c32
         by_cases c33 : 0 ≤ x53_2
         ·rw [if_pos c33] at H
          have c33b0 : decide (0 ≤ x53_2) = true := decide_eq_true c33
          clear c33
          by_cases c34 : x53_2 < (t10001020.length : Int)
          ·rw [if_pos c34] at H
           have c34b0 : decide (x53_2 < (t10001020.length : Int)) = true := decide_eq_true c34
           clear c34
           have HC35 := Aside0.mk H
           clear H
           have p10001024 : 0 ≤ (x53_2 : Int) := of_decide_eq_true (by assumption)
           have q10001024 : x53_2 < (t10001020.length : Int) := of_decide_eq_true (by assumption)
           obtain ⟨ad10001024, e10001024, hx10001024_0⟩ := Kd.at_int (Kd.R_reads' HO_51.out).2.2 x53_2 p10001024 q10001024
           cases e10001024
           replace p10001024 := eq_true p10001024
           replace q10001024 := eq_true q10001024
           go_upto_block 4 with (fail)
           repeat (go_quiet (fail); go_upto_block 4 with (fail))
           go_cut [14] (fun v14 wc => ∃ (kq : Nat) (x14_34 : Int), v14 = .int .i64 x14_34 ∧ Aside0 (span_sets.j3 kf kq t10001003 t10001006 t10001020 x13_2 x14_34 x15_2 x53_2 (rd t10001020 x53_2) t10001020 (t10001020.length : Int) x53_2 = some (r1, r2)) ∧ Aside0 (kq ≤ k2) ∧ Aside0 (Kd.R k55 55 wc w.heap.size (fun k_ => some k_ ≠ ((.slice Ao16 t10001006.length co16) : Value).ownBlock ∧ some k_ ≠ (u13 : Value).ownBlock) (.slice Ao15 t10001003.length co15) t10001003) ∧ Aside0 (Kd.R k55 55 wc w.heap.size (fun k_ => some k_ ≠ ((.slice Ao15 t10001003.length co15) : Value).ownBlock ∧ some k_ ≠ (u13 : Value).ownBlock) (.slice Ao16 t10001006.length co16) t10001006) ∧ Aside0 (Kd.R (Kd.int .i64) 3 wc w.heap.size (fun _ => True) (.slice (some ad10001024) t10001020.length co30) t10001020) ∧ Aside0 (Kd.R k55 55 wc w.heap.size (fun k_ => some k_ ≠ ((.slice Ao15 t10001003.length co15) : Value).ownBlock ∧ some k_ ≠ ((.slice Ao16 t10001006.length co16) : Value).ownBlock) u13 x13_2) ∧ Aside0 (Kd.R (Kd.int .i64) 3 wc w.heap.size (fun _ => True) (.slice (some ad10001024) t10001020.length co30) t10001020) ∧ Aside0 (Below w.heap.size w wc))
           case first => as_aux_lemma =>
            have H := HC35.out
            clear HC35
            have H' := Aside0.mk H
            clear H
            go_wp2
            repeat (go_quiet (fail); try go_wp2)
            go_loopg [14] k2 (fun kq v14 w' => ∃ (x14_3 : Int), v14 = .int .i64 x14_3 ∧ Aside0 (span_sets.l2 kf kq t10001003 t10001006 t10001020 x13_2 x14_3 x15_2 x53_2 (rd t10001020 x53_2) t10001020 (t10001020.length : Int) x53_2 = some (r1, r2)) ∧ Aside0 (kq ≤ k2) ∧ Aside0 (Kd.R k55 55 w' w.heap.size (fun k_ => some k_ ≠ ((.slice Ao16 t10001006.length co16) : Value).ownBlock ∧ some k_ ≠ (u13 : Value).ownBlock) (.slice Ao15 t10001003.length co15) t10001003) ∧ Aside0 (Kd.R k55 55 w' w.heap.size (fun k_ => some k_ ≠ ((.slice Ao15 t10001003.length co15) : Value).ownBlock ∧ some k_ ≠ (u13 : Value).ownBlock) (.slice Ao16 t10001006.length co16) t10001006) ∧ Aside0 (Kd.R (Kd.int .i64) 3 w' w.heap.size (fun _ => True) (.slice (some ad10001024) t10001020.length co30) t10001020) ∧ Aside0 (Kd.R k55 55 w' w.heap.size (fun k_ => some k_ ≠ ((.slice Ao15 t10001003.length co15) : Value).ownBlock ∧ some k_ ≠ ((.slice Ao16 t10001006.length co16) : Value).ownBlock) u13 x13_2) ∧ Aside0 (Kd.R (Kd.int .i64) 3 w' w.heap.size (fun _ => True) (.slice (some ad10001024) t10001020.length co30) t10001020) ∧ Aside0 (Below w.heap.size w w'))
            case atStart => exact ⟨(x14_2), (by first | rfl | (simp; done) | (simp [*]; done)), H', ⟨Nat.le_refl _⟩, ⟨by (try simp only [hl10_2]); (try simp only [hl51_2]); exact HO_0.out⟩, ⟨by (try simp only [hl10_2]); (try simp only [hl51_2]); exact HO_1.out⟩, ⟨by (try simp only [hl10_2]); (try simp only [hl51_2]); exact HO_10.out⟩, ⟨by (try simp only [hl10_2]); (try simp only [hl51_2]); exact HO_13.out⟩, ⟨by (try simp only [hl10_2]); (try simp only [hl51_2]); exact HO_51.out⟩, ⟨by repeat (first | exact HB.out | apply below_alloc | apply pw_below_drewN | apply below_drew1)⟩⟩
            case round => as_aux_lemma =>
             clear H'
             try clear c1
             try clear p1
             try clear q1
             try clear hx1
             try clear c2
             try clear p2
             try clear c3
             try clear c5
             try clear c5b0
             try clear c5b1
             try clear p6
             try clear c7
             try clear c7b0
             try clear c7b1
             try clear c10
             try clear p10
             try clear q10
             try clear hx10
             try clear c19
             try clear c19b0
             try clear c20
             try clear c20b0
             try clear c21
             try clear c21b0
             try clear c22
             try clear c32
             try clear c32b0
             try clear c33
             try clear c33b0
             try clear c34
             try clear c34b0
             try clear hcz24_0
             try clear hcz24_1
             try clear hfz24_0
             try clear hfz24_1
             try clear hx10001012_0
             try clear hx10001012_1
             try clear hx10001024_0
             try clear p1
             try clear p10
             try clear p10001012
             try clear p10001024
             try clear p2
             try clear p6
             try clear q1
             try clear q10
             try clear q10001012
             try clear q10001024
             obtain ⟨x14_3, rfl, HA, HK3, HO_0, HO_1, HO_10, HO_13, HO_51, HB⟩ := hrel
             cases gk with
             | zero => exact absurd HA.out (by simp [span_sets.l2])
             | succ k3 =>
              have H := HA.out
              clear HA
              simp only [span_sets.l2] at H
              by_cases c36 : x14_3 < (t10001003.length : Int)
              ·rw [if_pos c36] at H
               have c36b0 : decide (x14_3 < (t10001003.length : Int)) = true := decide_eq_true c36
               clear c36
               (first | rw [c36b0] | (simp only [i64_w, i32_w]; rw [c36b0]) | skip)
               by_cases c37 : 0 ≤ x14_3
               ·rw [if_pos c37] at H
                have c37b0 : decide (0 ≤ x14_3) = true := decide_eq_true c37
                clear c37
                by_cases c38 : ((rd_T55 t10001003 x14_3).f1) ≤ (rd t10001020 x53_2)
                ·rw [if_pos c38] at H
                 have c38b0 : decide (((rd_T55 t10001003 x14_3).f1) ≤ (rd t10001020 x53_2)) = true := decide_eq_true c38
                 clear c38
                 have H' := Aside0.mk H
                 clear H
                 have p10001025 : 0 ≤ (x14_3 : Int) := of_decide_eq_true (by assumption)
                 have q10001025 : x14_3 < (t10001003.length : Int) := of_decide_eq_true (by assumption)
                 obtain ⟨ad10001025, e10001025, hx10001025_0, hx10001025_1⟩ := at_T55 (Kd.R_reads' HO_0.out).2.2 x14_3 p10001025 q10001025
                 cases e10001025
                 replace p10001025 := eq_true p10001025
                 replace q10001025 := eq_true q10001025
                 go_wp2
                 repeat (go_quiet (fail); try go_wp2)
                 go_roundg k3
                 case measure => have := HK1.out; have := HK2.out; have := HK3.out; omega
                 case rel => exact ⟨(wrap64 (x14_3 + 1)), (by first | rfl | (simp; done) | (simp [*]; done)), H', ⟨by have := HK1.out; have := HK2.out; have := HK3.out; omega⟩, ⟨by (try simp only [hl10_2]); (try simp only [hl51_2]); exact HO_0.out⟩, ⟨by (try simp only [hl10_2]); (try simp only [hl51_2]); exact HO_1.out⟩, ⟨by (try simp only [hl10_2]); (try simp only [hl51_2]); exact HO_10.out⟩, ⟨by (try simp only [hl10_2]); (try simp only [hl51_2]); exact HO_13.out⟩, ⟨by (try simp only [hl10_2]); (try simp only [hl51_2]); exact HO_51.out⟩, ⟨by repeat (first | exact HB.out | apply below_alloc | apply pw_below_drewN | apply below_drew1)⟩⟩
                ·rw [if_neg c38] at H
                 have c38b0 : decide (((rd_T55 t10001003 x14_3).f1) ≤ (rd t10001020 x53_2)) = false := decide_eq_false c38
                 clear c38
                 have H' := Aside0.mk H
                 clear H
                 have p10001025 : 0 ≤ (x14_3 : Int) := of_decide_eq_true (by assumption)
                 have q10001025 : x14_3 < (t10001003.length : Int) := of_decide_eq_true (by assumption)
                 obtain ⟨ad10001025, e10001025, hx10001025_0, hx10001025_1⟩ := at_T55 (Kd.R_reads' HO_0.out).2.2 x14_3 p10001025 q10001025
                 cases e10001025
                 replace p10001025 := eq_true p10001025
                 replace q10001025 := eq_true q10001025
                 go_wp2
                 repeat (go_quiet (fail); try go_wp2)
                 go_meet
                 case rel => exact ⟨_, (x14_3), (by first | rfl | (simp; done) | (simp [*]; done)), H', ⟨by have := HK1.out; have := HK2.out; have := HK3.out; first | omega | exact Nat.le_refl _⟩, ⟨by (try simp only [hl10_2]); (try simp only [hl51_2]); exact HO_0.out⟩, ⟨by (try simp only [hl10_2]); (try simp only [hl51_2]); exact HO_1.out⟩, ⟨by (try simp only [hl10_2]); (try simp only [hl51_2]); exact HO_10.out⟩, ⟨by (try simp only [hl10_2]); (try simp only [hl51_2]); exact HO_13.out⟩, ⟨by (try simp only [hl10_2]); (try simp only [hl51_2]); exact HO_51.out⟩, ⟨by repeat (first | exact HB.out | apply below_alloc | apply pw_below_drewN | apply below_drew1)⟩⟩
               ·rw [if_neg c37] at H
                exact absurd H (by simp)
              ·rw [if_neg c36] at H
               have c36b0 : decide (x14_3 < (t10001003.length : Int)) = false := decide_eq_false c36
               clear c36
               (first | rw [c36b0] | (simp only [i64_w, i32_w]; rw [c36b0]) | skip)
               have H' := Aside0.mk H
               clear H
               go_wp2
               repeat (go_quiet (fail); try go_wp2)
               go_meet
               case rel => exact ⟨_, (x14_3), (by first | rfl | (simp; done) | (simp [*]; done)), H', ⟨by have := HK1.out; have := HK2.out; have := HK3.out; first | omega | exact Nat.le_refl _⟩, ⟨by (try simp only [hl10_2]); (try simp only [hl51_2]); exact HO_0.out⟩, ⟨by (try simp only [hl10_2]); (try simp only [hl51_2]); exact HO_1.out⟩, ⟨by (try simp only [hl10_2]); (try simp only [hl51_2]); exact HO_10.out⟩, ⟨by (try simp only [hl10_2]); (try simp only [hl51_2]); exact HO_13.out⟩, ⟨by (try simp only [hl10_2]); (try simp only [hl51_2]); exact HO_51.out⟩, ⟨by repeat (first | exact HB.out | apply below_alloc | apply pw_below_drewN | apply below_drew1)⟩⟩
           case rest => as_aux_lemma =>
            clear HC35
            try clear c1
            try clear p1
            try clear q1
            try clear hx1
            try clear c2
            try clear p2
            try clear c3
            try clear c5
            try clear c5b0
            try clear c5b1
            try clear p6
            try clear c7
            try clear c7b0
            try clear c7b1
            try clear c10
            try clear p10
            try clear q10
            try clear hx10
            try clear c19
            try clear c19b0
            try clear c20
            try clear c20b0
            try clear c21
            try clear c21b0
            try clear c22
            try clear c32
            try clear c32b0
            try clear c33
            try clear c33b0
            try clear c34
            try clear c34b0
            try clear c36
            try clear c36b0
            try clear c37
            try clear c37b0
            try clear c38
            try clear c38b0
            try clear hcz24_0
            try clear hcz24_1
            try clear hfz24_0
            try clear hfz24_1
            try clear hx10001012_0
            try clear hx10001012_1
            try clear hx10001024_0
            try clear hx10001025_0
            try clear hx10001025_1
            try clear p1
            try clear p10
            try clear p10001012
            try clear p10001024
            try clear p10001025
            try clear p2
            try clear p6
            try clear q1
            try clear q10
            try clear q10001012
            try clear q10001024
            try clear q10001025
            obtain ⟨kq, x14_34, rfl, HA, HJ34, HO_0, HO_1, HO_10, HO_13, HO_51, HB⟩ := hcut
            cases kq with
            | zero => exact absurd HA.out (by simp [span_sets.j3])
            | succ kj34 =>
             have H := HA.out
             clear HA
             simp only [span_sets.j3] at H
             have HC39 := Aside0.mk H
             clear H
             go_upto_block 6 with (fail)
             repeat (go_quiet (fail); go_upto_block 6 with (fail))
             go_cut [15] (fun v15 wc => ∃ (kq : Nat) (x15_38 : Int), v15 = .int .i64 x15_38 ∧ Aside0 (span_sets.j5 kf kq t10001003 t10001006 t10001020 x13_2 x14_34 x15_38 x53_2 (rd t10001020 x53_2) t10001020 (t10001020.length : Int) x53_2 = some (r1, r2)) ∧ Aside0 (kq ≤ kj34) ∧ Aside0 (Kd.R k55 55 wc w.heap.size (fun k_ => some k_ ≠ ((.slice Ao16 t10001006.length co16) : Value).ownBlock ∧ some k_ ≠ (u13 : Value).ownBlock) (.slice Ao15 t10001003.length co15) t10001003) ∧ Aside0 (Kd.R k55 55 wc w.heap.size (fun k_ => some k_ ≠ ((.slice Ao15 t10001003.length co15) : Value).ownBlock ∧ some k_ ≠ (u13 : Value).ownBlock) (.slice Ao16 t10001006.length co16) t10001006) ∧ Aside0 (Kd.R (Kd.int .i64) 3 wc w.heap.size (fun _ => True) (.slice (some ad10001024) t10001020.length co30) t10001020) ∧ Aside0 (Kd.R k55 55 wc w.heap.size (fun k_ => some k_ ≠ ((.slice Ao15 t10001003.length co15) : Value).ownBlock ∧ some k_ ≠ ((.slice Ao16 t10001006.length co16) : Value).ownBlock) u13 x13_2) ∧ Aside0 (Kd.R (Kd.int .i64) 3 wc w.heap.size (fun _ => True) (.slice (some ad10001024) t10001020.length co30) t10001020) ∧ Aside0 (Below w.heap.size w wc))
             case first => as_aux_lemma =>
              have H := HC39.out
              clear HC39
              have H' := Aside0.mk H
              clear H
              go_wp2
              repeat (go_quiet (fail); try go_wp2)
              go_loopg [15] kj34 (fun kq v15 w' => ∃ (x15_4 : Int), v15 = .int .i64 x15_4 ∧ Aside0 (span_sets.l3 kf kq t10001003 t10001006 t10001020 x13_2 x14_34 x15_4 x53_2 (rd t10001020 x53_2) t10001020 (t10001020.length : Int) x53_2 = some (r1, r2)) ∧ Aside0 (kq ≤ kj34) ∧ Aside0 (Kd.R k55 55 w' w.heap.size (fun k_ => some k_ ≠ ((.slice Ao16 t10001006.length co16) : Value).ownBlock ∧ some k_ ≠ (u13 : Value).ownBlock) (.slice Ao15 t10001003.length co15) t10001003) ∧ Aside0 (Kd.R k55 55 w' w.heap.size (fun k_ => some k_ ≠ ((.slice Ao15 t10001003.length co15) : Value).ownBlock ∧ some k_ ≠ (u13 : Value).ownBlock) (.slice Ao16 t10001006.length co16) t10001006) ∧ Aside0 (Kd.R (Kd.int .i64) 3 w' w.heap.size (fun _ => True) (.slice (some ad10001024) t10001020.length co30) t10001020) ∧ Aside0 (Kd.R k55 55 w' w.heap.size (fun k_ => some k_ ≠ ((.slice Ao15 t10001003.length co15) : Value).ownBlock ∧ some k_ ≠ ((.slice Ao16 t10001006.length co16) : Value).ownBlock) u13 x13_2) ∧ Aside0 (Kd.R (Kd.int .i64) 3 w' w.heap.size (fun _ => True) (.slice (some ad10001024) t10001020.length co30) t10001020) ∧ Aside0 (Below w.heap.size w w'))
              case atStart => exact ⟨(x15_2), (by first | rfl | (simp; done) | (simp [*]; done)), H', ⟨Nat.le_refl _⟩, ⟨by (try simp only [hl10_2]); (try simp only [hl51_2]); exact HO_0.out⟩, ⟨by (try simp only [hl10_2]); (try simp only [hl51_2]); exact HO_1.out⟩, ⟨by (try simp only [hl10_2]); (try simp only [hl51_2]); exact HO_10.out⟩, ⟨by (try simp only [hl10_2]); (try simp only [hl51_2]); exact HO_13.out⟩, ⟨by (try simp only [hl10_2]); (try simp only [hl51_2]); exact HO_51.out⟩, ⟨by repeat (first | exact HB.out | apply below_alloc | apply pw_below_drewN | apply below_drew1)⟩⟩
              case round => as_aux_lemma =>
               clear H'
               try clear c1
               try clear p1
               try clear q1
               try clear hx1
               try clear c2
               try clear p2
               try clear c3
               try clear c5
               try clear c5b0
               try clear c5b1
               try clear p6
               try clear c7
               try clear c7b0
               try clear c7b1
               try clear c10
               try clear p10
               try clear q10
               try clear hx10
               try clear c19
               try clear c19b0
               try clear c20
               try clear c20b0
               try clear c21
               try clear c21b0
               try clear c22
               try clear c32
               try clear c32b0
               try clear c33
               try clear c33b0
               try clear c34
               try clear c34b0
               try clear c36
               try clear c36b0
               try clear c37
               try clear c37b0
               try clear c38
               try clear c38b0
               try clear hcz24_0
               try clear hcz24_1
               try clear hfz24_0
               try clear hfz24_1
               try clear hx10001012_0
               try clear hx10001012_1
               try clear hx10001024_0
               try clear hx10001025_0
               try clear hx10001025_1
               try clear p1
               try clear p10
               try clear p10001012
               try clear p10001024
               try clear p10001025
               try clear p2
               try clear p6
               try clear q1
               try clear q10
               try clear q10001012
               try clear q10001024
               try clear q10001025
               obtain ⟨x15_4, rfl, HA, HK4, HO_0, HO_1, HO_10, HO_13, HO_51, HB⟩ := hrel
               cases gk with
               | zero => exact absurd HA.out (by simp [span_sets.l3])
               | succ k4 =>
                have H := HA.out
                clear HA
                simp only [span_sets.l3] at H
                by_cases c40 : x15_4 < (t10001006.length : Int)
                ·rw [if_pos c40] at H
                 have c40b0 : decide (x15_4 < (t10001006.length : Int)) = true := decide_eq_true c40
                 clear c40
                 (first | rw [c40b0] | (simp only [i64_w, i32_w]; rw [c40b0]) | skip)
                 by_cases c41 : 0 ≤ x15_4
                 ·rw [if_pos c41] at H
                  have c41b0 : decide (0 ≤ x15_4) = true := decide_eq_true c41
                  clear c41
                  by_cases c42 : ((rd_T55 t10001006 x15_4).f1) ≤ (rd t10001020 x53_2)
                  ·rw [if_pos c42] at H
                   have c42b0 : decide (((rd_T55 t10001006 x15_4).f1) ≤ (rd t10001020 x53_2)) = true := decide_eq_true c42
                   clear c42
                   have H' := Aside0.mk H
                   clear H
                   have p10001026 : 0 ≤ (x15_4 : Int) := of_decide_eq_true (by assumption)
                   have q10001026 : x15_4 < (t10001006.length : Int) := of_decide_eq_true (by assumption)
                   obtain ⟨ad10001026, e10001026, hx10001026_0, hx10001026_1⟩ := at_T55 (Kd.R_reads' HO_1.out).2.2 x15_4 p10001026 q10001026
                   cases e10001026
                   replace p10001026 := eq_true p10001026
                   replace q10001026 := eq_true q10001026
                   go_wp2
                   repeat (go_quiet (fail); try go_wp2)
                   go_roundg k4
                   case measure => have := HK1.out; have := HK2.out; have := HJ34.out; have := HK4.out; omega
                   case rel => exact ⟨(wrap64 (x15_4 + 1)), (by first | rfl | (simp; done) | (simp [*]; done)), H', ⟨by have := HK1.out; have := HK2.out; have := HJ34.out; have := HK4.out; omega⟩, ⟨by (try simp only [hl10_2]); (try simp only [hl51_2]); exact HO_0.out⟩, ⟨by (try simp only [hl10_2]); (try simp only [hl51_2]); exact HO_1.out⟩, ⟨by (try simp only [hl10_2]); (try simp only [hl51_2]); exact HO_10.out⟩, ⟨by (try simp only [hl10_2]); (try simp only [hl51_2]); exact HO_13.out⟩, ⟨by (try simp only [hl10_2]); (try simp only [hl51_2]); exact HO_51.out⟩, ⟨by repeat (first | exact HB.out | apply below_alloc | apply pw_below_drewN | apply below_drew1)⟩⟩
                  ·rw [if_neg c42] at H
                   have c42b0 : decide (((rd_T55 t10001006 x15_4).f1) ≤ (rd t10001020 x53_2)) = false := decide_eq_false c42
                   clear c42
                   have H' := Aside0.mk H
                   clear H
                   have p10001026 : 0 ≤ (x15_4 : Int) := of_decide_eq_true (by assumption)
                   have q10001026 : x15_4 < (t10001006.length : Int) := of_decide_eq_true (by assumption)
                   obtain ⟨ad10001026, e10001026, hx10001026_0, hx10001026_1⟩ := at_T55 (Kd.R_reads' HO_1.out).2.2 x15_4 p10001026 q10001026
                   cases e10001026
                   replace p10001026 := eq_true p10001026
                   replace q10001026 := eq_true q10001026
                   go_wp2
                   repeat (go_quiet (fail); try go_wp2)
                   go_meet
                   case rel => exact ⟨_, (x15_4), (by first | rfl | (simp; done) | (simp [*]; done)), H', ⟨by have := HK1.out; have := HK2.out; have := HJ34.out; have := HK4.out; first | omega | exact Nat.le_refl _⟩, ⟨by (try simp only [hl10_2]); (try simp only [hl51_2]); exact HO_0.out⟩, ⟨by (try simp only [hl10_2]); (try simp only [hl51_2]); exact HO_1.out⟩, ⟨by (try simp only [hl10_2]); (try simp only [hl51_2]); exact HO_10.out⟩, ⟨by (try simp only [hl10_2]); (try simp only [hl51_2]); exact HO_13.out⟩, ⟨by (try simp only [hl10_2]); (try simp only [hl51_2]); exact HO_51.out⟩, ⟨by repeat (first | exact HB.out | apply below_alloc | apply pw_below_drewN | apply below_drew1)⟩⟩
                 ·rw [if_neg c41] at H
                  exact absurd H (by simp)
                ·rw [if_neg c40] at H
                 have c40b0 : decide (x15_4 < (t10001006.length : Int)) = false := decide_eq_false c40
                 clear c40
                 (first | rw [c40b0] | (simp only [i64_w, i32_w]; rw [c40b0]) | skip)
                 have H' := Aside0.mk H
                 clear H
                 go_wp2
                 repeat (go_quiet (fail); try go_wp2)
                 go_meet
                 case rel => exact ⟨_, (x15_4), (by first | rfl | (simp; done) | (simp [*]; done)), H', ⟨by have := HK1.out; have := HK2.out; have := HJ34.out; have := HK4.out; first | omega | exact Nat.le_refl _⟩, ⟨by (try simp only [hl10_2]); (try simp only [hl51_2]); exact HO_0.out⟩, ⟨by (try simp only [hl10_2]); (try simp only [hl51_2]); exact HO_1.out⟩, ⟨by (try simp only [hl10_2]); (try simp only [hl51_2]); exact HO_10.out⟩, ⟨by (try simp only [hl10_2]); (try simp only [hl51_2]); exact HO_13.out⟩, ⟨by (try simp only [hl10_2]); (try simp only [hl51_2]); exact HO_51.out⟩, ⟨by repeat (first | exact HB.out | apply below_alloc | apply pw_below_drewN | apply below_drew1)⟩⟩
             case rest => as_aux_lemma =>
              clear HC39
              try clear c1
              try clear p1
              try clear q1
              try clear hx1
              try clear c2
              try clear p2
              try clear c3
              try clear c4
              try clear c5
              try clear c5b0
              try clear c5b1
              try clear p6
              try clear c7
              try clear c7b0
              try clear c7b1
              try clear c10
              try clear p10
              try clear q10
              try clear hx10
              try clear c19
              try clear c19b0
              try clear c20
              try clear c20b0
              try clear c21
              try clear c21b0
              try clear c22
              try clear c32
              try clear c32b0
              try clear c33
              try clear c33b0
              try clear c34
              try clear c34b0
              try clear c36
              try clear c36b0
              try clear c37
              try clear c37b0
              try clear c38
              try clear c38b0
              try clear c40
              try clear c40b0
              try clear c41
              try clear c41b0
              try clear c42
              try clear c42b0
              try clear hcz24_0
              try clear hcz24_1
              try clear hfz24_0
              try clear hfz24_1
              try clear hx10001012_0
              try clear hx10001012_1
              try clear hx10001024_0
              try clear hx10001025_0
              try clear hx10001025_1
              try clear hx10001026_0
              try clear hx10001026_1
              try clear p1
              try clear p10
              try clear p10001012
              try clear p10001024
              try clear p10001025
              try clear p10001026
              try clear p2
              try clear p6
              try clear q1
              try clear q10
              try clear q10001012
              try clear q10001024
              try clear q10001025
              try clear q10001026
              obtain ⟨kq, x15_38, rfl, HA, HJ38, HO_0, HO_1, HO_10, HO_13, HO_51, HB⟩ := hcut
              cases kq with
              | zero => exact absurd HA.out (by simp [span_sets.j5])
              | succ kj38 =>
               have H := HA.out
               clear HA
               simp only [span_sets.j5] at H
               have HC43 := Aside0.mk H
               clear H
               go_upto_region 24 with (fail)
               repeat (go_quiet (fail); go_upto_region 24 with (fail))
               go_cut [101] (fun v101 wc => ∃ (kq : Nat) (x101_42 : Bool), v101 = .bool x101_42 ∧ Aside0 (span_sets.j6 kf kq t10001003 t10001006 t10001020 x13_2 x14_34 x15_38 x53_2 (rd t10001020 x53_2) t10001020 (t10001020.length : Int) x53_2 x101_42 = some (r1, r2)) ∧ Aside0 (kq ≤ kj38) ∧ Aside0 (Kd.R k55 55 wc w.heap.size (fun k_ => some k_ ≠ ((.slice Ao16 t10001006.length co16) : Value).ownBlock ∧ some k_ ≠ (u13 : Value).ownBlock) (.slice Ao15 t10001003.length co15) t10001003) ∧ Aside0 (Kd.R k55 55 wc w.heap.size (fun k_ => some k_ ≠ ((.slice Ao15 t10001003.length co15) : Value).ownBlock ∧ some k_ ≠ (u13 : Value).ownBlock) (.slice Ao16 t10001006.length co16) t10001006) ∧ Aside0 (Kd.R (Kd.int .i64) 3 wc w.heap.size (fun _ => True) (.slice (some ad10001024) t10001020.length co30) t10001020) ∧ Aside0 (Kd.R k55 55 wc w.heap.size (fun k_ => some k_ ≠ ((.slice Ao15 t10001003.length co15) : Value).ownBlock ∧ some k_ ≠ ((.slice Ao16 t10001006.length co16) : Value).ownBlock) u13 x13_2) ∧ Aside0 (Kd.R (Kd.int .i64) 3 wc w.heap.size (fun _ => True) (.slice (some ad10001024) t10001020.length co30) t10001020) ∧ Aside0 (Below w.heap.size w wc))
               case first => as_aux_lemma =>
                have H := HC43.out
                clear HC43
                by_cases c44 : (wrap64 (x53_2 + 1)) = (t10001020.length : Int)
                ·rw [if_pos c44] at H
                 have c44b0 : ((wrap64 (x53_2 + 1)) == (t10001020.length : Int)) = true := beq_iff_eq.mpr c44
                 have c44b1 : ((wrap64 (x53_2 + 1)) != (t10001020.length : Int)) = false := bne_eq_false_iff_eq.mpr c44
                 clear c44
                 (first | rw [c44b0] | (simp only [i64_w, i32_w]; rw [c44b0]) | skip)
                 have H' := Aside0.mk H
                 clear H
                 go_wp2
                 repeat (go_quiet (fail); try go_wp2)
                 go_meet
                 case rel => exact ⟨_, (true), (by first | rfl | (simp; done) | (simp [*]; done)), H', ⟨by have := HK1.out; have := HK2.out; have := HJ34.out; have := HJ38.out; first | omega | exact Nat.le_refl _⟩, ⟨by (try simp only [hl10_2]); (try simp only [hl51_2]); exact HO_0.out⟩, ⟨by (try simp only [hl10_2]); (try simp only [hl51_2]); exact HO_1.out⟩, ⟨by (try simp only [hl10_2]); (try simp only [hl51_2]); exact HO_10.out⟩, ⟨by (try simp only [hl10_2]); (try simp only [hl51_2]); exact HO_13.out⟩, ⟨by (try simp only [hl10_2]); (try simp only [hl51_2]); exact HO_51.out⟩, ⟨by repeat (first | exact HB.out | apply below_alloc | apply pw_below_drewN | apply below_drew1)⟩⟩
                ·rw [if_neg c44] at H
                 have c44b0 : ((wrap64 (x53_2 + 1)) == (t10001020.length : Int)) = false := beq_eq_false_iff_ne.mpr c44
                 have c44b1 : ((wrap64 (x53_2 + 1)) != (t10001020.length : Int)) = true := bne_iff_ne.mpr c44
                 (first | rw [c44b0] | (simp only [i64_w, i32_w]; rw [c44b0]) | skip)
                 obtain ⟨ji45, hji45⟩ : ∃ j_ : Int, (wrap64 (x53_2 + 1)) = j_ := ⟨_, rfl⟩
                 replace H : (if 0 ≤ (ji45) then (if (ji45) < (t10001020.length : Int) then (span_sets.j6 kf kj38 t10001003 t10001006 t10001020 x13_2 x14_34 x15_38 x53_2 (rd t10001020 x53_2) t10001020 (t10001020.length : Int) x53_2 ((rd t10001020 (ji45)) == (rd t10001020 x53_2))) else (none)) else (none)) = some (r1, r2) := by first | (rw [hji45] at H; exact H) | (simp only [hji45] at H ⊢; exact H)
                 (try rw [hji45] at c44b0)
                 (try rw [hji45] at c44b1)
                 have hji45w : (IntKind.i64.wrap (x53_2 + 1)) = ji45 := (i64_w _).trans hji45
                 by_cases c46 : 0 ≤ (ji45)
                 ·rw [if_pos c46] at H
                  have c46b0 : decide (0 ≤ (ji45)) = true := decide_eq_true c46
                  clear c46
                  by_cases c47 : (ji45) < (t10001020.length : Int)
                  ·rw [if_pos c47] at H
                   have c47b0 : decide ((ji45) < (t10001020.length : Int)) = true := decide_eq_true c47
                   clear c47
                   have H' := Aside0.mk H
                   clear H
                   have p10001027 : 0 ≤ ((ji45) : Int) := of_decide_eq_true (by assumption)
                   have q10001027 : (ji45) < (t10001020.length : Int) := of_decide_eq_true (by assumption)
                   obtain ⟨ad10001027, e10001027, hx10001027_0⟩ := Kd.at_int (Kd.R_reads' HO_10.out).2.2 (ji45) p10001027 q10001027
                   obtain rfl : ad10001024 = ad10001027 := (by injection e10001027)
                   replace p10001027 := eq_true p10001027
                   replace q10001027 := eq_true q10001027
                   go_wp2
                   repeat (go_quiet (fail); try go_wp2)
                   go_meet
                   case rel => exact ⟨_, (((rd t10001020 (ji45)) == (rd t10001020 x53_2))), (by first | rfl | (simp; done) | (simp only [← hji45] <;> (first | rfl | (simp; done))) | (simp [*]; done)), H', ⟨by have := HK1.out; have := HK2.out; have := HJ34.out; have := HJ38.out; first | omega | exact Nat.le_refl _⟩, ⟨by (try simp only [hl10_2]); (try simp only [hl51_2]); exact HO_0.out⟩, ⟨by (try simp only [hl10_2]); (try simp only [hl51_2]); exact HO_1.out⟩, ⟨by (try simp only [hl10_2]); (try simp only [hl51_2]); exact HO_10.out⟩, ⟨by (try simp only [hl10_2]); (try simp only [hl51_2]); exact HO_13.out⟩, ⟨by (try simp only [hl10_2]); (try simp only [hl51_2]); exact HO_51.out⟩, ⟨by repeat (first | exact HB.out | apply below_alloc | apply pw_below_drewN | apply below_drew1)⟩⟩
                  ·rw [if_neg c47] at H
                   exact absurd H (by simp)
                 ·rw [if_neg c46] at H
                  exact absurd H (by simp)
               case rest => as_aux_lemma =>
                clear HC43
                try clear c1
                try clear p1
                try clear q1
                try clear hx1
                try clear c2
                try clear p2
                try clear c3
                try clear c4
                try clear c5
                try clear c5b0
                try clear c5b1
                try clear p6
                try clear c7
                try clear c7b0
                try clear c7b1
                try clear c10
                try clear p10
                try clear q10
                try clear hx10
                try clear c19
                try clear c19b0
                try clear c20
                try clear c20b0
                try clear c21
                try clear c21b0
                try clear c22
                try clear c32
                try clear c32b0
                try clear c33
                try clear c33b0
                try clear c34
                try clear c34b0
                try clear c36
                try clear c36b0
                try clear c37
                try clear c37b0
                try clear c38
                try clear c38b0
                try clear c40
                try clear c40b0
                try clear c41
                try clear c41b0
                try clear c42
                try clear c42b0
                try clear c44
                try clear c44b0
                try clear c44b1
                try clear c46
                try clear c46b0
                try clear c47
                try clear c47b0
                try clear hcz24_0
                try clear hcz24_1
                try clear hfz24_0
                try clear hfz24_1
                try clear hx10001012_0
                try clear hx10001012_1
                try clear hx10001024_0
                try clear hx10001025_0
                try clear hx10001025_1
                try clear hx10001026_0
                try clear hx10001026_1
                try clear hx10001027_0
                try clear p1
                try clear p10
                try clear p10001012
                try clear p10001024
                try clear p10001025
                try clear p10001026
                try clear p10001027
                try clear p2
                try clear p6
                try clear q1
                try clear q10
                try clear q10001012
                try clear q10001024
                try clear q10001025
                try clear q10001026
                try clear q10001027
                obtain ⟨kq, x101_42, rfl, HA, HJ42, HO_0, HO_1, HO_10, HO_13, HO_51, HB⟩ := hcut
                cases kq with
                | zero => exact absurd HA.out (by simp [span_sets.j6])
                | succ kj42 =>
                 have H := HA.out
                 clear HA
                 simp only [span_sets.j6] at H
                 by_cases c48 : x101_42 = true
                 ·subst c48
                  have H1 : (span_sets.l1 kf kj42 t10001003 t10001006 t10001020 x13_2 x14_34 x15_38 t10001020 (t10001020.length : Int) (wrap64 (x53_2 + 1))) = some (r1, r2) := by rw [if_pos rfl] at H; exact H
                  clear H
                  have H := H1
                  clear H1
                  have H' := Aside0.mk H
                  clear H
                  go_wp2
                  repeat (go_quiet (fail); try go_wp2)
                  (try simp only [← hl10_2, ← hl51_2])
                  go_roundg kj42
                  case measure => have := HK1.out; have := HK2.out; have := HJ34.out; have := HJ38.out; have := HJ42.out; omega
                  case rel => exact ⟨(x13_2), (x14_34), (x15_38), (wrap64 (x53_2 + 1)), (by first | rfl | (simp; done) | (simp [*]; done)), (by first | rfl | (simp; done) | (simp [*]; done)), (by first | rfl | (simp; done) | (simp [*]; done)), H', ⟨by have := HK1.out; have := HK2.out; have := HJ34.out; have := HJ38.out; have := HJ42.out; omega⟩, ⟨by (try simp only [hl10_2]); (try simp only [hl51_2]); exact HO_0.out⟩, ⟨by (try simp only [hl10_2]); (try simp only [hl51_2]); exact HO_1.out⟩, ⟨by (try simp only [hl10_2]); (try simp only [hl51_2]); exact HO_10.out⟩, ⟨by (try simp only [hl10_2]); (try simp only [hl51_2]); exact HO_13.out⟩, ⟨by (try simp only [hl10_2]); (try simp only [hl51_2]); exact HO_51.out⟩, ⟨by repeat (first | exact HB.out | apply below_alloc | apply pw_below_drewN | apply below_drew1)⟩⟩
                 ·replace c48 := Bool.eq_false_iff.mpr c48
                  subst c48
                  have H1 : (if x14_34 < (t10001003.length : Int) then (if 0 ≤ x14_34 then (if x15_38 < (t10001006.length : Int) then (if 0 ≤ x15_38 then ((kf (decide (((rd_T55 t10001003 x14_34).f0) ≤ (rd t10001020 x53_2))) (decide (((rd_T55 t10001006 x15_38).f0) ≤ (rd t10001020 x53_2)))).bind fun t10001030 => (if t10001030 = true then (if 0 ≤ (wrap64 (x53_2 + 1)) then (if (wrap64 (x53_2 + 1)) < (t10001020.length : Int) then (if x13_2.length < 8796093022208 then (span_sets.l1 kf kj42 t10001003 t10001006 t10001020 (x13_2 ++ [(⟨(rd t10001020 x53_2), rd t10001020 (wrap64 (x53_2 + 1))⟩ : S55)]) x14_34 x15_38 t10001020 (t10001020.length : Int) (wrap64 (x53_2 + 1))) else (none)) else (none)) else (none)) else (span_sets.l1 kf kj42 t10001003 t10001006 t10001020 x13_2 x14_34 x15_38 t10001020 (t10001020.length : Int) (wrap64 (x53_2 + 1))))) else (none)) else ((kf (decide (((rd_T55 t10001003 x14_34).f0) ≤ (rd t10001020 x53_2))) false).bind fun t10001035 => (if t10001035 = true then (if 0 ≤ (wrap64 (x53_2 + 1)) then (if (wrap64 (x53_2 + 1)) < (t10001020.length : Int) then (if x13_2.length < 8796093022208 then (span_sets.l1 kf kj42 t10001003 t10001006 t10001020 (x13_2 ++ [(⟨(rd t10001020 x53_2), rd t10001020 (wrap64 (x53_2 + 1))⟩ : S55)]) x14_34 x15_38 t10001020 (t10001020.length : Int) (wrap64 (x53_2 + 1))) else (none)) else (none)) else (none)) else (span_sets.l1 kf kj42 t10001003 t10001006 t10001020 x13_2 x14_34 x15_38 t10001020 (t10001020.length : Int) (wrap64 (x53_2 + 1)))))) else (none)) else (if x15_38 < (t10001006.length : Int) then (if 0 ≤ x15_38 then ((kf false (decide (((rd_T55 t10001006 x15_38).f0) ≤ (rd t10001020 x53_2)))).bind fun t10001041 => (if t10001041 = true then (if 0 ≤ (wrap64 (x53_2 + 1)) then (if (wrap64 (x53_2 + 1)) < (t10001020.length : Int) then (if x13_2.length < 8796093022208 then (span_sets.l1 kf kj42 t10001003 t10001006 t10001020 (x13_2 ++ [(⟨(rd t10001020 x53_2), rd t10001020 (wrap64 (x53_2 + 1))⟩ : S55)]) x14_34 x15_38 t10001020 (t10001020.length : Int) (wrap64 (x53_2 + 1))) else (none)) else (none)) else (none)) else (span_sets.l1 kf kj42 t10001003 t10001006 t10001020 x13_2 x14_34 x15_38 t10001020 (t10001020.length : Int) (wrap64 (x53_2 + 1))))) else (none)) else ((kf false false).bind fun t10001046 => (if t10001046 = true then (if 0 ≤ (wrap64 (x53_2 + 1)) then (if (wrap64 (x53_2 + 1)) < (t10001020.length : Int) then (if x13_2.length < 8796093022208 then (span_sets.l1 kf kj42 t10001003 t10001006 t10001020 (x13_2 ++ [(⟨(rd t10001020 x53_2), rd t10001020 (wrap64 (x53_2 + 1))⟩ : S55)]) x14_34 x15_38 t10001020 (t10001020.length : Int) (wrap64 (x53_2 + 1))) else (none)) else (none)) else (none)) else (span_sets.l1 kf kj42 t10001003 t10001006 t10001020 x13_2 x14_34 x15_38 t10001020 (t10001020.length : Int) (wrap64 (x53_2 + 1))))))) = some (r1, r2) := by rw [if_neg (show ¬ (false = true) by decide)] at H; first | exact H | simpa using H
                  clear H
                  have H := H1
                  clear H1
                  by_cases c49 : x14_34 < (t10001003.length : Int)
                  ·rw [if_pos c49] at H
                   have c49b0 : decide (x14_34 < (t10001003.length : Int)) = true := decide_eq_true c49
                   clear c49
                   by_cases c50 : 0 ≤ x14_34
                   ·rw [if_pos c50] at H
                    have c50b0 : decide (0 ≤ x14_34) = true := decide_eq_true c50
                    clear c50
                    by_cases c51 : x15_38 < (t10001006.length : Int)
                    ·rw [if_pos c51] at H
                     have c51b0 : decide (x15_38 < (t10001006.length : Int)) = true := decide_eq_true c51
                     clear c51
                     by_cases c52 : 0 ≤ x15_38
                     ·rw [if_pos c52] at H
                      have c52b0 : decide (0 ≤ x15_38) = true := decide_eq_true c52
                      clear c52
                      replace H := Option.bind_eq_some_iff.mp H
                      obtain ⟨t10001030, A530, H⟩ := H
                      replace H : (if t10001030 = true then (if 0 ≤ (wrap64 (x53_2 + 1)) then (if (wrap64 (x53_2 + 1)) < (t10001020.length : Int) then (if x13_2.length < 8796093022208 then (span_sets.l1 kf kj42 t10001003 t10001006 t10001020 (x13_2 ++ [(⟨(rd t10001020 x53_2), rd t10001020 (wrap64 (x53_2 + 1))⟩ : S55)]) x14_34 x15_38 t10001020 (t10001020.length : Int) (wrap64 (x53_2 + 1))) else (none)) else (none)) else (none)) else (span_sets.l1 kf kj42 t10001003 t10001006 t10001020 x13_2 x14_34 x15_38 t10001020 (t10001020.length : Int) (wrap64 (x53_2 + 1)))) = some (r1, r2) := H
                      have A53 := Aside0.mk A530
                      clear A530
                      by_cases c54 : t10001030 = true
                      ·subst c54
                       have H1 : (if 0 ≤ (wrap64 (x53_2 + 1)) then (if (wrap64 (x53_2 + 1)) < (t10001020.length : Int) then (if x13_2.length < 8796093022208 then (span_sets.l1 kf kj42 t10001003 t10001006 t10001020 (x13_2 ++ [(⟨(rd t10001020 x53_2), rd t10001020 (wrap64 (x53_2 + 1))⟩ : S55)]) x14_34 x15_38 t10001020 (t10001020.length : Int) (wrap64 (x53_2 + 1))) else (none)) else (none)) else (none)) = some (r1, r2) := by rw [if_pos rfl] at H; exact H
                       clear H
                       have H := H1
                       clear H1
                       obtain ⟨ji55, hji55⟩ : ∃ j_ : Int, (wrap64 (x53_2 + 1)) = j_ := ⟨_, rfl⟩
                       replace H : (if 0 ≤ (ji55) then (if (ji55) < (t10001020.length : Int) then (if x13_2.length < 8796093022208 then (span_sets.l1 kf kj42 t10001003 t10001006 t10001020 (x13_2 ++ [(⟨(rd t10001020 x53_2), rd t10001020 (ji55)⟩ : S55)]) x14_34 x15_38 t10001020 (t10001020.length : Int) ji55) else (none)) else (none)) else (none)) = some (r1, r2) := by first | (rw [hji55] at H; exact H) | (simp only [hji55] at H ⊢; exact H)
                       (try rw [hji55] at A53)
                       have hji55w : (IntKind.i64.wrap (x53_2 + 1)) = ji55 := (i64_w _).trans hji55
                       by_cases c56 : 0 ≤ (ji55)
                       ·rw [if_pos c56] at H
                        have c56b0 : decide (0 ≤ (ji55)) = true := decide_eq_true c56
                        clear c56
                        by_cases c57 : (ji55) < (t10001020.length : Int)
                        ·rw [if_pos c57] at H
                         have c57b0 : decide ((ji55) < (t10001020.length : Int)) = true := decide_eq_true c57
                         clear c57
                         by_cases c58 : x13_2.length < 8796093022208
                         ·rw [if_pos c58] at H
                          have LMc58 := Aside0.mk c58
                          clear c58
                          obtain ⟨y10001032, hy10001032⟩ : ∃ y_ : List (S55), y_ = (x13_2 ++ [(⟨(rd t10001020 x53_2), rd t10001020 (ji55)⟩ : S55)]) := ⟨_, rfl⟩
                          replace H : (span_sets.l1 kf kj42 t10001003 t10001006 t10001020 y10001032 x14_34 x15_38 t10001020 (t10001020.length : Int) ji55) = some (r1, r2) := by first | (rw [hy10001032]; with_reducible exact H) | (have H2_ := (Option.bind_some _ _).symm.trans H; rw [hy10001032]; with_reducible exact H2_) | (have H2_ := (Option.bind_some _ _).symm.trans H; with_reducible exact H2_) | with_reducible exact H | (rw [hy10001032]; exact H) | exact H
                          have Ny10001032 := Aside0.mk hy10001032
                          clear hy10001032
                          have H' := Aside0.mk H
                          clear H
                          have p10001028 : 0 ≤ (x14_34 : Int) := of_decide_eq_true (by assumption)
                          have q10001028 : x14_34 < (t10001003.length : Int) := of_decide_eq_true (by assumption)
                          obtain ⟨ad10001028, e10001028, hx10001028_0, hx10001028_1⟩ := at_T55 (Kd.R_reads' HO_0.out).2.2 x14_34 p10001028 q10001028
                          cases e10001028
                          replace p10001028 := eq_true p10001028
                          replace q10001028 := eq_true q10001028
                          have p10001029 : 0 ≤ (x15_38 : Int) := of_decide_eq_true (by assumption)
                          have q10001029 : x15_38 < (t10001006.length : Int) := of_decide_eq_true (by assumption)
                          obtain ⟨ad10001029, e10001029, hx10001029_0, hx10001029_1⟩ := at_T55 (Kd.R_reads' HO_1.out).2.2 x15_38 p10001029 q10001029
                          cases e10001029
                          replace p10001029 := eq_true p10001029
                          replace q10001029 := eq_true q10001029
                          go_wp2_with (first | ((with_reducible refine (HG.out (decide (((rd_T55 t10001003 x14_34).f0) ≤ (rd t10001020 x53_2))) (decide (((rd_T55 t10001006 x15_38).f0) ≤ (rd t10001020 x53_2))) true _ A53.out).mono ?_); rintro e w' ⟨rfl, ⟨nd, rfl⟩⟩; (try first | exact ⟨rfl, _, World.drewN_drewN _ _ _⟩ | exact ⟨rfl, _, Eq.trans (World.drewN_drewN _ _ _) (congrArg (World.drewN _) (Nat.add_assoc _ _ _))⟩); have p10001031 : 0 ≤ ((ji55) : Int) := of_decide_eq_true (by assumption); have q10001031 : (ji55) < (t10001020.length : Int) := of_decide_eq_true (by assumption); obtain ⟨ad10001031, e10001031, hx10001031_0⟩ := Kd.at_int (Kd.R_reads' HO_10.out).2.2 (ji55) p10001031 q10001031; obtain rfl : ad10001024 = ad10001031 := (by injection e10001031); replace p10001031 := eq_true p10001031; replace q10001031 := eq_true q10001031) | ((with_reducible refine gate_builtin (b := .append) (xs := #[.tmp 130, .tmp 138]) rfl ?_); at_builtin; refine Kd.R_append k55 (w0 := w) w.heap.size rfl (.tmp 130) (.tmp 138) 29 55 (.agg #[(.int .i64 0), (.int .i64 0)]) 16 rfl Try.underlying29 info55 rfl (by decide) (by omega) u13 x13_2 (⟨(rd t10001020 x53_2), rd t10001020 (ji55)⟩ : S55) [.int .i64 (rd t10001020 x53_2), .int .i64 (rd t10001020 (ji55))] (fun k_ => some k_ ≠ (.slice (some ad10001028) t10001003.length co15 : Value).ownBlock ∧ some k_ ≠ (.slice (some ad10001029) t10001006.length co16 : Value).ownBlock) (fun _ => False) rfl rfl ?aP (fun _ hk => hk.elim) ?aF ?aO ?aB ?aS ?aL ?_; (case aP => exact k55_mkM _ _ _ (⟨(rd t10001020 x53_2), rd t10001020 (ji55)⟩ : S55)); (case aB => exact (by repeat (first | exact HB.out | apply below_alloc | apply pw_below_drewN | apply below_drew1))); (case aF => exact (fun k_ hk => ⟨Kd.fresh' (Kd.R_lt (by (with_reducible repeat (first | apply Kd.R_alloc | apply Kd.R_drewN | apply Kd.R_drew)); exact HO_0.out)) k_ hk, Kd.fresh' (Kd.R_lt (by (with_reducible repeat (first | apply Kd.R_alloc | apply Kd.R_drewN | apply Kd.R_drew)); exact HO_1.out)) k_ hk⟩)); (case aO => exact (by (with_reducible repeat (first | apply Kd.R_alloc | apply Kd.R_drewN | apply Kd.R_drew)); exact HO_13.out)); (case aS => exact (below_size (by repeat (first | exact HB.out | apply below_alloc | apply pw_below_drewN | apply below_drew1)))); (case aL => have := LMc58.out; omega); intro v10001033 w59 ho hb hg hat; rw [← Ny10001032.out] at ho; have n0_ := Aside0.mk (Kd.R_after (ok := (fun k_ => some k_ ≠ (.slice (some ad10001029) t10001006.length co16 : Value).ownBlock)) (by (with_reducible repeat (first | apply Kd.R_alloc | apply Kd.R_drewN | apply Kd.R_drew)); exact HO_0.out) hg hat); have n1_ := Aside0.mk (Kd.R_after (ok := (fun k_ => some k_ ≠ (.slice (some ad10001028) t10001003.length co15 : Value).ownBlock)) (by (with_reducible repeat (first | apply Kd.R_alloc | apply Kd.R_drewN | apply Kd.R_drew)); exact HO_1.out) hg hat); have n2_ := Aside0.mk (Kd.R_over' (by (with_reducible repeat (first | apply Kd.R_alloc | apply Kd.R_drewN | apply Kd.R_drew)); exact HO_10.out) (Kd.R_typed (by (with_reducible repeat (first | apply Kd.R_alloc | apply Kd.R_drewN | apply Kd.R_drew)); exact HO_13.out)) (by decide) hg); have n3_ := Aside0.mk (Kd.R_over' (by (with_reducible repeat (first | apply Kd.R_alloc | apply Kd.R_drewN | apply Kd.R_drew)); exact HO_51.out) (Kd.R_typed (by (with_reducible repeat (first | apply Kd.R_alloc | apply Kd.R_drewN | apply Kd.R_drew)); exact HO_13.out)) (by decide) hg); have n4_ := Aside0.mk (hb); have n5_ := Aside0.mk (ho); clear HO_0; clear HO_1; clear HO_10; clear HO_51; clear HB; clear HO_13; have HO_0 := n0_; have HO_1 := n1_; have HO_10 := n2_; have HO_51 := n3_; have HB := n4_; have HO10001034 := n5_; clear n0_ n1_ n2_ n3_ n4_ n5_; clear ho hb hg hat))
                          repeat (go_quiet (first | ((with_reducible refine (HG.out (decide (((rd_T55 t10001003 x14_34).f0) ≤ (rd t10001020 x53_2))) (decide (((rd_T55 t10001006 x15_38).f0) ≤ (rd t10001020 x53_2))) true _ A53.out).mono ?_); rintro e w' ⟨rfl, ⟨nd, rfl⟩⟩; (try first | exact ⟨rfl, _, World.drewN_drewN _ _ _⟩ | exact ⟨rfl, _, Eq.trans (World.drewN_drewN _ _ _) (congrArg (World.drewN _) (Nat.add_assoc _ _ _))⟩); have p10001031 : 0 ≤ ((ji55) : Int) := of_decide_eq_true (by assumption); have q10001031 : (ji55) < (t10001020.length : Int) := of_decide_eq_true (by assumption); obtain ⟨ad10001031, e10001031, hx10001031_0⟩ := Kd.at_int (Kd.R_reads' HO_10.out).2.2 (ji55) p10001031 q10001031; obtain rfl : ad10001024 = ad10001031 := (by injection e10001031); replace p10001031 := eq_true p10001031; replace q10001031 := eq_true q10001031) | ((with_reducible refine gate_builtin (b := .append) (xs := #[.tmp 130, .tmp 138]) rfl ?_); at_builtin; refine Kd.R_append k55 (w0 := w) w.heap.size rfl (.tmp 130) (.tmp 138) 29 55 (.agg #[(.int .i64 0), (.int .i64 0)]) 16 rfl Try.underlying29 info55 rfl (by decide) (by omega) u13 x13_2 (⟨(rd t10001020 x53_2), rd t10001020 (ji55)⟩ : S55) [.int .i64 (rd t10001020 x53_2), .int .i64 (rd t10001020 (ji55))] (fun k_ => some k_ ≠ (.slice (some ad10001028) t10001003.length co15 : Value).ownBlock ∧ some k_ ≠ (.slice (some ad10001029) t10001006.length co16 : Value).ownBlock) (fun _ => False) rfl rfl ?aP (fun _ hk => hk.elim) ?aF ?aO ?aB ?aS ?aL ?_; (case aP => exact k55_mkM _ _ _ (⟨(rd t10001020 x53_2), rd t10001020 (ji55)⟩ : S55)); (case aB => exact (by repeat (first | exact HB.out | apply below_alloc | apply pw_below_drewN | apply below_drew1))); (case aF => exact (fun k_ hk => ⟨Kd.fresh' (Kd.R_lt (by (with_reducible repeat (first | apply Kd.R_alloc | apply Kd.R_drewN | apply Kd.R_drew)); exact HO_0.out)) k_ hk, Kd.fresh' (Kd.R_lt (by (with_reducible repeat (first | apply Kd.R_alloc | apply Kd.R_drewN | apply Kd.R_drew)); exact HO_1.out)) k_ hk⟩)); (case aO => exact (by (with_reducible repeat (first | apply Kd.R_alloc | apply Kd.R_drewN | apply Kd.R_drew)); exact HO_13.out)); (case aS => exact (below_size (by repeat (first | exact HB.out | apply below_alloc | apply pw_below_drewN | apply below_drew1)))); (case aL => have := LMc58.out; omega); intro v10001033 w59 ho hb hg hat; rw [← Ny10001032.out] at ho; have n0_ := Aside0.mk (Kd.R_after (ok := (fun k_ => some k_ ≠ (.slice (some ad10001029) t10001006.length co16 : Value).ownBlock)) (by (with_reducible repeat (first | apply Kd.R_alloc | apply Kd.R_drewN | apply Kd.R_drew)); exact HO_0.out) hg hat); have n1_ := Aside0.mk (Kd.R_after (ok := (fun k_ => some k_ ≠ (.slice (some ad10001028) t10001003.length co15 : Value).ownBlock)) (by (with_reducible repeat (first | apply Kd.R_alloc | apply Kd.R_drewN | apply Kd.R_drew)); exact HO_1.out) hg hat); have n2_ := Aside0.mk (Kd.R_over' (by (with_reducible repeat (first | apply Kd.R_alloc | apply Kd.R_drewN | apply Kd.R_drew)); exact HO_10.out) (Kd.R_typed (by (with_reducible repeat (first | apply Kd.R_alloc | apply Kd.R_drewN | apply Kd.R_drew)); exact HO_13.out)) (by decide) hg); have n3_ := Aside0.mk (Kd.R_over' (by (with_reducible repeat (first | apply Kd.R_alloc | apply Kd.R_drewN | apply Kd.R_drew)); exact HO_51.out) (Kd.R_typed (by (with_reducible repeat (first | apply Kd.R_alloc | apply Kd.R_drewN | apply Kd.R_drew)); exact HO_13.out)) (by decide) hg); have n4_ := Aside0.mk (hb); have n5_ := Aside0.mk (ho); clear HO_0; clear HO_1; clear HO_10; clear HO_51; clear HB; clear HO_13; have HO_0 := n0_; have HO_1 := n1_; have HO_10 := n2_; have HO_51 := n3_; have HB := n4_; have HO10001034 := n5_; clear n0_ n1_ n2_ n3_ n4_ n5_; clear ho hb hg hat)); try go_wp2_with (first | ((with_reducible refine (HG.out (decide (((rd_T55 t10001003 x14_34).f0) ≤ (rd t10001020 x53_2))) (decide (((rd_T55 t10001006 x15_38).f0) ≤ (rd t10001020 x53_2))) true _ A53.out).mono ?_); rintro e w' ⟨rfl, ⟨nd, rfl⟩⟩; (try first | exact ⟨rfl, _, World.drewN_drewN _ _ _⟩ | exact ⟨rfl, _, Eq.trans (World.drewN_drewN _ _ _) (congrArg (World.drewN _) (Nat.add_assoc _ _ _))⟩); have p10001031 : 0 ≤ ((ji55) : Int) := of_decide_eq_true (by assumption); have q10001031 : (ji55) < (t10001020.length : Int) := of_decide_eq_true (by assumption); obtain ⟨ad10001031, e10001031, hx10001031_0⟩ := Kd.at_int (Kd.R_reads' HO_10.out).2.2 (ji55) p10001031 q10001031; obtain rfl : ad10001024 = ad10001031 := (by injection e10001031); replace p10001031 := eq_true p10001031; replace q10001031 := eq_true q10001031) | ((with_reducible refine gate_builtin (b := .append) (xs := #[.tmp 130, .tmp 138]) rfl ?_); at_builtin; refine Kd.R_append k55 (w0 := w) w.heap.size rfl (.tmp 130) (.tmp 138) 29 55 (.agg #[(.int .i64 0), (.int .i64 0)]) 16 rfl Try.underlying29 info55 rfl (by decide) (by omega) u13 x13_2 (⟨(rd t10001020 x53_2), rd t10001020 (ji55)⟩ : S55) [.int .i64 (rd t10001020 x53_2), .int .i64 (rd t10001020 (ji55))] (fun k_ => some k_ ≠ (.slice (some ad10001028) t10001003.length co15 : Value).ownBlock ∧ some k_ ≠ (.slice (some ad10001029) t10001006.length co16 : Value).ownBlock) (fun _ => False) rfl rfl ?aP (fun _ hk => hk.elim) ?aF ?aO ?aB ?aS ?aL ?_; (case aP => exact k55_mkM _ _ _ (⟨(rd t10001020 x53_2), rd t10001020 (ji55)⟩ : S55)); (case aB => exact (by repeat (first | exact HB.out | apply below_alloc | apply pw_below_drewN | apply below_drew1))); (case aF => exact (fun k_ hk => ⟨Kd.fresh' (Kd.R_lt (by (with_reducible repeat (first | apply Kd.R_alloc | apply Kd.R_drewN | apply Kd.R_drew)); exact HO_0.out)) k_ hk, Kd.fresh' (Kd.R_lt (by (with_reducible repeat (first | apply Kd.R_alloc | apply Kd.R_drewN | apply Kd.R_drew)); exact HO_1.out)) k_ hk⟩)); (case aO => exact (by (with_reducible repeat (first | apply Kd.R_alloc | apply Kd.R_drewN | apply Kd.R_drew)); exact HO_13.out)); (case aS => exact (below_size (by repeat (first | exact HB.out | apply below_alloc | apply pw_below_drewN | apply below_drew1)))); (case aL => have := LMc58.out; omega); intro v10001033 w59 ho hb hg hat; rw [← Ny10001032.out] at ho; have n0_ := Aside0.mk (Kd.R_after (ok := (fun k_ => some k_ ≠ (.slice (some ad10001029) t10001006.length co16 : Value).ownBlock)) (by (with_reducible repeat (first | apply Kd.R_alloc | apply Kd.R_drewN | apply Kd.R_drew)); exact HO_0.out) hg hat); have n1_ := Aside0.mk (Kd.R_after (ok := (fun k_ => some k_ ≠ (.slice (some ad10001028) t10001003.length co15 : Value).ownBlock)) (by (with_reducible repeat (first | apply Kd.R_alloc | apply Kd.R_drewN | apply Kd.R_drew)); exact HO_1.out) hg hat); have n2_ := Aside0.mk (Kd.R_over' (by (with_reducible repeat (first | apply Kd.R_alloc | apply Kd.R_drewN | apply Kd.R_drew)); exact HO_10.out) (Kd.R_typed (by (with_reducible repeat (first | apply Kd.R_alloc | apply Kd.R_drewN | apply Kd.R_drew)); exact HO_13.out)) (by decide) hg); have n3_ := Aside0.mk (Kd.R_over' (by (with_reducible repeat (first | apply Kd.R_alloc | apply Kd.R_drewN | apply Kd.R_drew)); exact HO_51.out) (Kd.R_typed (by (with_reducible repeat (first | apply Kd.R_alloc | apply Kd.R_drewN | apply Kd.R_drew)); exact HO_13.out)) (by decide) hg); have n4_ := Aside0.mk (hb); have n5_ := Aside0.mk (ho); clear HO_0; clear HO_1; clear HO_10; clear HO_51; clear HB; clear HO_13; have HO_0 := n0_; have HO_1 := n1_; have HO_10 := n2_; have HO_51 := n3_; have HB := n4_; have HO10001034 := n5_; clear n0_ n1_ n2_ n3_ n4_ n5_; clear ho hb hg hat)))
                          (try simp only [← hl10_2, ← hl51_2])
                          go_roundg kj42
                          case measure => have := HK1.out; have := HK2.out; have := HJ34.out; have := HJ38.out; have := HJ42.out; omega
                          case rel => exact ⟨(y10001032), (x14_34), (x15_38), (ji55), (by first | rfl | (simp; done) | (simp [*]; done)), (by first | rfl | (simp; done) | (simp [*]; done)), (by first | rfl | (simp; done) | (simp only [← hji55] <;> (first | rfl | (simp; done))) | (simp [*]; done)), H', ⟨by have := HK1.out; have := HK2.out; have := HJ34.out; have := HJ38.out; have := HJ42.out; omega⟩, ⟨by (try simp only [hl10_2]); (try simp only [hl51_2]); exact HO_0.out⟩, ⟨by (try simp only [hl10_2]); (try simp only [hl51_2]); exact HO_1.out⟩, ⟨by (try simp only [hl10_2]); (try simp only [hl51_2]); exact HO_10.out⟩, ⟨by (try simp only [hl10_2]); (try simp only [hl51_2]); exact HO10001034.out⟩, ⟨by (try simp only [hl10_2]); (try simp only [hl51_2]); exact HO_51.out⟩, ⟨by repeat (first | exact HB.out | apply below_alloc | apply pw_below_drewN | apply below_drew1)⟩⟩
                         ·rw [if_neg c58] at H
                          exact absurd H (by simp)
                        ·rw [if_neg c57] at H
                         exact absurd H (by simp)
                       ·rw [if_neg c56] at H
                        exact absurd H (by simp)
                      ·replace c54 := Bool.eq_false_iff.mpr c54
                       subst c54
                       have H1 : (span_sets.l1 kf kj42 t10001003 t10001006 t10001020 x13_2 x14_34 x15_38 t10001020 (t10001020.length : Int) (wrap64 (x53_2 + 1))) = some (r1, r2) := by rw [if_neg (show ¬ (false = true) by decide)] at H; first | exact H | simpa using H
                       clear H
                       have H := H1
                       clear H1
                       have H' := Aside0.mk H
                       clear H
                       have p10001028 : 0 ≤ (x14_34 : Int) := of_decide_eq_true (by assumption)
                       have q10001028 : x14_34 < (t10001003.length : Int) := of_decide_eq_true (by assumption)
                       obtain ⟨ad10001028, e10001028, hx10001028_0, hx10001028_1⟩ := at_T55 (Kd.R_reads' HO_0.out).2.2 x14_34 p10001028 q10001028
                       cases e10001028
                       replace p10001028 := eq_true p10001028
                       replace q10001028 := eq_true q10001028
                       have p10001029 : 0 ≤ (x15_38 : Int) := of_decide_eq_true (by assumption)
                       have q10001029 : x15_38 < (t10001006.length : Int) := of_decide_eq_true (by assumption)
                       obtain ⟨ad10001029, e10001029, hx10001029_0, hx10001029_1⟩ := at_T55 (Kd.R_reads' HO_1.out).2.2 x15_38 p10001029 q10001029
                       cases e10001029
                       replace p10001029 := eq_true p10001029
                       replace q10001029 := eq_true q10001029
                       go_wp2_with (first | ((with_reducible refine (HG.out (decide (((rd_T55 t10001003 x14_34).f0) ≤ (rd t10001020 x53_2))) (decide (((rd_T55 t10001006 x15_38).f0) ≤ (rd t10001020 x53_2))) false _ A53.out).mono ?_); rintro e w' ⟨rfl, ⟨nd, rfl⟩⟩; (try first | exact ⟨rfl, _, World.drewN_drewN _ _ _⟩ | exact ⟨rfl, _, Eq.trans (World.drewN_drewN _ _ _) (congrArg (World.drewN _) (Nat.add_assoc _ _ _))⟩)))
                       repeat (go_quiet (first | ((with_reducible refine (HG.out (decide (((rd_T55 t10001003 x14_34).f0) ≤ (rd t10001020 x53_2))) (decide (((rd_T55 t10001006 x15_38).f0) ≤ (rd t10001020 x53_2))) false _ A53.out).mono ?_); rintro e w' ⟨rfl, ⟨nd, rfl⟩⟩; (try first | exact ⟨rfl, _, World.drewN_drewN _ _ _⟩ | exact ⟨rfl, _, Eq.trans (World.drewN_drewN _ _ _) (congrArg (World.drewN _) (Nat.add_assoc _ _ _))⟩))); try go_wp2_with (first | ((with_reducible refine (HG.out (decide (((rd_T55 t10001003 x14_34).f0) ≤ (rd t10001020 x53_2))) (decide (((rd_T55 t10001006 x15_38).f0) ≤ (rd t10001020 x53_2))) false _ A53.out).mono ?_); rintro e w' ⟨rfl, ⟨nd, rfl⟩⟩; (try first | exact ⟨rfl, _, World.drewN_drewN _ _ _⟩ | exact ⟨rfl, _, Eq.trans (World.drewN_drewN _ _ _) (congrArg (World.drewN _) (Nat.add_assoc _ _ _))⟩))))
                       (try simp only [← hl10_2, ← hl51_2])
                       go_roundg kj42
                       case measure => have := HK1.out; have := HK2.out; have := HJ34.out; have := HJ38.out; have := HJ42.out; omega
                       case rel => exact ⟨(x13_2), (x14_34), (x15_38), (wrap64 (x53_2 + 1)), (by first | rfl | (simp; done) | (simp [*]; done)), (by first | rfl | (simp; done) | (simp [*]; done)), (by first | rfl | (simp; done) | (simp [*]; done)), H', ⟨by have := HK1.out; have := HK2.out; have := HJ34.out; have := HJ38.out; have := HJ42.out; omega⟩, ⟨by (try simp only [hl10_2]); (try simp only [hl51_2]); exact HO_0.out⟩, ⟨by (try simp only [hl10_2]); (try simp only [hl51_2]); exact HO_1.out⟩, ⟨by (try simp only [hl10_2]); (try simp only [hl51_2]); exact HO_10.out⟩, ⟨by (try simp only [hl10_2]); (try simp only [hl51_2]); exact HO_13.out⟩, ⟨by (try simp only [hl10_2]); (try simp only [hl51_2]); exact HO_51.out⟩, ⟨by repeat (first | exact HB.out | apply below_alloc | apply pw_below_drewN | apply below_drew1)⟩⟩
                     ·rw [if_neg c52] at H
                      exact absurd H (by simp)
                    ·rw [if_neg c51] at H
                     have c51b0 : decide (x15_38 < (t10001006.length : Int)) = false := decide_eq_false c51
                     clear c51
                     replace H := Option.bind_eq_some_iff.mp H
                     obtain ⟨t10001035, A600, H⟩ := H
                     replace H : (if t10001035 = true then (if 0 ≤ (wrap64 (x53_2 + 1)) then (if (wrap64 (x53_2 + 1)) < (t10001020.length : Int) then (if x13_2.length < 8796093022208 then (span_sets.l1 kf kj42 t10001003 t10001006 t10001020 (x13_2 ++ [(⟨(rd t10001020 x53_2), rd t10001020 (wrap64 (x53_2 + 1))⟩ : S55)]) x14_34 x15_38 t10001020 (t10001020.length : Int) (wrap64 (x53_2 + 1))) else (none)) else (none)) else (none)) else (span_sets.l1 kf kj42 t10001003 t10001006 t10001020 x13_2 x14_34 x15_38 t10001020 (t10001020.length : Int) (wrap64 (x53_2 + 1)))) = some (r1, r2) := H
                     have A60 := Aside0.mk A600
                     clear A600
                     by_cases c61 : t10001035 = true
                     ·subst c61
                      have H1 : (if 0 ≤ (wrap64 (x53_2 + 1)) then (if (wrap64 (x53_2 + 1)) < (t10001020.length : Int) then (if x13_2.length < 8796093022208 then (span_sets.l1 kf kj42 t10001003 t10001006 t10001020 (x13_2 ++ [(⟨(rd t10001020 x53_2), rd t10001020 (wrap64 (x53_2 + 1))⟩ : S55)]) x14_34 x15_38 t10001020 (t10001020.length : Int) (wrap64 (x53_2 + 1))) else (none)) else (none)) else (none)) = some (r1, r2) := by rw [if_pos rfl] at H; exact H
                      clear H
                      have H := H1
                      clear H1
                      obtain ⟨ji62, hji62⟩ : ∃ j_ : Int, (wrap64 (x53_2 + 1)) = j_ := ⟨_, rfl⟩
                      replace H : (if 0 ≤ (ji62) then (if (ji62) < (t10001020.length : Int) then (if x13_2.length < 8796093022208 then (span_sets.l1 kf kj42 t10001003 t10001006 t10001020 (x13_2 ++ [(⟨(rd t10001020 x53_2), rd t10001020 (ji62)⟩ : S55)]) x14_34 x15_38 t10001020 (t10001020.length : Int) ji62) else (none)) else (none)) else (none)) = some (r1, r2) := by first | (rw [hji62] at H; exact H) | (simp only [hji62] at H ⊢; exact H)
                      (try rw [hji62] at A60)
                      have hji62w : (IntKind.i64.wrap (x53_2 + 1)) = ji62 := (i64_w _).trans hji62
                      by_cases c63 : 0 ≤ (ji62)
                      ·rw [if_pos c63] at H
                       have c63b0 : decide (0 ≤ (ji62)) = true := decide_eq_true c63
                       clear c63
                       by_cases c64 : (ji62) < (t10001020.length : Int)
                       ·rw [if_pos c64] at H
                        have c64b0 : decide ((ji62) < (t10001020.length : Int)) = true := decide_eq_true c64
                        clear c64
                        by_cases c65 : x13_2.length < 8796093022208
                        ·rw [if_pos c65] at H
                         have LMc65 := Aside0.mk c65
                         clear c65
                         obtain ⟨y10001037, hy10001037⟩ : ∃ y_ : List (S55), y_ = (x13_2 ++ [(⟨(rd t10001020 x53_2), rd t10001020 (ji62)⟩ : S55)]) := ⟨_, rfl⟩
                         replace H : (span_sets.l1 kf kj42 t10001003 t10001006 t10001020 y10001037 x14_34 x15_38 t10001020 (t10001020.length : Int) ji62) = some (r1, r2) := by first | (rw [hy10001037]; with_reducible exact H) | (have H2_ := (Option.bind_some _ _).symm.trans H; rw [hy10001037]; with_reducible exact H2_) | (have H2_ := (Option.bind_some _ _).symm.trans H; with_reducible exact H2_) | with_reducible exact H | (rw [hy10001037]; exact H) | exact H
                         have Ny10001037 := Aside0.mk hy10001037
                         clear hy10001037
                         have H' := Aside0.mk H
                         clear H
                         have p10001028 : 0 ≤ (x14_34 : Int) := of_decide_eq_true (by assumption)
                         have q10001028 : x14_34 < (t10001003.length : Int) := of_decide_eq_true (by assumption)
                         obtain ⟨ad10001028, e10001028, hx10001028_0, hx10001028_1⟩ := at_T55 (Kd.R_reads' HO_0.out).2.2 x14_34 p10001028 q10001028
                         cases e10001028
                         replace p10001028 := eq_true p10001028
                         replace q10001028 := eq_true q10001028
                         go_wp2_with (first | ((with_reducible refine (HG.out (decide (((rd_T55 t10001003 x14_34).f0) ≤ (rd t10001020 x53_2))) false true _ A60.out).mono ?_); rintro e w' ⟨rfl, ⟨nd, rfl⟩⟩; (try first | exact ⟨rfl, _, World.drewN_drewN _ _ _⟩ | exact ⟨rfl, _, Eq.trans (World.drewN_drewN _ _ _) (congrArg (World.drewN _) (Nat.add_assoc _ _ _))⟩); have p10001036 : 0 ≤ ((ji62) : Int) := of_decide_eq_true (by assumption); have q10001036 : (ji62) < (t10001020.length : Int) := of_decide_eq_true (by assumption); obtain ⟨ad10001036, e10001036, hx10001036_0⟩ := Kd.at_int (Kd.R_reads' HO_10.out).2.2 (ji62) p10001036 q10001036; obtain rfl : ad10001024 = ad10001036 := (by injection e10001036); replace p10001036 := eq_true p10001036; replace q10001036 := eq_true q10001036) | ((with_reducible refine gate_builtin (b := .append) (xs := #[.tmp 130, .tmp 138]) rfl ?_); at_builtin; refine Kd.R_append k55 (w0 := w) w.heap.size rfl (.tmp 130) (.tmp 138) 29 55 (.agg #[(.int .i64 0), (.int .i64 0)]) 16 rfl Try.underlying29 info55 rfl (by decide) (by omega) u13 x13_2 (⟨(rd t10001020 x53_2), rd t10001020 (ji62)⟩ : S55) [.int .i64 (rd t10001020 x53_2), .int .i64 (rd t10001020 (ji62))] (fun k_ => some k_ ≠ (.slice (some ad10001028) t10001003.length co15 : Value).ownBlock ∧ some k_ ≠ (.slice Ao16 t10001006.length co16 : Value).ownBlock) (fun _ => False) rfl rfl ?aP (fun _ hk => hk.elim) ?aF ?aO ?aB ?aS ?aL ?_; (case aP => exact k55_mkM _ _ _ (⟨(rd t10001020 x53_2), rd t10001020 (ji62)⟩ : S55)); (case aB => exact (by repeat (first | exact HB.out | apply below_alloc | apply pw_below_drewN | apply below_drew1))); (case aF => exact (fun k_ hk => ⟨Kd.fresh' (Kd.R_lt (by (with_reducible repeat (first | apply Kd.R_alloc | apply Kd.R_drewN | apply Kd.R_drew)); exact HO_0.out)) k_ hk, Kd.fresh' (Kd.R_lt (by (with_reducible repeat (first | apply Kd.R_alloc | apply Kd.R_drewN | apply Kd.R_drew)); exact HO_1.out)) k_ hk⟩)); (case aO => exact (by (with_reducible repeat (first | apply Kd.R_alloc | apply Kd.R_drewN | apply Kd.R_drew)); exact HO_13.out)); (case aS => exact (below_size (by repeat (first | exact HB.out | apply below_alloc | apply pw_below_drewN | apply below_drew1)))); (case aL => have := LMc65.out; omega); intro v10001038 w66 ho hb hg hat; rw [← Ny10001037.out] at ho; have n0_ := Aside0.mk (Kd.R_after (ok := (fun k_ => some k_ ≠ (.slice Ao16 t10001006.length co16 : Value).ownBlock)) (by (with_reducible repeat (first | apply Kd.R_alloc | apply Kd.R_drewN | apply Kd.R_drew)); exact HO_0.out) hg hat); have n1_ := Aside0.mk (Kd.R_after (ok := (fun k_ => some k_ ≠ (.slice (some ad10001028) t10001003.length co15 : Value).ownBlock)) (by (with_reducible repeat (first | apply Kd.R_alloc | apply Kd.R_drewN | apply Kd.R_drew)); exact HO_1.out) hg hat); have n2_ := Aside0.mk (Kd.R_over' (by (with_reducible repeat (first | apply Kd.R_alloc | apply Kd.R_drewN | apply Kd.R_drew)); exact HO_10.out) (Kd.R_typed (by (with_reducible repeat (first | apply Kd.R_alloc | apply Kd.R_drewN | apply Kd.R_drew)); exact HO_13.out)) (by decide) hg); have n3_ := Aside0.mk (Kd.R_over' (by (with_reducible repeat (first | apply Kd.R_alloc | apply Kd.R_drewN | apply Kd.R_drew)); exact HO_51.out) (Kd.R_typed (by (with_reducible repeat (first | apply Kd.R_alloc | apply Kd.R_drewN | apply Kd.R_drew)); exact HO_13.out)) (by decide) hg); have n4_ := Aside0.mk (hb); have n5_ := Aside0.mk (ho); clear HO_0; clear HO_1; clear HO_10; clear HO_51; clear HB; clear HO_13; have HO_0 := n0_; have HO_1 := n1_; have HO_10 := n2_; have HO_51 := n3_; have HB := n4_; have HO10001039 := n5_; clear n0_ n1_ n2_ n3_ n4_ n5_; clear ho hb hg hat))
                         repeat (go_quiet (first | ((with_reducible refine (HG.out (decide (((rd_T55 t10001003 x14_34).f0) ≤ (rd t10001020 x53_2))) false true _ A60.out).mono ?_); rintro e w' ⟨rfl, ⟨nd, rfl⟩⟩; (try first | exact ⟨rfl, _, World.drewN_drewN _ _ _⟩ | exact ⟨rfl, _, Eq.trans (World.drewN_drewN _ _ _) (congrArg (World.drewN _) (Nat.add_assoc _ _ _))⟩); have p10001036 : 0 ≤ ((ji62) : Int) := of_decide_eq_true (by assumption); have q10001036 : (ji62) < (t10001020.length : Int) := of_decide_eq_true (by assumption); obtain ⟨ad10001036, e10001036, hx10001036_0⟩ := Kd.at_int (Kd.R_reads' HO_10.out).2.2 (ji62) p10001036 q10001036; obtain rfl : ad10001024 = ad10001036 := (by injection e10001036); replace p10001036 := eq_true p10001036; replace q10001036 := eq_true q10001036) | ((with_reducible refine gate_builtin (b := .append) (xs := #[.tmp 130, .tmp 138]) rfl ?_); at_builtin; refine Kd.R_append k55 (w0 := w) w.heap.size rfl (.tmp 130) (.tmp 138) 29 55 (.agg #[(.int .i64 0), (.int .i64 0)]) 16 rfl Try.underlying29 info55 rfl (by decide) (by omega) u13 x13_2 (⟨(rd t10001020 x53_2), rd t10001020 (ji62)⟩ : S55) [.int .i64 (rd t10001020 x53_2), .int .i64 (rd t10001020 (ji62))] (fun k_ => some k_ ≠ (.slice (some ad10001028) t10001003.length co15 : Value).ownBlock ∧ some k_ ≠ (.slice Ao16 t10001006.length co16 : Value).ownBlock) (fun _ => False) rfl rfl ?aP (fun _ hk => hk.elim) ?aF ?aO ?aB ?aS ?aL ?_; (case aP => exact k55_mkM _ _ _ (⟨(rd t10001020 x53_2), rd t10001020 (ji62)⟩ : S55)); (case aB => exact (by repeat (first | exact HB.out | apply below_alloc | apply pw_below_drewN | apply below_drew1))); (case aF => exact (fun k_ hk => ⟨Kd.fresh' (Kd.R_lt (by (with_reducible repeat (first | apply Kd.R_alloc | apply Kd.R_drewN | apply Kd.R_drew)); exact HO_0.out)) k_ hk, Kd.fresh' (Kd.R_lt (by (with_reducible repeat (first | apply Kd.R_alloc | apply Kd.R_drewN | apply Kd.R_drew)); exact HO_1.out)) k_ hk⟩)); (case aO => exact (by (with_reducible repeat (first | apply Kd.R_alloc | apply Kd.R_drewN | apply Kd.R_drew)); exact HO_13.out)); (case aS => exact (below_size (by repeat (first | exact HB.out | apply below_alloc | apply pw_below_drewN | apply below_drew1)))); (case aL => have := LMc65.out; omega); intro v10001038 w66 ho hb hg hat; rw [← Ny10001037.out] at ho; have n0_ := Aside0.mk (Kd.R_after (ok := (fun k_ => some k_ ≠ (.slice Ao16 t10001006.length co16 : Value).ownBlock)) (by (with_reducible repeat (first | apply Kd.R_alloc | apply Kd.R_drewN | apply Kd.R_drew)); exact HO_0.out) hg hat); have n1_ := Aside0.mk (Kd.R_after (ok := (fun k_ => some k_ ≠ (.slice (some ad10001028) t10001003.length co15 : Value).ownBlock)) (by (with_reducible repeat (first | apply Kd.R_alloc | apply Kd.R_drewN | apply Kd.R_drew)); exact HO_1.out) hg hat); have n2_ := Aside0.mk (Kd.R_over' (by (with_reducible repeat (first | apply Kd.R_alloc | apply Kd.R_drewN | apply Kd.R_drew)); exact HO_10.out) (Kd.R_typed (by (with_reducible repeat (first | apply Kd.R_alloc | apply Kd.R_drewN | apply Kd.R_drew)); exact HO_13.out)) (by decide) hg); have n3_ := Aside0.mk (Kd.R_over' (by (with_reducible repeat (first | apply Kd.R_alloc | apply Kd.R_drewN | apply Kd.R_drew)); exact HO_51.out) (Kd.R_typed (by (with_reducible repeat (first | apply Kd.R_alloc | apply Kd.R_drewN | apply Kd.R_drew)); exact HO_13.out)) (by decide) hg); have n4_ := Aside0.mk (hb); have n5_ := Aside0.mk (ho); clear HO_0; clear HO_1; clear HO_10; clear HO_51; clear HB; clear HO_13; have HO_0 := n0_; have HO_1 := n1_; have HO_10 := n2_; have HO_51 := n3_; have HB := n4_; have HO10001039 := n5_; clear n0_ n1_ n2_ n3_ n4_ n5_; clear ho hb hg hat)); try go_wp2_with (first | ((with_reducible refine (HG.out (decide (((rd_T55 t10001003 x14_34).f0) ≤ (rd t10001020 x53_2))) false true _ A60.out).mono ?_); rintro e w' ⟨rfl, ⟨nd, rfl⟩⟩; (try first | exact ⟨rfl, _, World.drewN_drewN _ _ _⟩ | exact ⟨rfl, _, Eq.trans (World.drewN_drewN _ _ _) (congrArg (World.drewN _) (Nat.add_assoc _ _ _))⟩); have p10001036 : 0 ≤ ((ji62) : Int) := of_decide_eq_true (by assumption); have q10001036 : (ji62) < (t10001020.length : Int) := of_decide_eq_true (by assumption); obtain ⟨ad10001036, e10001036, hx10001036_0⟩ := Kd.at_int (Kd.R_reads' HO_10.out).2.2 (ji62) p10001036 q10001036; obtain rfl : ad10001024 = ad10001036 := (by injection e10001036); replace p10001036 := eq_true p10001036; replace q10001036 := eq_true q10001036) | ((with_reducible refine gate_builtin (b := .append) (xs := #[.tmp 130, .tmp 138]) rfl ?_); at_builtin; refine Kd.R_append k55 (w0 := w) w.heap.size rfl (.tmp 130) (.tmp 138) 29 55 (.agg #[(.int .i64 0), (.int .i64 0)]) 16 rfl Try.underlying29 info55 rfl (by decide) (by omega) u13 x13_2 (⟨(rd t10001020 x53_2), rd t10001020 (ji62)⟩ : S55) [.int .i64 (rd t10001020 x53_2), .int .i64 (rd t10001020 (ji62))] (fun k_ => some k_ ≠ (.slice (some ad10001028) t10001003.length co15 : Value).ownBlock ∧ some k_ ≠ (.slice Ao16 t10001006.length co16 : Value).ownBlock) (fun _ => False) rfl rfl ?aP (fun _ hk => hk.elim) ?aF ?aO ?aB ?aS ?aL ?_; (case aP => exact k55_mkM _ _ _ (⟨(rd t10001020 x53_2), rd t10001020 (ji62)⟩ : S55)); (case aB => exact (by repeat (first | exact HB.out | apply below_alloc | apply pw_below_drewN | apply below_drew1))); (case aF => exact (fun k_ hk => ⟨Kd.fresh' (Kd.R_lt (by (with_reducible repeat (first | apply Kd.R_alloc | apply Kd.R_drewN | apply Kd.R_drew)); exact HO_0.out)) k_ hk, Kd.fresh' (Kd.R_lt (by (with_reducible repeat (first | apply Kd.R_alloc | apply Kd.R_drewN | apply Kd.R_drew)); exact HO_1.out)) k_ hk⟩)); (case aO => exact (by (with_reducible repeat (first | apply Kd.R_alloc | apply Kd.R_drewN | apply Kd.R_drew)); exact HO_13.out)); (case aS => exact (below_size (by repeat (first | exact HB.out | apply below_alloc | apply pw_below_drewN | apply below_drew1)))); (case aL => have := LMc65.out; omega); intro v10001038 w66 ho hb hg hat; rw [← Ny10001037.out] at ho; have n0_ := Aside0.mk (Kd.R_after (ok := (fun k_ => some k_ ≠ (.slice Ao16 t10001006.length co16 : Value).ownBlock)) (by (with_reducible repeat (first | apply Kd.R_alloc | apply Kd.R_drewN | apply Kd.R_drew)); exact HO_0.out) hg hat); have n1_ := Aside0.mk (Kd.R_after (ok := (fun k_ => some k_ ≠ (.slice (some ad10001028) t10001003.length co15 : Value).ownBlock)) (by (with_reducible repeat (first | apply Kd.R_alloc | apply Kd.R_drewN | apply Kd.R_drew)); exact HO_1.out) hg hat); have n2_ := Aside0.mk (Kd.R_over' (by (with_reducible repeat (first | apply Kd.R_alloc | apply Kd.R_drewN | apply Kd.R_drew)); exact HO_10.out) (Kd.R_typed (by (with_reducible repeat (first | apply Kd.R_alloc | apply Kd.R_drewN | apply Kd.R_drew)); exact HO_13.out)) (by decide) hg); have n3_ := Aside0.mk (Kd.R_over' (by (with_reducible repeat (first | apply Kd.R_alloc | apply Kd.R_drewN | apply Kd.R_drew)); exact HO_51.out) (Kd.R_typed (by (with_reducible repeat (first | apply Kd.R_alloc | apply Kd.R_drewN | apply Kd.R_drew)); exact HO_13.out)) (by decide) hg); have n4_ := Aside0.mk (hb); have n5_ := Aside0.mk (ho); clear HO_0; clear HO_1; clear HO_10; clear HO_51; clear HB; clear HO_13; have HO_0 := n0_; have HO_1 := n1_; have HO_10 := n2_; have HO_51 := n3_; have HB := n4_; have HO10001039 := n5_; clear n0_ n1_ n2_ n3_ n4_ n5_; clear ho hb hg hat)))
                         (try simp only [← hl10_2, ← hl51_2])
                         go_roundg kj42
                         case measure => have := HK1.out; have := HK2.out; have := HJ34.out; have := HJ38.out; have := HJ42.out; omega
                         case rel => exact ⟨(y10001037), (x14_34), (x15_38), (ji62), (by first | rfl | (simp; done) | (simp [*]; done)), (by first | rfl | (simp; done) | (simp [*]; done)), (by first | rfl | (simp; done) | (simp only [← hji62] <;> (first | rfl | (simp; done))) | (simp [*]; done)), H', ⟨by have := HK1.out; have := HK2.out; have := HJ34.out; have := HJ38.out; have := HJ42.out; omega⟩, ⟨by (try simp only [hl10_2]); (try simp only [hl51_2]); exact HO_0.out⟩, ⟨by (try simp only [hl10_2]); (try simp only [hl51_2]); exact HO_1.out⟩, ⟨by (try simp only [hl10_2]); (try simp only [hl51_2]); exact HO_10.out⟩, ⟨by (try simp only [hl10_2]); (try simp only [hl51_2]); exact HO10001039.out⟩, ⟨by (try simp only [hl10_2]); (try simp only [hl51_2]); exact HO_51.out⟩, ⟨by repeat (first | exact HB.out | apply below_alloc | apply pw_below_drewN | apply below_drew1)⟩⟩
                        ·rw [if_neg c65] at H
                         exact absurd H (by simp)
                       ·rw [if_neg c64] at H
                        exact absurd H (by simp)
                      ·rw [if_neg c63] at H
                       exact absurd H (by simp)
                     ·replace c61 := Bool.eq_false_iff.mpr c61
                      subst c61
                      have H1 : (span_sets.l1 kf kj42 t10001003 t10001006 t10001020 x13_2 x14_34 x15_38 t10001020 (t10001020.length : Int) (wrap64 (x53_2 + 1))) = some (r1, r2) := by rw [if_neg (show ¬ (false = true) by decide)] at H; first | exact H | simpa using H
                      clear H
                      have H := H1
                      clear H1
                      have H' := Aside0.mk H
                      clear H
                      have p10001028 : 0 ≤ (x14_34 : Int) := of_decide_eq_true (by assumption)
                      have q10001028 : x14_34 < (t10001003.length : Int) := of_decide_eq_true (by assumption)
                      obtain ⟨ad10001028, e10001028, hx10001028_0, hx10001028_1⟩ := at_T55 (Kd.R_reads' HO_0.out).2.2 x14_34 p10001028 q10001028
                      cases e10001028
                      replace p10001028 := eq_true p10001028
                      replace q10001028 := eq_true q10001028
                      go_wp2_with (first | ((with_reducible refine (HG.out (decide (((rd_T55 t10001003 x14_34).f0) ≤ (rd t10001020 x53_2))) false false _ A60.out).mono ?_); rintro e w' ⟨rfl, ⟨nd, rfl⟩⟩; (try first | exact ⟨rfl, _, World.drewN_drewN _ _ _⟩ | exact ⟨rfl, _, Eq.trans (World.drewN_drewN _ _ _) (congrArg (World.drewN _) (Nat.add_assoc _ _ _))⟩)))
                      repeat (go_quiet (first | ((with_reducible refine (HG.out (decide (((rd_T55 t10001003 x14_34).f0) ≤ (rd t10001020 x53_2))) false false _ A60.out).mono ?_); rintro e w' ⟨rfl, ⟨nd, rfl⟩⟩; (try first | exact ⟨rfl, _, World.drewN_drewN _ _ _⟩ | exact ⟨rfl, _, Eq.trans (World.drewN_drewN _ _ _) (congrArg (World.drewN _) (Nat.add_assoc _ _ _))⟩))); try go_wp2_with (first | ((with_reducible refine (HG.out (decide (((rd_T55 t10001003 x14_34).f0) ≤ (rd t10001020 x53_2))) false false _ A60.out).mono ?_); rintro e w' ⟨rfl, ⟨nd, rfl⟩⟩; (try first | exact ⟨rfl, _, World.drewN_drewN _ _ _⟩ | exact ⟨rfl, _, Eq.trans (World.drewN_drewN _ _ _) (congrArg (World.drewN _) (Nat.add_assoc _ _ _))⟩))))
                      (try simp only [← hl10_2, ← hl51_2])
                      go_roundg kj42
                      case measure => have := HK1.out; have := HK2.out; have := HJ34.out; have := HJ38.out; have := HJ42.out; omega
                      case rel => exact ⟨(x13_2), (x14_34), (x15_38), (wrap64 (x53_2 + 1)), (by first | rfl | (simp; done) | (simp [*]; done)), (by first | rfl | (simp; done) | (simp [*]; done)), (by first | rfl | (simp; done) | (simp [*]; done)), H', ⟨by have := HK1.out; have := HK2.out; have := HJ34.out; have := HJ38.out; have := HJ42.out; omega⟩, ⟨by (try simp only [hl10_2]); (try simp only [hl51_2]); exact HO_0.out⟩, ⟨by (try simp only [hl10_2]); (try simp only [hl51_2]); exact HO_1.out⟩, ⟨by (try simp only [hl10_2]); (try simp only [hl51_2]); exact HO_10.out⟩, ⟨by (try simp only [hl10_2]); (try simp only [hl51_2]); exact HO_13.out⟩, ⟨by (try simp only [hl10_2]); (try simp only [hl51_2]); exact HO_51.out⟩, ⟨by repeat (first | exact HB.out | apply below_alloc | apply pw_below_drewN | apply below_drew1)⟩⟩
                   ·rw [if_neg c50] at H
                    exact absurd H (by simp)
                  ·rw [if_neg c49] at H
                   have c49b0 : decide (x14_34 < (t10001003.length : Int)) = false := decide_eq_false c49
                   clear c49
                   by_cases c67 : x15_38 < (t10001006.length : Int)
                   ·rw [if_pos c67] at H
                    have c67b0 : decide (x15_38 < (t10001006.length : Int)) = true := decide_eq_true c67
                    clear c67
                    by_cases c68 : 0 ≤ x15_38
                    ·rw [if_pos c68] at H
                     have c68b0 : decide (0 ≤ x15_38) = true := decide_eq_true c68
                     clear c68
                     replace H := Option.bind_eq_some_iff.mp H
                     obtain ⟨t10001041, A690, H⟩ := H
                     replace H : (if t10001041 = true then (if 0 ≤ (wrap64 (x53_2 + 1)) then (if (wrap64 (x53_2 + 1)) < (t10001020.length : Int) then (if x13_2.length < 8796093022208 then (span_sets.l1 kf kj42 t10001003 t10001006 t10001020 (x13_2 ++ [(⟨(rd t10001020 x53_2), rd t10001020 (wrap64 (x53_2 + 1))⟩ : S55)]) x14_34 x15_38 t10001020 (t10001020.length : Int) (wrap64 (x53_2 + 1))) else (none)) else (none)) else (none)) else (span_sets.l1 kf kj42 t10001003 t10001006 t10001020 x13_2 x14_34 x15_38 t10001020 (t10001020.length : Int) (wrap64 (x53_2 + 1)))) = some (r1, r2) := H
                     have A69 := Aside0.mk A690
                     clear A690
                     by_cases c70 : t10001041 = true
                     ·subst c70
                      have H1 : (if 0 ≤ (wrap64 (x53_2 + 1)) then (if (wrap64 (x53_2 + 1)) < (t10001020.length : Int) then (if x13_2.length < 8796093022208 then (span_sets.l1 kf kj42 t10001003 t10001006 t10001020 (x13_2 ++ [(⟨(rd t10001020 x53_2), rd t10001020 (wrap64 (x53_2 + 1))⟩ : S55)]) x14_34 x15_38 t10001020 (t10001020.length : Int) (wrap64 (x53_2 + 1))) else (none)) else (none)) else (none)) = some (r1, r2) := by rw [if_pos rfl] at H; exact H
                      clear H
                      have H := H1
                      clear H1
                      obtain ⟨ji71, hji71⟩ : ∃ j_ : Int, (wrap64 (x53_2 + 1)) = j_ := ⟨_, rfl⟩
                      replace H : (if 0 ≤ (ji71) then (if (ji71) < (t10001020.length : Int) then (if x13_2.length < 8796093022208 then (span_sets.l1 kf kj42 t10001003 t10001006 t10001020 (x13_2 ++ [(⟨(rd t10001020 x53_2), rd t10001020 (ji71)⟩ : S55)]) x14_34 x15_38 t10001020 (t10001020.length : Int) ji71) else (none)) else (none)) else (none)) = some (r1, r2) := by first | (rw [hji71] at H; exact H) | (simp only [hji71] at H ⊢; exact H)
                      (try rw [hji71] at A69)
                      have hji71w : (IntKind.i64.wrap (x53_2 + 1)) = ji71 := (i64_w _).trans hji71
                      by_cases c72 : 0 ≤ (ji71)
                      ·rw [if_pos c72] at H
                       have c72b0 : decide (0 ≤ (ji71)) = true := decide_eq_true c72
                       clear c72
                       by_cases c73 : (ji71) < (t10001020.length : Int)
                       ·rw [if_pos c73] at H
                        have c73b0 : decide ((ji71) < (t10001020.length : Int)) = true := decide_eq_true c73
                        clear c73
                        by_cases c74 : x13_2.length < 8796093022208
                        ·rw [if_pos c74] at H
                         have LMc74 := Aside0.mk c74
                         clear c74
                         obtain ⟨y10001043, hy10001043⟩ : ∃ y_ : List (S55), y_ = (x13_2 ++ [(⟨(rd t10001020 x53_2), rd t10001020 (ji71)⟩ : S55)]) := ⟨_, rfl⟩
                         replace H : (span_sets.l1 kf kj42 t10001003 t10001006 t10001020 y10001043 x14_34 x15_38 t10001020 (t10001020.length : Int) ji71) = some (r1, r2) := by first | (rw [hy10001043]; with_reducible exact H) | (have H2_ := (Option.bind_some _ _).symm.trans H; rw [hy10001043]; with_reducible exact H2_) | (have H2_ := (Option.bind_some _ _).symm.trans H; with_reducible exact H2_) | with_reducible exact H | (rw [hy10001043]; exact H) | exact H
                         have Ny10001043 := Aside0.mk hy10001043
                         clear hy10001043
                         have H' := Aside0.mk H
                         clear H
                         have p10001040 : 0 ≤ (x15_38 : Int) := of_decide_eq_true (by assumption)
                         have q10001040 : x15_38 < (t10001006.length : Int) := of_decide_eq_true (by assumption)
                         obtain ⟨ad10001040, e10001040, hx10001040_0, hx10001040_1⟩ := at_T55 (Kd.R_reads' HO_1.out).2.2 x15_38 p10001040 q10001040
                         cases e10001040
                         replace p10001040 := eq_true p10001040
                         replace q10001040 := eq_true q10001040
                         go_wp2_with (first | ((with_reducible refine (HG.out false (decide (((rd_T55 t10001006 x15_38).f0) ≤ (rd t10001020 x53_2))) true _ A69.out).mono ?_); rintro e w' ⟨rfl, ⟨nd, rfl⟩⟩; (try first | exact ⟨rfl, _, World.drewN_drewN _ _ _⟩ | exact ⟨rfl, _, Eq.trans (World.drewN_drewN _ _ _) (congrArg (World.drewN _) (Nat.add_assoc _ _ _))⟩); have p10001042 : 0 ≤ ((ji71) : Int) := of_decide_eq_true (by assumption); have q10001042 : (ji71) < (t10001020.length : Int) := of_decide_eq_true (by assumption); obtain ⟨ad10001042, e10001042, hx10001042_0⟩ := Kd.at_int (Kd.R_reads' HO_10.out).2.2 (ji71) p10001042 q10001042; obtain rfl : ad10001024 = ad10001042 := (by injection e10001042); replace p10001042 := eq_true p10001042; replace q10001042 := eq_true q10001042) | ((with_reducible refine gate_builtin (b := .append) (xs := #[.tmp 130, .tmp 138]) rfl ?_); at_builtin; refine Kd.R_append k55 (w0 := w) w.heap.size rfl (.tmp 130) (.tmp 138) 29 55 (.agg #[(.int .i64 0), (.int .i64 0)]) 16 rfl Try.underlying29 info55 rfl (by decide) (by omega) u13 x13_2 (⟨(rd t10001020 x53_2), rd t10001020 (ji71)⟩ : S55) [.int .i64 (rd t10001020 x53_2), .int .i64 (rd t10001020 (ji71))] (fun k_ => some k_ ≠ (.slice Ao15 t10001003.length co15 : Value).ownBlock ∧ some k_ ≠ (.slice (some ad10001040) t10001006.length co16 : Value).ownBlock) (fun _ => False) rfl rfl ?aP (fun _ hk => hk.elim) ?aF ?aO ?aB ?aS ?aL ?_; (case aP => exact k55_mkM _ _ _ (⟨(rd t10001020 x53_2), rd t10001020 (ji71)⟩ : S55)); (case aB => exact (by repeat (first | exact HB.out | apply below_alloc | apply pw_below_drewN | apply below_drew1))); (case aF => exact (fun k_ hk => ⟨Kd.fresh' (Kd.R_lt (by (with_reducible repeat (first | apply Kd.R_alloc | apply Kd.R_drewN | apply Kd.R_drew)); exact HO_0.out)) k_ hk, Kd.fresh' (Kd.R_lt (by (with_reducible repeat (first | apply Kd.R_alloc | apply Kd.R_drewN | apply Kd.R_drew)); exact HO_1.out)) k_ hk⟩)); (case aO => exact (by (with_reducible repeat (first | apply Kd.R_alloc | apply Kd.R_drewN | apply Kd.R_drew)); exact HO_13.out)); (case aS => exact (below_size (by repeat (first | exact HB.out | apply below_alloc | apply pw_below_drewN | apply below_drew1)))); (case aL => have := LMc74.out; omega); intro v10001044 w75 ho hb hg hat; rw [← Ny10001043.out] at ho; have n0_ := Aside0.mk (Kd.R_after (ok := (fun k_ => some k_ ≠ (.slice (some ad10001040) t10001006.length co16 : Value).ownBlock)) (by (with_reducible repeat (first | apply Kd.R_alloc | apply Kd.R_drewN | apply Kd.R_drew)); exact HO_0.out) hg hat); have n1_ := Aside0.mk (Kd.R_after (ok := (fun k_ => some k_ ≠ (.slice Ao15 t10001003.length co15 : Value).ownBlock)) (by (with_reducible repeat (first | apply Kd.R_alloc | apply Kd.R_drewN | apply Kd.R_drew)); exact HO_1.out) hg hat); have n2_ := Aside0.mk (Kd.R_over' (by (with_reducible repeat (first | apply Kd.R_alloc | apply Kd.R_drewN | apply Kd.R_drew)); exact HO_10.out) (Kd.R_typed (by (with_reducible repeat (first | apply Kd.R_alloc | apply Kd.R_drewN | apply Kd.R_drew)); exact HO_13.out)) (by decide) hg); have n3_ := Aside0.mk (Kd.R_over' (by (with_reducible repeat (first | apply Kd.R_alloc | apply Kd.R_drewN | apply Kd.R_drew)); exact HO_51.out) (Kd.R_typed (by (with_reducible repeat (first | apply Kd.R_alloc | apply Kd.R_drewN | apply Kd.R_drew)); exact HO_13.out)) (by decide) hg); have n4_ := Aside0.mk (hb); have n5_ := Aside0.mk (ho); clear HO_0; clear HO_1; clear HO_10; clear HO_51; clear HB; clear HO_13; have HO_0 := n0_; have HO_1 := n1_; have HO_10 := n2_; have HO_51 := n3_; have HB := n4_; have HO10001045 := n5_; clear n0_ n1_ n2_ n3_ n4_ n5_; clear ho hb hg hat))
                         repeat (go_quiet (first | ((with_reducible refine (HG.out false (decide (((rd_T55 t10001006 x15_38).f0) ≤ (rd t10001020 x53_2))) true _ A69.out).mono ?_); rintro e w' ⟨rfl, ⟨nd, rfl⟩⟩; (try first | exact ⟨rfl, _, World.drewN_drewN _ _ _⟩ | exact ⟨rfl, _, Eq.trans (World.drewN_drewN _ _ _) (congrArg (World.drewN _) (Nat.add_assoc _ _ _))⟩); have p10001042 : 0 ≤ ((ji71) : Int) := of_decide_eq_true (by assumption); have q10001042 : (ji71) < (t10001020.length : Int) := of_decide_eq_true (by assumption); obtain ⟨ad10001042, e10001042, hx10001042_0⟩ := Kd.at_int (Kd.R_reads' HO_10.out).2.2 (ji71) p10001042 q10001042; obtain rfl : ad10001024 = ad10001042 := (by injection e10001042); replace p10001042 := eq_true p10001042; replace q10001042 := eq_true q10001042) | ((with_reducible refine gate_builtin (b := .append) (xs := #[.tmp 130, .tmp 138]) rfl ?_); at_builtin; refine Kd.R_append k55 (w0 := w) w.heap.size rfl (.tmp 130) (.tmp 138) 29 55 (.agg #[(.int .i64 0), (.int .i64 0)]) 16 rfl Try.underlying29 info55 rfl (by decide) (by omega) u13 x13_2 (⟨(rd t10001020 x53_2), rd t10001020 (ji71)⟩ : S55) [.int .i64 (rd t10001020 x53_2), .int .i64 (rd t10001020 (ji71))] (fun k_ => some k_ ≠ (.slice Ao15 t10001003.length co15 : Value).ownBlock ∧ some k_ ≠ (.slice (some ad10001040) t10001006.length co16 : Value).ownBlock) (fun _ => False) rfl rfl ?aP (fun _ hk => hk.elim) ?aF ?aO ?aB ?aS ?aL ?_; (case aP => exact k55_mkM _ _ _ (⟨(rd t10001020 x53_2), rd t10001020 (ji71)⟩ : S55)); (case aB => exact (by repeat (first | exact HB.out | apply below_alloc | apply pw_below_drewN | apply below_drew1))); (case aF => exact (fun k_ hk => ⟨Kd.fresh' (Kd.R_lt (by (with_reducible repeat (first | apply Kd.R_alloc | apply Kd.R_drewN | apply Kd.R_drew)); exact HO_0.out)) k_ hk, Kd.fresh' (Kd.R_lt (by (with_reducible repeat (first | apply Kd.R_alloc | apply Kd.R_drewN | apply Kd.R_drew)); exact HO_1.out)) k_ hk⟩)); (case aO => exact (by (with_reducible repeat (first | apply Kd.R_alloc | apply Kd.R_drewN | apply Kd.R_drew)); exact HO_13.out)); (case aS => exact (below_size (by repeat (first | exact HB.out | apply below_alloc | apply pw_below_drewN | apply below_drew1)))); (case aL => have := LMc74.out; omega); intro v10001044 w75 ho hb hg hat; rw [← Ny10001043.out] at ho; have n0_ := Aside0.mk (Kd.R_after (ok := (fun k_ => some k_ ≠ (.slice (some ad10001040) t10001006.length co16 : Value).ownBlock)) (by (with_reducible repeat (first | apply Kd.R_alloc | apply Kd.R_drewN | apply Kd.R_drew)); exact HO_0.out) hg hat); have n1_ := Aside0.mk (Kd.R_after (ok := (fun k_ => some k_ ≠ (.slice Ao15 t10001003.length co15 : Value).ownBlock)) (by (with_reducible repeat (first | apply Kd.R_alloc | apply Kd.R_drewN | apply Kd.R_drew)); exact HO_1.out) hg hat); have n2_ := Aside0.mk (Kd.R_over' (by (with_reducible repeat (first | apply Kd.R_alloc | apply Kd.R_drewN | apply Kd.R_drew)); exact HO_10.out) (Kd.R_typed (by (with_reducible repeat (first | apply Kd.R_alloc | apply Kd.R_drewN | apply Kd.R_drew)); exact HO_13.out)) (by decide) hg); have n3_ := Aside0.mk (Kd.R_over' (by (with_reducible repeat (first | apply Kd.R_alloc | apply Kd.R_drewN | apply Kd.R_drew)); exact HO_51.out) (Kd.R_typed (by (with_reducible repeat (first | apply Kd.R_alloc | apply Kd.R_drewN | apply Kd.R_drew)); exact HO_13.out)) (by decide) hg); have n4_ := Aside0.mk (hb); have n5_ := Aside0.mk (ho); clear HO_0; clear HO_1; clear HO_10; clear HO_51; clear HB; clear HO_13; have HO_0 := n0_; have HO_1 := n1_; have HO_10 := n2_; have HO_51 := n3_; have HB := n4_; have HO10001045 := n5_; clear n0_ n1_ n2_ n3_ n4_ n5_; clear ho hb hg hat)); try go_wp2_with (first | ((with_reducible refine (HG.out false (decide (((rd_T55 t10001006 x15_38).f0) ≤ (rd t10001020 x53_2))) true _ A69.out).mono ?_); rintro e w' ⟨rfl, ⟨nd, rfl⟩⟩; (try first | exact ⟨rfl, _, World.drewN_drewN _ _ _⟩ | exact ⟨rfl, _, Eq.trans (World.drewN_drewN _ _ _) (congrArg (World.drewN _) (Nat.add_assoc _ _ _))⟩); have p10001042 : 0 ≤ ((ji71) : Int) := of_decide_eq_true (by assumption); have q10001042 : (ji71) < (t10001020.length : Int) := of_decide_eq_true (by assumption); obtain ⟨ad10001042, e10001042, hx10001042_0⟩ := Kd.at_int (Kd.R_reads' HO_10.out).2.2 (ji71) p10001042 q10001042; obtain rfl : ad10001024 = ad10001042 := (by injection e10001042); replace p10001042 := eq_true p10001042; replace q10001042 := eq_true q10001042) | ((with_reducible refine gate_builtin (b := .append) (xs := #[.tmp 130, .tmp 138]) rfl ?_); at_builtin; refine Kd.R_append k55 (w0 := w) w.heap.size rfl (.tmp 130) (.tmp 138) 29 55 (.agg #[(.int .i64 0), (.int .i64 0)]) 16 rfl Try.underlying29 info55 rfl (by decide) (by omega) u13 x13_2 (⟨(rd t10001020 x53_2), rd t10001020 (ji71)⟩ : S55) [.int .i64 (rd t10001020 x53_2), .int .i64 (rd t10001020 (ji71))] (fun k_ => some k_ ≠ (.slice Ao15 t10001003.length co15 : Value).ownBlock ∧ some k_ ≠ (.slice (some ad10001040) t10001006.length co16 : Value).ownBlock) (fun _ => False) rfl rfl ?aP (fun _ hk => hk.elim) ?aF ?aO ?aB ?aS ?aL ?_; (case aP => exact k55_mkM _ _ _ (⟨(rd t10001020 x53_2), rd t10001020 (ji71)⟩ : S55)); (case aB => exact (by repeat (first | exact HB.out | apply below_alloc | apply pw_below_drewN | apply below_drew1))); (case aF => exact (fun k_ hk => ⟨Kd.fresh' (Kd.R_lt (by (with_reducible repeat (first | apply Kd.R_alloc | apply Kd.R_drewN | apply Kd.R_drew)); exact HO_0.out)) k_ hk, Kd.fresh' (Kd.R_lt (by (with_reducible repeat (first | apply Kd.R_alloc | apply Kd.R_drewN | apply Kd.R_drew)); exact HO_1.out)) k_ hk⟩)); (case aO => exact (by (with_reducible repeat (first | apply Kd.R_alloc | apply Kd.R_drewN | apply Kd.R_drew)); exact HO_13.out)); (case aS => exact (below_size (by repeat (first | exact HB.out | apply below_alloc | apply pw_below_drewN | apply below_drew1)))); (case aL => have := LMc74.out; omega); intro v10001044 w75 ho hb hg hat; rw [← Ny10001043.out] at ho; have n0_ := Aside0.mk (Kd.R_after (ok := (fun k_ => some k_ ≠ (.slice (some ad10001040) t10001006.length co16 : Value).ownBlock)) (by (with_reducible repeat (first | apply Kd.R_alloc | apply Kd.R_drewN | apply Kd.R_drew)); exact HO_0.out) hg hat); have n1_ := Aside0.mk (Kd.R_after (ok := (fun k_ => some k_ ≠ (.slice Ao15 t10001003.length co15 : Value).ownBlock)) (by (with_reducible repeat (first | apply Kd.R_alloc | apply Kd.R_drewN | apply Kd.R_drew)); exact HO_1.out) hg hat); have n2_ := Aside0.mk (Kd.R_over' (by (with_reducible repeat (first | apply Kd.R_alloc | apply Kd.R_drewN | apply Kd.R_drew)); exact HO_10.out) (Kd.R_typed (by (with_reducible repeat (first | apply Kd.R_alloc | apply Kd.R_drewN | apply Kd.R_drew)); exact HO_13.out)) (by decide) hg); have n3_ := Aside0.mk (Kd.R_over' (by (with_reducible repeat (first | apply Kd.R_alloc | apply Kd.R_drewN | apply Kd.R_drew)); exact HO_51.out) (Kd.R_typed (by (with_reducible repeat (first | apply Kd.R_alloc | apply Kd.R_drewN | apply Kd.R_drew)); exact HO_13.out)) (by decide) hg); have n4_ := Aside0.mk (hb); have n5_ := Aside0.mk (ho); clear HO_0; clear HO_1; clear HO_10; clear HO_51; clear HB; clear HO_13; have HO_0 := n0_; have HO_1 := n1_; have HO_10 := n2_; have HO_51 := n3_; have HB := n4_; have HO10001045 := n5_; clear n0_ n1_ n2_ n3_ n4_ n5_; clear ho hb hg hat)))
                         (try simp only [← hl10_2, ← hl51_2])
                         go_roundg kj42
                         case measure => have := HK1.out; have := HK2.out; have := HJ34.out; have := HJ38.out; have := HJ42.out; omega
                         case rel => exact ⟨(y10001043), (x14_34), (x15_38), (ji71), (by first | rfl | (simp; done) | (simp [*]; done)), (by first | rfl | (simp; done) | (simp [*]; done)), (by first | rfl | (simp; done) | (simp only [← hji71] <;> (first | rfl | (simp; done))) | (simp [*]; done)), H', ⟨by have := HK1.out; have := HK2.out; have := HJ34.out; have := HJ38.out; have := HJ42.out; omega⟩, ⟨by (try simp only [hl10_2]); (try simp only [hl51_2]); exact HO_0.out⟩, ⟨by (try simp only [hl10_2]); (try simp only [hl51_2]); exact HO_1.out⟩, ⟨by (try simp only [hl10_2]); (try simp only [hl51_2]); exact HO_10.out⟩, ⟨by (try simp only [hl10_2]); (try simp only [hl51_2]); exact HO10001045.out⟩, ⟨by (try simp only [hl10_2]); (try simp only [hl51_2]); exact HO_51.out⟩, ⟨by repeat (first | exact HB.out | apply below_alloc | apply pw_below_drewN | apply below_drew1)⟩⟩
                        ·rw [if_neg c74] at H
                         exact absurd H (by simp)
                       ·rw [if_neg c73] at H
                        exact absurd H (by simp)
                      ·rw [if_neg c72] at H
                       exact absurd H (by simp)
                     ·replace c70 := Bool.eq_false_iff.mpr c70
                      subst c70
                      have H1 : (span_sets.l1 kf kj42 t10001003 t10001006 t10001020 x13_2 x14_34 x15_38 t10001020 (t10001020.length : Int) (wrap64 (x53_2 + 1))) = some (r1, r2) := by rw [if_neg (show ¬ (false = true) by decide)] at H; first | exact H | simpa using H
                      clear H
                      have H := H1
                      clear H1
                      have H' := Aside0.mk H
                      clear H
                      have p10001040 : 0 ≤ (x15_38 : Int) := of_decide_eq_true (by assumption)
                      have q10001040 : x15_38 < (t10001006.length : Int) := of_decide_eq_true (by assumption)
                      obtain ⟨ad10001040, e10001040, hx10001040_0, hx10001040_1⟩ := at_T55 (Kd.R_reads' HO_1.out).2.2 x15_38 p10001040 q10001040
                      cases e10001040
                      replace p10001040 := eq_true p10001040
                      replace q10001040 := eq_true q10001040
                      go_wp2_with (first | ((with_reducible refine (HG.out false (decide (((rd_T55 t10001006 x15_38).f0) ≤ (rd t10001020 x53_2))) false _ A69.out).mono ?_); rintro e w' ⟨rfl, ⟨nd, rfl⟩⟩; (try first | exact ⟨rfl, _, World.drewN_drewN _ _ _⟩ | exact ⟨rfl, _, Eq.trans (World.drewN_drewN _ _ _) (congrArg (World.drewN _) (Nat.add_assoc _ _ _))⟩)))
                      repeat (go_quiet (first | ((with_reducible refine (HG.out false (decide (((rd_T55 t10001006 x15_38).f0) ≤ (rd t10001020 x53_2))) false _ A69.out).mono ?_); rintro e w' ⟨rfl, ⟨nd, rfl⟩⟩; (try first | exact ⟨rfl, _, World.drewN_drewN _ _ _⟩ | exact ⟨rfl, _, Eq.trans (World.drewN_drewN _ _ _) (congrArg (World.drewN _) (Nat.add_assoc _ _ _))⟩))); try go_wp2_with (first | ((with_reducible refine (HG.out false (decide (((rd_T55 t10001006 x15_38).f0) ≤ (rd t10001020 x53_2))) false _ A69.out).mono ?_); rintro e w' ⟨rfl, ⟨nd, rfl⟩⟩; (try first | exact ⟨rfl, _, World.drewN_drewN _ _ _⟩ | exact ⟨rfl, _, Eq.trans (World.drewN_drewN _ _ _) (congrArg (World.drewN _) (Nat.add_assoc _ _ _))⟩))))
                      (try simp only [← hl10_2, ← hl51_2])
                      go_roundg kj42
                      case measure => have := HK1.out; have := HK2.out; have := HJ34.out; have := HJ38.out; have := HJ42.out; omega
                      case rel => exact ⟨(x13_2), (x14_34), (x15_38), (wrap64 (x53_2 + 1)), (by first | rfl | (simp; done) | (simp [*]; done)), (by first | rfl | (simp; done) | (simp [*]; done)), (by first | rfl | (simp; done) | (simp [*]; done)), H', ⟨by have := HK1.out; have := HK2.out; have := HJ34.out; have := HJ38.out; have := HJ42.out; omega⟩, ⟨by (try simp only [hl10_2]); (try simp only [hl51_2]); exact HO_0.out⟩, ⟨by (try simp only [hl10_2]); (try simp only [hl51_2]); exact HO_1.out⟩, ⟨by (try simp only [hl10_2]); (try simp only [hl51_2]); exact HO_10.out⟩, ⟨by (try simp only [hl10_2]); (try simp only [hl51_2]); exact HO_13.out⟩, ⟨by (try simp only [hl10_2]); (try simp only [hl51_2]); exact HO_51.out⟩, ⟨by repeat (first | exact HB.out | apply below_alloc | apply pw_below_drewN | apply below_drew1)⟩⟩
                    ·rw [if_neg c68] at H
                     exact absurd H (by simp)
                   ·rw [if_neg c67] at H
                    have c67b0 : decide (x15_38 < (t10001006.length : Int)) = false := decide_eq_false c67
                    clear c67
                    replace H := Option.bind_eq_some_iff.mp H
                    obtain ⟨t10001046, A760, H⟩ := H
                    replace H : (if t10001046 = true then (if 0 ≤ (wrap64 (x53_2 + 1)) then (if (wrap64 (x53_2 + 1)) < (t10001020.length : Int) then (if x13_2.length < 8796093022208 then (span_sets.l1 kf kj42 t10001003 t10001006 t10001020 (x13_2 ++ [(⟨(rd t10001020 x53_2), rd t10001020 (wrap64 (x53_2 + 1))⟩ : S55)]) x14_34 x15_38 t10001020 (t10001020.length : Int) (wrap64 (x53_2 + 1))) else (none)) else (none)) else (none)) else (span_sets.l1 kf kj42 t10001003 t10001006 t10001020 x13_2 x14_34 x15_38 t10001020 (t10001020.length : Int) (wrap64 (x53_2 + 1)))) = some (r1, r2) := H
                    have A76 := Aside0.mk A760
                    clear A760
                    by_cases c77 : t10001046 = true
                    ·subst c77
                     have H1 : (if 0 ≤ (wrap64 (x53_2 + 1)) then (if (wrap64 (x53_2 + 1)) < (t10001020.length : Int) then (if x13_2.length < 8796093022208 then (span_sets.l1 kf kj42 t10001003 t10001006 t10001020 (x13_2 ++ [(⟨(rd t10001020 x53_2), rd t10001020 (wrap64 (x53_2 + 1))⟩ : S55)]) x14_34 x15_38 t10001020 (t10001020.length : Int) (wrap64 (x53_2 + 1))) else (none)) else (none)) else (none)) = some (r1, r2) := by rw [if_pos rfl] at H; exact H
                     clear H
                     have H := H1
                     clear H1
                     obtain ⟨ji78, hji78⟩ : ∃ j_ : Int, (wrap64 (x53_2 + 1)) = j_ := ⟨_, rfl⟩
                     replace H : (if 0 ≤ (ji78) then (if (ji78) < (t10001020.length : Int) then (if x13_2.length < 8796093022208 then (span_sets.l1 kf kj42 t10001003 t10001006 t10001020 (x13_2 ++ [(⟨(rd t10001020 x53_2), rd t10001020 (ji78)⟩ : S55)]) x14_34 x15_38 t10001020 (t10001020.length : Int) ji78) else (none)) else (none)) else (none)) = some (r1, r2) := by first | (rw [hji78] at H; exact H) | (simp only [hji78] at H ⊢; exact H)
                     (try rw [hji78] at A76)
                     have hji78w : (IntKind.i64.wrap (x53_2 + 1)) = ji78 := (i64_w _).trans hji78
                     by_cases c79 : 0 ≤ (ji78)
                     ·rw [if_pos c79] at H
                      have c79b0 : decide (0 ≤ (ji78)) = true := decide_eq_true c79
                      clear c79
                      by_cases c80 : (ji78) < (t10001020.length : Int)
                      ·rw [if_pos c80] at H
                       have c80b0 : decide ((ji78) < (t10001020.length : Int)) = true := decide_eq_true c80
                       clear c80
                       by_cases c81 : x13_2.length < 8796093022208
                       ·rw [if_pos c81] at H
                        have LMc81 := Aside0.mk c81
                        clear c81
                        obtain ⟨y10001048, hy10001048⟩ : ∃ y_ : List (S55), y_ = (x13_2 ++ [(⟨(rd t10001020 x53_2), rd t10001020 (ji78)⟩ : S55)]) := ⟨_, rfl⟩
                        replace H : (span_sets.l1 kf kj42 t10001003 t10001006 t10001020 y10001048 x14_34 x15_38 t10001020 (t10001020.length : Int) ji78) = some (r1, r2) := by first | (rw [hy10001048]; with_reducible exact H) | (have H2_ := (Option.bind_some _ _).symm.trans H; rw [hy10001048]; with_reducible exact H2_) | (have H2_ := (Option.bind_some _ _).symm.trans H; with_reducible exact H2_) | with_reducible exact H | (rw [hy10001048]; exact H) | exact H
                        have Ny10001048 := Aside0.mk hy10001048
                        clear hy10001048
                        have H' := Aside0.mk H
                        clear H
                        go_wp2_with (first | ((with_reducible refine (HG.out false false true _ A76.out).mono ?_); rintro e w' ⟨rfl, ⟨nd, rfl⟩⟩; (try first | exact ⟨rfl, _, World.drewN_drewN _ _ _⟩ | exact ⟨rfl, _, Eq.trans (World.drewN_drewN _ _ _) (congrArg (World.drewN _) (Nat.add_assoc _ _ _))⟩); have p10001047 : 0 ≤ ((ji78) : Int) := of_decide_eq_true (by assumption); have q10001047 : (ji78) < (t10001020.length : Int) := of_decide_eq_true (by assumption); obtain ⟨ad10001047, e10001047, hx10001047_0⟩ := Kd.at_int (Kd.R_reads' HO_10.out).2.2 (ji78) p10001047 q10001047; obtain rfl : ad10001024 = ad10001047 := (by injection e10001047); replace p10001047 := eq_true p10001047; replace q10001047 := eq_true q10001047) | ((with_reducible refine gate_builtin (b := .append) (xs := #[.tmp 130, .tmp 138]) rfl ?_); at_builtin; refine Kd.R_append k55 (w0 := w) w.heap.size rfl (.tmp 130) (.tmp 138) 29 55 (.agg #[(.int .i64 0), (.int .i64 0)]) 16 rfl Try.underlying29 info55 rfl (by decide) (by omega) u13 x13_2 (⟨(rd t10001020 x53_2), rd t10001020 (ji78)⟩ : S55) [.int .i64 (rd t10001020 x53_2), .int .i64 (rd t10001020 (ji78))] (fun k_ => some k_ ≠ (.slice Ao15 t10001003.length co15 : Value).ownBlock ∧ some k_ ≠ (.slice Ao16 t10001006.length co16 : Value).ownBlock) (fun _ => False) rfl rfl ?aP (fun _ hk => hk.elim) ?aF ?aO ?aB ?aS ?aL ?_; (case aP => exact k55_mkM _ _ _ (⟨(rd t10001020 x53_2), rd t10001020 (ji78)⟩ : S55)); (case aB => exact (by repeat (first | exact HB.out | apply below_alloc | apply pw_below_drewN | apply below_drew1))); (case aF => exact (fun k_ hk => ⟨Kd.fresh' (Kd.R_lt (by (with_reducible repeat (first | apply Kd.R_alloc | apply Kd.R_drewN | apply Kd.R_drew)); exact HO_0.out)) k_ hk, Kd.fresh' (Kd.R_lt (by (with_reducible repeat (first | apply Kd.R_alloc | apply Kd.R_drewN | apply Kd.R_drew)); exact HO_1.out)) k_ hk⟩)); (case aO => exact (by (with_reducible repeat (first | apply Kd.R_alloc | apply Kd.R_drewN | apply Kd.R_drew)); exact HO_13.out)); (case aS => exact (below_size (by repeat (first | exact HB.out | apply below_alloc | apply pw_below_drewN | apply below_drew1)))); (case aL => have := LMc81.out; omega); intro v10001049 w82 ho hb hg hat; rw [← Ny10001048.out] at ho; have n0_ := Aside0.mk (Kd.R_after (ok := (fun k_ => some k_ ≠ (.slice Ao16 t10001006.length co16 : Value).ownBlock)) (by (with_reducible repeat (first | apply Kd.R_alloc | apply Kd.R_drewN | apply Kd.R_drew)); exact HO_0.out) hg hat); have n1_ := Aside0.mk (Kd.R_after (ok := (fun k_ => some k_ ≠ (.slice Ao15 t10001003.length co15 : Value).ownBlock)) (by (with_reducible repeat (first | apply Kd.R_alloc | apply Kd.R_drewN | apply Kd.R_drew)); exact HO_1.out) hg hat); have n2_ := Aside0.mk (Kd.R_over' (by (with_reducible repeat (first | apply Kd.R_alloc | apply Kd.R_drewN | apply Kd.R_drew)); exact HO_10.out) (Kd.R_typed (by (with_reducible repeat (first | apply Kd.R_alloc | apply Kd.R_drewN | apply Kd.R_drew)); exact HO_13.out)) (by decide) hg); have n3_ := Aside0.mk (Kd.R_over' (by (with_reducible repeat (first | apply Kd.R_alloc | apply Kd.R_drewN | apply Kd.R_drew)); exact HO_51.out) (Kd.R_typed (by (with_reducible repeat (first | apply Kd.R_alloc | apply Kd.R_drewN | apply Kd.R_drew)); exact HO_13.out)) (by decide) hg); have n4_ := Aside0.mk (hb); have n5_ := Aside0.mk (ho); clear HO_0; clear HO_1; clear HO_10; clear HO_51; clear HB; clear HO_13; have HO_0 := n0_; have HO_1 := n1_; have HO_10 := n2_; have HO_51 := n3_; have HB := n4_; have HO10001050 := n5_; clear n0_ n1_ n2_ n3_ n4_ n5_; clear ho hb hg hat))
                        repeat (go_quiet (first | ((with_reducible refine (HG.out false false true _ A76.out).mono ?_); rintro e w' ⟨rfl, ⟨nd, rfl⟩⟩; (try first | exact ⟨rfl, _, World.drewN_drewN _ _ _⟩ | exact ⟨rfl, _, Eq.trans (World.drewN_drewN _ _ _) (congrArg (World.drewN _) (Nat.add_assoc _ _ _))⟩); have p10001047 : 0 ≤ ((ji78) : Int) := of_decide_eq_true (by assumption); have q10001047 : (ji78) < (t10001020.length : Int) := of_decide_eq_true (by assumption); obtain ⟨ad10001047, e10001047, hx10001047_0⟩ := Kd.at_int (Kd.R_reads' HO_10.out).2.2 (ji78) p10001047 q10001047; obtain rfl : ad10001024 = ad10001047 := (by injection e10001047); replace p10001047 := eq_true p10001047; replace q10001047 := eq_true q10001047) | ((with_reducible refine gate_builtin (b := .append) (xs := #[.tmp 130, .tmp 138]) rfl ?_); at_builtin; refine Kd.R_append k55 (w0 := w) w.heap.size rfl (.tmp 130) (.tmp 138) 29 55 (.agg #[(.int .i64 0), (.int .i64 0)]) 16 rfl Try.underlying29 info55 rfl (by decide) (by omega) u13 x13_2 (⟨(rd t10001020 x53_2), rd t10001020 (ji78)⟩ : S55) [.int .i64 (rd t10001020 x53_2), .int .i64 (rd t10001020 (ji78))] (fun k_ => some k_ ≠ (.slice Ao15 t10001003.length co15 : Value).ownBlock ∧ some k_ ≠ (.slice Ao16 t10001006.length co16 : Value).ownBlock) (fun _ => False) rfl rfl ?aP (fun _ hk => hk.elim) ?aF ?aO ?aB ?aS ?aL ?_; (case aP => exact k55_mkM _ _ _ (⟨(rd t10001020 x53_2), rd t10001020 (ji78)⟩ : S55)); (case aB => exact (by repeat (first | exact HB.out | apply below_alloc | apply pw_below_drewN | apply below_drew1))); (case aF => exact (fun k_ hk => ⟨Kd.fresh' (Kd.R_lt (by (with_reducible repeat (first | apply Kd.R_alloc | apply Kd.R_drewN | apply Kd.R_drew)); exact HO_0.out)) k_ hk, Kd.fresh' (Kd.R_lt (by (with_reducible repeat (first | apply Kd.R_alloc | apply Kd.R_drewN | apply Kd.R_drew)); exact HO_1.out)) k_ hk⟩)); (case aO => exact (by (with_reducible repeat (first | apply Kd.R_alloc | apply Kd.R_drewN | apply Kd.R_drew)); exact HO_13.out)); (case aS => exact (below_size (by repeat (first | exact HB.out | apply below_alloc | apply pw_below_drewN | apply below_drew1)))); (case aL => have := LMc81.out; omega); intro v10001049 w82 ho hb hg hat; rw [← Ny10001048.out] at ho; have n0_ := Aside0.mk (Kd.R_after (ok := (fun k_ => some k_ ≠ (.slice Ao16 t10001006.length co16 : Value).ownBlock)) (by (with_reducible repeat (first | apply Kd.R_alloc | apply Kd.R_drewN | apply Kd.R_drew)); exact HO_0.out) hg hat); have n1_ := Aside0.mk (Kd.R_after (ok := (fun k_ => some k_ ≠ (.slice Ao15 t10001003.length co15 : Value).ownBlock)) (by (with_reducible repeat (first | apply Kd.R_alloc | apply Kd.R_drewN | apply Kd.R_drew)); exact HO_1.out) hg hat); have n2_ := Aside0.mk (Kd.R_over' (by (with_reducible repeat (first | apply Kd.R_alloc | apply Kd.R_drewN | apply Kd.R_drew)); exact HO_10.out) (Kd.R_typed (by (with_reducible repeat (first | apply Kd.R_alloc | apply Kd.R_drewN | apply Kd.R_drew)); exact HO_13.out)) (by decide) hg); have n3_ := Aside0.mk (Kd.R_over' (by (with_reducible repeat (first | apply Kd.R_alloc | apply Kd.R_drewN | apply Kd.R_drew)); exact HO_51.out) (Kd.R_typed (by (with_reducible repeat (first | apply Kd.R_alloc | apply Kd.R_drewN | apply Kd.R_drew)); exact HO_13.out)) (by decide) hg); have n4_ := Aside0.mk (hb); have n5_ := Aside0.mk (ho); clear HO_0; clear HO_1; clear HO_10; clear HO_51; clear HB; clear HO_13; have HO_0 := n0_; have HO_1 := n1_; have HO_10 := n2_; have HO_51 := n3_; have HB := n4_; have HO10001050 := n5_; clear n0_ n1_ n2_ n3_ n4_ n5_; clear ho hb hg hat)); try go_wp2_with (first | ((with_reducible refine (HG.out false false true _ A76.out).mono ?_); rintro e w' ⟨rfl, ⟨nd, rfl⟩⟩; (try first | exact ⟨rfl, _, World.drewN_drewN _ _ _⟩ | exact ⟨rfl, _, Eq.trans (World.drewN_drewN _ _ _) (congrArg (World.drewN _) (Nat.add_assoc _ _ _))⟩); have p10001047 : 0 ≤ ((ji78) : Int) := of_decide_eq_true (by assumption); have q10001047 : (ji78) < (t10001020.length : Int) := of_decide_eq_true (by assumption); obtain ⟨ad10001047, e10001047, hx10001047_0⟩ := Kd.at_int (Kd.R_reads' HO_10.out).2.2 (ji78) p10001047 q10001047; obtain rfl : ad10001024 = ad10001047 := (by injection e10001047); replace p10001047 := eq_true p10001047; replace q10001047 := eq_true q10001047) | ((with_reducible refine gate_builtin (b := .append) (xs := #[.tmp 130, .tmp 138]) rfl ?_); at_builtin; refine Kd.R_append k55 (w0 := w) w.heap.size rfl (.tmp 130) (.tmp 138) 29 55 (.agg #[(.int .i64 0), (.int .i64 0)]) 16 rfl Try.underlying29 info55 rfl (by decide) (by omega) u13 x13_2 (⟨(rd t10001020 x53_2), rd t10001020 (ji78)⟩ : S55) [.int .i64 (rd t10001020 x53_2), .int .i64 (rd t10001020 (ji78))] (fun k_ => some k_ ≠ (.slice Ao15 t10001003.length co15 : Value).ownBlock ∧ some k_ ≠ (.slice Ao16 t10001006.length co16 : Value).ownBlock) (fun _ => False) rfl rfl ?aP (fun _ hk => hk.elim) ?aF ?aO ?aB ?aS ?aL ?_; (case aP => exact k55_mkM _ _ _ (⟨(rd t10001020 x53_2), rd t10001020 (ji78)⟩ : S55)); (case aB => exact (by repeat (first | exact HB.out | apply below_alloc | apply pw_below_drewN | apply below_drew1))); (case aF => exact (fun k_ hk => ⟨Kd.fresh' (Kd.R_lt (by (with_reducible repeat (first | apply Kd.R_alloc | apply Kd.R_drewN | apply Kd.R_drew)); exact HO_0.out)) k_ hk, Kd.fresh' (Kd.R_lt (by (with_reducible repeat (first | apply Kd.R_alloc | apply Kd.R_drewN | apply Kd.R_drew)); exact HO_1.out)) k_ hk⟩)); (case aO => exact (by (with_reducible repeat (first | apply Kd.R_alloc | apply Kd.R_drewN | apply Kd.R_drew)); exact HO_13.out)); (case aS => exact (below_size (by repeat (first | exact HB.out | apply below_alloc | apply pw_below_drewN | apply below_drew1)))); (case aL => have := LMc81.out; omega); intro v10001049 w82 ho hb hg hat; rw [← Ny10001048.out] at ho; have n0_ := Aside0.mk (Kd.R_after (ok := (fun k_ => some k_ ≠ (.slice Ao16 t10001006.length co16 : Value).ownBlock)) (by (with_reducible repeat (first | apply Kd.R_alloc | apply Kd.R_drewN | apply Kd.R_drew)); exact HO_0.out) hg hat); have n1_ := Aside0.mk (Kd.R_after (ok := (fun k_ => some k_ ≠ (.slice Ao15 t10001003.length co15 : Value).ownBlock)) (by (with_reducible repeat (first | apply Kd.R_alloc | apply Kd.R_drewN | apply Kd.R_drew)); exact HO_1.out) hg hat); have n2_ := Aside0.mk (Kd.R_over' (by (with_reducible repeat (first | apply Kd.R_alloc | apply Kd.R_drewN | apply Kd.R_drew)); exact HO_10.out) (Kd.R_typed (by (with_reducible repeat (first | apply Kd.R_alloc | apply Kd.R_drewN | apply Kd.R_drew)); exact HO_13.out)) (by decide) hg); have n3_ := Aside0.mk (Kd.R_over' (by (with_reducible repeat (first | apply Kd.R_alloc | apply Kd.R_drewN | apply Kd.R_drew)); exact HO_51.out) (Kd.R_typed (by (with_reducible repeat (first | apply Kd.R_alloc | apply Kd.R_drewN | apply Kd.R_drew)); exact HO_13.out)) (by decide) hg); have n4_ := Aside0.mk (hb); have n5_ := Aside0.mk (ho); clear HO_0; clear HO_1; clear HO_10; clear HO_51; clear HB; clear HO_13; have HO_0 := n0_; have HO_1 := n1_; have HO_10 := n2_; have HO_51 := n3_; have HB := n4_; have HO10001050 := n5_; clear n0_ n1_ n2_ n3_ n4_ n5_; clear ho hb hg hat)))
                        (try simp only [← hl10_2, ← hl51_2])
                        go_roundg kj42
                        case measure => have := HK1.out; have := HK2.out; have := HJ34.out; have := HJ38.out; have := HJ42.out; omega
                        case rel => exact ⟨(y10001048), (x14_34), (x15_38), (ji78), (by first | rfl | (simp; done) | (simp [*]; done)), (by first | rfl | (simp; done) | (simp [*]; done)), (by first | rfl | (simp; done) | (simp only [← hji78] <;> (first | rfl | (simp; done))) | (simp [*]; done)), H', ⟨by have := HK1.out; have := HK2.out; have := HJ34.out; have := HJ38.out; have := HJ42.out; omega⟩, ⟨by (try simp only [hl10_2]); (try simp only [hl51_2]); exact HO_0.out⟩, ⟨by (try simp only [hl10_2]); (try simp only [hl51_2]); exact HO_1.out⟩, ⟨by (try simp only [hl10_2]); (try simp only [hl51_2]); exact HO_10.out⟩, ⟨by (try simp only [hl10_2]); (try simp only [hl51_2]); exact HO10001050.out⟩, ⟨by (try simp only [hl10_2]); (try simp only [hl51_2]); exact HO_51.out⟩, ⟨by repeat (first | exact HB.out | apply below_alloc | apply pw_below_drewN | apply below_drew1)⟩⟩
                       ·rw [if_neg c81] at H
                        exact absurd H (by simp)
                      ·rw [if_neg c80] at H
                       exact absurd H (by simp)
                     ·rw [if_neg c79] at H
                      exact absurd H (by simp)
                    ·replace c77 := Bool.eq_false_iff.mpr c77
                     subst c77
                     have H1 : (span_sets.l1 kf kj42 t10001003 t10001006 t10001020 x13_2 x14_34 x15_38 t10001020 (t10001020.length : Int) (wrap64 (x53_2 + 1))) = some (r1, r2) := by rw [if_neg (show ¬ (false = true) by decide)] at H; first | exact H | simpa using H
                     clear H
                     have H := H1
                     clear H1
                     have H' := Aside0.mk H
                     clear H
                     go_wp2_with (first | ((with_reducible refine (HG.out false false false _ A76.out).mono ?_); rintro e w' ⟨rfl, ⟨nd, rfl⟩⟩; (try first | exact ⟨rfl, _, World.drewN_drewN _ _ _⟩ | exact ⟨rfl, _, Eq.trans (World.drewN_drewN _ _ _) (congrArg (World.drewN _) (Nat.add_assoc _ _ _))⟩)))
                     repeat (go_quiet (first | ((with_reducible refine (HG.out false false false _ A76.out).mono ?_); rintro e w' ⟨rfl, ⟨nd, rfl⟩⟩; (try first | exact ⟨rfl, _, World.drewN_drewN _ _ _⟩ | exact ⟨rfl, _, Eq.trans (World.drewN_drewN _ _ _) (congrArg (World.drewN _) (Nat.add_assoc _ _ _))⟩))); try go_wp2_with (first | ((with_reducible refine (HG.out false false false _ A76.out).mono ?_); rintro e w' ⟨rfl, ⟨nd, rfl⟩⟩; (try first | exact ⟨rfl, _, World.drewN_drewN _ _ _⟩ | exact ⟨rfl, _, Eq.trans (World.drewN_drewN _ _ _) (congrArg (World.drewN _) (Nat.add_assoc _ _ _))⟩))))
                     (try simp only [← hl10_2, ← hl51_2])
                     go_roundg kj42
                     case measure => have := HK1.out; have := HK2.out; have := HJ34.out; have := HJ38.out; have := HJ42.out; omega
                     case rel => exact ⟨(x13_2), (x14_34), (x15_38), (wrap64 (x53_2 + 1)), (by first | rfl | (simp; done) | (simp [*]; done)), (by first | rfl | (simp; done) | (simp [*]; done)), (by first | rfl | (simp; done) | (simp [*]; done)), H', ⟨by have := HK1.out; have := HK2.out; have := HJ34.out; have := HJ38.out; have := HJ42.out; omega⟩, ⟨by (try simp only [hl10_2]); (try simp only [hl51_2]); exact HO_0.out⟩, ⟨by (try simp only [hl10_2]); (try simp only [hl51_2]); exact HO_1.out⟩, ⟨by (try simp only [hl10_2]); (try simp only [hl51_2]); exact HO_10.out⟩, ⟨by (try simp only [hl10_2]); (try simp only [hl51_2]); exact HO_13.out⟩, ⟨by (try simp only [hl10_2]); (try simp only [hl51_2]); exact HO_51.out⟩, ⟨by repeat (first | exact HB.out | apply below_alloc | apply pw_below_drewN | apply below_drew1)⟩⟩
          ·rw [if_neg c34] at H
           exact absurd H (by simp)
         ·rw [if_neg c33] at H
          exact absurd H (by simp)
        ·rw [if_neg c32] at H
         have c32b0 : decide (x53_2 < (t10001020.length : Int)) = false := decide_eq_false c32
         clear c32
         replace H := Option.bind_eq_some_iff.mp H
         obtain ⟨t10001021, A830, H⟩ := H
         replace H : (if (t10001021.length : Int) > 256 then (some (([] : List (S55)), 8)) else (some (t10001021, 0))) = some (r1, r2) := H
         have A83 := Aside0.mk A830
         clear A830
         by_cases c84 : (t10001021.length : Int) > 256
         ·rw [if_pos c84] at H
          have c84b0 : decide (256 < (t10001021.length : Int)) = true := decide_eq_true c84
          have c84b1 : decide (256 < t10001021.length) = true := decide_eq_true (by omega)
          clear c84
          simp only [Option.some.injEq, Prod.mk.injEq] at H
          obtain ⟨rfl, rfl⟩ := H
          obtain ⟨Ao85, co85, eo85⟩ := Kd.R_slice HO_13.out
          subst eo85
          go_wp2_with (first | (go_at_call 75; (with_reducible refine (span_joined.calls _ _ x13_2 t10001021 _ ?side1 ?side2 A83.out).mono ?_); (case side1 => exact (Kd.R_reads' HO_13.out).2.2); (case side2 => exact (Kd.R_reads' HO_13.out).2.1); rintro e w86 ⟨v10001022, rfl, ho0, hb⟩; have n0_ := Aside0.mk (Kd.R_elder' (HO_0.out) (Kd.R_base ho0) hb); have n1_ := Aside0.mk (Kd.R_elder' (HO_1.out) (Kd.R_base ho0) hb); have n2_ := Aside0.mk (Kd.R_below (HO_10.out) hb); have n3_ := Aside0.mk (Kd.R_elder' (HO_13.out) (Kd.R_base ho0) hb); have n4_ := Aside0.mk (Kd.R_below (HO_51.out) hb); have n5_ := Aside0.mk (Kd.R_lower (Kd.R_new' (Kd.R_new' (Kd.R_new' ho0 (Kd.R_lt (HO_0.out))) (Kd.R_lt (HO_1.out))) (Kd.R_lt (HO_13.out))) (below_size (by repeat (first | exact HB.out | apply below_alloc | apply pw_below_drewN | apply below_drew1)))); have n6_ := Aside0.mk (below_step (by repeat (first | exact HB.out | apply below_alloc | apply pw_below_drewN | apply below_drew1)) hb); clear HO_0; clear HO_1; clear HO_10; clear HO_13; clear HO_51; clear HB; have HO_0 := n0_; have HO_1 := n1_; have HO_10 := n2_; have HO_13 := n3_; have HO_51 := n4_; have HO10001023 := n5_; have HB := n6_; clear n0_ n1_ n2_ n3_ n4_ n5_ n6_; (try clear hb); (try clear hb2); (try clear hk); (try clear hi); (try clear ho0); obtain ⟨Ao87, co87, eo87⟩ := Kd.R_slice HO10001023.out; subst eo87))
          repeat (go_quiet (first | (go_at_call 75; (with_reducible refine (span_joined.calls _ _ x13_2 t10001021 _ ?side1 ?side2 A83.out).mono ?_); (case side1 => exact (Kd.R_reads' HO_13.out).2.2); (case side2 => exact (Kd.R_reads' HO_13.out).2.1); rintro e w86 ⟨v10001022, rfl, ho0, hb⟩; have n0_ := Aside0.mk (Kd.R_elder' (HO_0.out) (Kd.R_base ho0) hb); have n1_ := Aside0.mk (Kd.R_elder' (HO_1.out) (Kd.R_base ho0) hb); have n2_ := Aside0.mk (Kd.R_below (HO_10.out) hb); have n3_ := Aside0.mk (Kd.R_elder' (HO_13.out) (Kd.R_base ho0) hb); have n4_ := Aside0.mk (Kd.R_below (HO_51.out) hb); have n5_ := Aside0.mk (Kd.R_lower (Kd.R_new' (Kd.R_new' (Kd.R_new' ho0 (Kd.R_lt (HO_0.out))) (Kd.R_lt (HO_1.out))) (Kd.R_lt (HO_13.out))) (below_size (by repeat (first | exact HB.out | apply below_alloc | apply pw_below_drewN | apply below_drew1)))); have n6_ := Aside0.mk (below_step (by repeat (first | exact HB.out | apply below_alloc | apply pw_below_drewN | apply below_drew1)) hb); clear HO_0; clear HO_1; clear HO_10; clear HO_13; clear HO_51; clear HB; have HO_0 := n0_; have HO_1 := n1_; have HO_10 := n2_; have HO_13 := n3_; have HO_51 := n4_; have HO10001023 := n5_; have HB := n6_; clear n0_ n1_ n2_ n3_ n4_ n5_ n6_; (try clear hb); (try clear hb2); (try clear hk); (try clear hi); (try clear ho0); obtain ⟨Ao87, co87, eo87⟩ := Kd.R_slice HO10001023.out; subst eo87)); try go_wp2_with (first | (go_at_call 75; (with_reducible refine (span_joined.calls _ _ x13_2 t10001021 _ ?side1 ?side2 A83.out).mono ?_); (case side1 => exact (Kd.R_reads' HO_13.out).2.2); (case side2 => exact (Kd.R_reads' HO_13.out).2.1); rintro e w86 ⟨v10001022, rfl, ho0, hb⟩; have n0_ := Aside0.mk (Kd.R_elder' (HO_0.out) (Kd.R_base ho0) hb); have n1_ := Aside0.mk (Kd.R_elder' (HO_1.out) (Kd.R_base ho0) hb); have n2_ := Aside0.mk (Kd.R_below (HO_10.out) hb); have n3_ := Aside0.mk (Kd.R_elder' (HO_13.out) (Kd.R_base ho0) hb); have n4_ := Aside0.mk (Kd.R_below (HO_51.out) hb); have n5_ := Aside0.mk (Kd.R_lower (Kd.R_new' (Kd.R_new' (Kd.R_new' ho0 (Kd.R_lt (HO_0.out))) (Kd.R_lt (HO_1.out))) (Kd.R_lt (HO_13.out))) (below_size (by repeat (first | exact HB.out | apply below_alloc | apply pw_below_drewN | apply below_drew1)))); have n6_ := Aside0.mk (below_step (by repeat (first | exact HB.out | apply below_alloc | apply pw_below_drewN | apply below_drew1)) hb); clear HO_0; clear HO_1; clear HO_10; clear HO_13; clear HO_51; clear HB; have HO_0 := n0_; have HO_1 := n1_; have HO_10 := n2_; have HO_13 := n3_; have HO_51 := n4_; have HO10001023 := n5_; have HB := n6_; clear n0_ n1_ n2_ n3_ n4_ n5_ n6_; (try clear hb); (try clear hb2); (try clear hk); (try clear hi); (try clear ho0); obtain ⟨Ao87, co87, eo87⟩ := Kd.R_slice HO10001023.out; subst eo87)))
          go_ret2
          exact ⟨_, by first | rfl | (simp [errW_none, errW_some] <;> rfl) | (simp [*, errW_none, errW_some] <;> rfl), by first | exact Kd.R_nil _ _ _ _ _ | exact Kd.N_nil _ _ _ _ _ | exact Kd.V_nil _ _ _ _ _ | exact Kd.Q_nil _ _ _ _ _ | exact Kd.S_nil _ _ _ _ _, by repeat (first | exact HB.out | apply below_alloc | apply pw_below_drewN | apply below_drew1)⟩
         ·rw [if_neg c84] at H
          have c84b0 : decide (256 < (t10001021.length : Int)) = false := decide_eq_false c84
          have c84b1 : decide (256 < t10001021.length) = false := decide_eq_false (by omega)
          clear c84
          simp only [Option.some.injEq, Prod.mk.injEq] at H
          obtain ⟨rfl, rfl⟩ := H
          obtain ⟨Ao88, co88, eo88⟩ := Kd.R_slice HO_13.out
          subst eo88
          go_wp2_with (first | (go_at_call 75; (with_reducible refine (span_joined.calls _ _ x13_2 t10001021 _ ?side1 ?side2 A83.out).mono ?_); (case side1 => exact (Kd.R_reads' HO_13.out).2.2); (case side2 => exact (Kd.R_reads' HO_13.out).2.1); rintro e w89 ⟨v10001022, rfl, ho0, hb⟩; have n0_ := Aside0.mk (Kd.R_elder' (HO_0.out) (Kd.R_base ho0) hb); have n1_ := Aside0.mk (Kd.R_elder' (HO_1.out) (Kd.R_base ho0) hb); have n2_ := Aside0.mk (Kd.R_below (HO_10.out) hb); have n3_ := Aside0.mk (Kd.R_elder' (HO_13.out) (Kd.R_base ho0) hb); have n4_ := Aside0.mk (Kd.R_below (HO_51.out) hb); have n5_ := Aside0.mk (Kd.R_lower (Kd.R_new' (Kd.R_new' (Kd.R_new' ho0 (Kd.R_lt (HO_0.out))) (Kd.R_lt (HO_1.out))) (Kd.R_lt (HO_13.out))) (below_size (by repeat (first | exact HB.out | apply below_alloc | apply pw_below_drewN | apply below_drew1)))); have n6_ := Aside0.mk (below_step (by repeat (first | exact HB.out | apply below_alloc | apply pw_below_drewN | apply below_drew1)) hb); clear HO_0; clear HO_1; clear HO_10; clear HO_13; clear HO_51; clear HB; have HO_0 := n0_; have HO_1 := n1_; have HO_10 := n2_; have HO_13 := n3_; have HO_51 := n4_; have HO10001023 := n5_; have HB := n6_; clear n0_ n1_ n2_ n3_ n4_ n5_ n6_; (try clear hb); (try clear hb2); (try clear hk); (try clear hi); (try clear ho0); obtain ⟨Ao90, co90, eo90⟩ := Kd.R_slice HO10001023.out; subst eo90))
          repeat (go_quiet (first | (go_at_call 75; (with_reducible refine (span_joined.calls _ _ x13_2 t10001021 _ ?side1 ?side2 A83.out).mono ?_); (case side1 => exact (Kd.R_reads' HO_13.out).2.2); (case side2 => exact (Kd.R_reads' HO_13.out).2.1); rintro e w89 ⟨v10001022, rfl, ho0, hb⟩; have n0_ := Aside0.mk (Kd.R_elder' (HO_0.out) (Kd.R_base ho0) hb); have n1_ := Aside0.mk (Kd.R_elder' (HO_1.out) (Kd.R_base ho0) hb); have n2_ := Aside0.mk (Kd.R_below (HO_10.out) hb); have n3_ := Aside0.mk (Kd.R_elder' (HO_13.out) (Kd.R_base ho0) hb); have n4_ := Aside0.mk (Kd.R_below (HO_51.out) hb); have n5_ := Aside0.mk (Kd.R_lower (Kd.R_new' (Kd.R_new' (Kd.R_new' ho0 (Kd.R_lt (HO_0.out))) (Kd.R_lt (HO_1.out))) (Kd.R_lt (HO_13.out))) (below_size (by repeat (first | exact HB.out | apply below_alloc | apply pw_below_drewN | apply below_drew1)))); have n6_ := Aside0.mk (below_step (by repeat (first | exact HB.out | apply below_alloc | apply pw_below_drewN | apply below_drew1)) hb); clear HO_0; clear HO_1; clear HO_10; clear HO_13; clear HO_51; clear HB; have HO_0 := n0_; have HO_1 := n1_; have HO_10 := n2_; have HO_13 := n3_; have HO_51 := n4_; have HO10001023 := n5_; have HB := n6_; clear n0_ n1_ n2_ n3_ n4_ n5_ n6_; (try clear hb); (try clear hb2); (try clear hk); (try clear hi); (try clear ho0); obtain ⟨Ao90, co90, eo90⟩ := Kd.R_slice HO10001023.out; subst eo90)); try go_wp2_with (first | (go_at_call 75; (with_reducible refine (span_joined.calls _ _ x13_2 t10001021 _ ?side1 ?side2 A83.out).mono ?_); (case side1 => exact (Kd.R_reads' HO_13.out).2.2); (case side2 => exact (Kd.R_reads' HO_13.out).2.1); rintro e w89 ⟨v10001022, rfl, ho0, hb⟩; have n0_ := Aside0.mk (Kd.R_elder' (HO_0.out) (Kd.R_base ho0) hb); have n1_ := Aside0.mk (Kd.R_elder' (HO_1.out) (Kd.R_base ho0) hb); have n2_ := Aside0.mk (Kd.R_below (HO_10.out) hb); have n3_ := Aside0.mk (Kd.R_elder' (HO_13.out) (Kd.R_base ho0) hb); have n4_ := Aside0.mk (Kd.R_below (HO_51.out) hb); have n5_ := Aside0.mk (Kd.R_lower (Kd.R_new' (Kd.R_new' (Kd.R_new' ho0 (Kd.R_lt (HO_0.out))) (Kd.R_lt (HO_1.out))) (Kd.R_lt (HO_13.out))) (below_size (by repeat (first | exact HB.out | apply below_alloc | apply pw_below_drewN | apply below_drew1)))); have n6_ := Aside0.mk (below_step (by repeat (first | exact HB.out | apply below_alloc | apply pw_below_drewN | apply below_drew1)) hb); clear HO_0; clear HO_1; clear HO_10; clear HO_13; clear HO_51; clear HB; have HO_0 := n0_; have HO_1 := n1_; have HO_10 := n2_; have HO_13 := n3_; have HO_51 := n4_; have HO10001023 := n5_; have HB := n6_; clear n0_ n1_ n2_ n3_ n4_ n5_ n6_; (try clear hb); (try clear hb2); (try clear hk); (try clear hi); (try clear ho0); obtain ⟨Ao90, co90, eo90⟩ := Kd.R_slice HO10001023.out; subst eo90)))
          go_ret2
          exact ⟨_, by first | rfl | (simp [errW_none, errW_some] <;> rfl) | (simp [*, errW_none, errW_some] <;> rfl), by exact Kd.R_mono HO10001023.out (fun _ hk => trivial), by repeat (first | exact HB.out | apply below_alloc | apply pw_below_drewN | apply below_drew1)⟩
  ·rw [if_neg c7] at H
   have c7b0 : (t10001002 == 0) = false := beq_eq_false_iff_ne.mpr c7
   have c7b1 : (t10001002 != 0) = true := bne_iff_ne.mpr c7
   simp only [Option.some.injEq, Prod.mk.injEq] at H
   obtain ⟨rfl, rfl⟩ := H
   go_enter Try.func67, Try.ntmps67
   go_wp2_with (first | (go_at_call 74; (with_reducible refine (span_Check.calls k _ _ l0 t10001001 _ ?side1 ?side2 A4.out).mono ?_); (case side1 => exact HR0.out); (case side2 => exact HC0.out); rintro e w91 ⟨rfl, hb⟩; have n0_ := Aside0.mk (below_step (by repeat (first | exact HB.out | apply below_alloc | apply pw_below_drewN | apply below_drew1)) hb); clear HB; have HB := n0_; clear n0_; (try clear hb); (try clear hb2); (try clear hk); (try clear hi)) | (go_at_call 74; (with_reducible refine (span_Check.calls k _ _ l1 t10001002 _ ?side1 ?side2 A6.out).mono ?_); (case side1 => exact (Kd.C_below HR1.out HB.out)); (case side2 => exact HC1.out); rintro e w92 ⟨rfl, hb⟩; have n0_ := Aside0.mk (below_step (by repeat (first | exact HB.out | apply below_alloc | apply pw_below_drewN | apply below_drew1)) hb); clear HB; have HB := n0_; clear n0_; (try clear hb); (try clear hb2); (try clear hk); (try clear hi)))
   repeat (go_quiet (first | (go_at_call 74; (with_reducible refine (span_Check.calls k _ _ l0 t10001001 _ ?side1 ?side2 A4.out).mono ?_); (case side1 => exact HR0.out); (case side2 => exact HC0.out); rintro e w91 ⟨rfl, hb⟩; have n0_ := Aside0.mk (below_step (by repeat (first | exact HB.out | apply below_alloc | apply pw_below_drewN | apply below_drew1)) hb); clear HB; have HB := n0_; clear n0_; (try clear hb); (try clear hb2); (try clear hk); (try clear hi)) | (go_at_call 74; (with_reducible refine (span_Check.calls k _ _ l1 t10001002 _ ?side1 ?side2 A6.out).mono ?_); (case side1 => exact (Kd.C_below HR1.out HB.out)); (case side2 => exact HC1.out); rintro e w92 ⟨rfl, hb⟩; have n0_ := Aside0.mk (below_step (by repeat (first | exact HB.out | apply below_alloc | apply pw_below_drewN | apply below_drew1)) hb); clear HB; have HB := n0_; clear n0_; (try clear hb); (try clear hb2); (try clear hk); (try clear hi))); try go_wp2_with (first | (go_at_call 74; (with_reducible refine (span_Check.calls k _ _ l0 t10001001 _ ?side1 ?side2 A4.out).mono ?_); (case side1 => exact HR0.out); (case side2 => exact HC0.out); rintro e w91 ⟨rfl, hb⟩; have n0_ := Aside0.mk (below_step (by repeat (first | exact HB.out | apply below_alloc | apply pw_below_drewN | apply below_drew1)) hb); clear HB; have HB := n0_; clear n0_; (try clear hb); (try clear hb2); (try clear hk); (try clear hi)) | (go_at_call 74; (with_reducible refine (span_Check.calls k _ _ l1 t10001002 _ ?side1 ?side2 A6.out).mono ?_); (case side1 => exact (Kd.C_below HR1.out HB.out)); (case side2 => exact HC1.out); rintro e w92 ⟨rfl, hb⟩; have n0_ := Aside0.mk (below_step (by repeat (first | exact HB.out | apply below_alloc | apply pw_below_drewN | apply below_drew1)) hb); clear HB; have HB := n0_; clear n0_; (try clear hb); (try clear hb2); (try clear hk); (try clear hi))))
   go_ret2
   exact ⟨_, by first | rfl | (simp [errW_none, errW_some] <;> rfl) | (simp [*, errW_none, errW_some] <;> rfl), by first | exact Kd.R_nil _ _ _ _ _ | exact Kd.N_nil _ _ _ _ _ | exact Kd.V_nil _ _ _ _ _ | exact Kd.Q_nil _ _ _ _ _ | exact Kd.S_nil _ _ _ _ _, by repeat (first | exact HB.out | apply below_alloc | apply pw_below_drewN | apply below_drew1)⟩
 ·rw [if_neg c5] at H
  have c5b0 : (t10001001 == 0) = false := beq_eq_false_iff_ne.mpr c5
  have c5b1 : (t10001001 != 0) = true := bne_iff_ne.mpr c5
  simp only [Option.some.injEq, Prod.mk.injEq] at H
  obtain ⟨rfl, rfl⟩ := H
  go_enter Try.func67, Try.ntmps67
  go_wp2_with (first | (go_at_call 74; (with_reducible refine (span_Check.calls k _ _ l0 t10001001 _ ?side1 ?side2 A4.out).mono ?_); (case side1 => exact HR0.out); (case side2 => exact HC0.out); rintro e w93 ⟨rfl, hb⟩; have n0_ := Aside0.mk (below_step (by repeat (first | exact HB.out | apply below_alloc | apply pw_below_drewN | apply below_drew1)) hb); clear HB; have HB := n0_; clear n0_; (try clear hb); (try clear hb2); (try clear hk); (try clear hi)))
  repeat (go_quiet (first | (go_at_call 74; (with_reducible refine (span_Check.calls k _ _ l0 t10001001 _ ?side1 ?side2 A4.out).mono ?_); (case side1 => exact HR0.out); (case side2 => exact HC0.out); rintro e w93 ⟨rfl, hb⟩; have n0_ := Aside0.mk (below_step (by repeat (first | exact HB.out | apply below_alloc | apply pw_below_drewN | apply below_drew1)) hb); clear HB; have HB := n0_; clear n0_; (try clear hb); (try clear hb2); (try clear hk); (try clear hi))); try go_wp2_with (first | (go_at_call 74; (with_reducible refine (span_Check.calls k _ _ l0 t10001001 _ ?side1 ?side2 A4.out).mono ?_); (case side1 => exact HR0.out); (case side2 => exact HC0.out); rintro e w93 ⟨rfl, hb⟩; have n0_ := Aside0.mk (below_step (by repeat (first | exact HB.out | apply below_alloc | apply pw_below_drewN | apply below_drew1)) hb); clear HB; have HB := n0_; clear n0_; (try clear hb); (try clear hb2); (try clear hk); (try clear hi))))
  go_ret2
  exact ⟨_, by first | rfl | (simp [errW_none, errW_some] <;> rfl) | (simp [*, errW_none, errW_some] <;> rfl), by first | exact Kd.R_nil _ _ _ _ _ | exact Kd.N_nil _ _ _ _ _ | exact Kd.V_nil _ _ _ _ _ | exact Kd.Q_nil _ _ _ _ _ | exact Kd.S_nil _ _ _ _ _, by repeat (first | exact HB.out | apply below_alloc | apply pw_below_drewN | apply below_drew1)⟩

end Go.Proofs.Ytalpegglbfobiaa.G
