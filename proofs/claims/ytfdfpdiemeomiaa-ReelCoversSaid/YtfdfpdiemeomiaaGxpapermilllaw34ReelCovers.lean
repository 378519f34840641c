-- Printed by drive.py, this session's program over the kit's print.py. Not trusted: Lean checks it.
import Derived.Test.YtfdfpdiemeomiaaGx0
import Derived.Test.YtfdfpdiemeomiaaGxreelLost
import Derived.Test.YtfdfpdiemeomiaaGhawake34
import Derived.Test.YtfdfpdiemeomiaaGhreelCut
namespace Go.Proofs.Ytfdfpdiemeomiaa.G
open Go.RowKit Go.Proofs.YtfdfpdiemeomiaaW.PrintWords Go.Proofs.YtfdfpdiemeomiaaW.PrintLast Go.Proofs.YtfdfpdiemeomiaaW.PrintMore
attribute [local go_sem] max2_int min2_int max_two min_two max_three min_three max_four min_four   -- for this text's walks alone
set_option linter.unusedVariables false
set_option linter.unusedSimpArgs false

/-! ### papermilllaw34_ReelCovers: function 6 -/
mutual
def papermilllaw34_ReelCovers.j0 : Nat → List (S44) → List Int → Int → Bool → Option (Bool)
  | 0, _, _, _, _ => none
  | k + 1, x0, x1, x2, x29 => if x29 = true then ((papermilllaw34_awake.f).bind fun t7001 => (some t7001)) else ((reel_Cut.f k x0 x1 x2).bind fun bt7002 => (if bt7002.2.2 = 0 then ((reel_Lost.f k x0).bind fun bt7010 => (if bt7010.2 = 0 then (papermilllaw34_ReelCovers.j1 k x0 x2 bt7002.1 bt7002.2.1 bt7010.1 (decide ((wrap64 ((wrap64 ((bt7002.1.length : Int) + (bt7002.2.1.length : Int))) + (bt7010.1.length : Int))) > 400))) else (papermilllaw34_ReelCovers.j1 k x0 x2 bt7002.1 bt7002.2.1 bt7010.1 true))) else (if (bt7002.1.length : Int) = 0 then (if (bt7002.2.1.length : Int) = 0 then ((papermilllaw34_awake.f).bind fun t7009 => (some t7009)) else (some false)) else (some false))))
def papermilllaw34_ReelCovers.j1 : Nat → List (S44) → Int → List (S36) → List (S36) → List (S36) → Bool → Option (Bool)
  | 0, _, _, _, _, _, _ => none
  | k + 1, x0, x2, x7, x8, x10, x69 => if x69 = true then (some false) else (if (x0.length : Int) > 0 then (if 0 ≤ (wrap64 ((x0.length : Int) - 1)) then (if (wrap64 ((x0.length : Int) - 1)) < (x0.length : Int) then (papermilllaw34_ReelCovers.j2 k x2 x7 x8 x10 ((rd_T44 x0 (wrap64 ((x0.length : Int) - 1))).f1)) else (none)) else (none)) else (papermilllaw34_ReelCovers.j2 k x2 x7 x8 x10 0))
def papermilllaw34_ReelCovers.j2 : Nat → Int → List (S36) → List (S36) → List (S36) → Int → Option (Bool)
  | 0, _, _, _, _, _ => none
  | k + 1, x2, x7, x8, x10, x12 => papermilllaw34_ReelCovers.l0 k x2 x7 x8 x10 x12 0 0
def papermilllaw34_ReelCovers.l0 : Nat → Int → List (S36) → List (S36) → List (S36) → Int → Int → Int → Option (Bool)
  | 0, _, _, _, _, _, _, _ => none
  | k + 1, x2, x7, x8, x10, x12, x13, x14 => if x14 < (x7.length : Int) then (if 0 ≤ x14 then (if ((rd_T36 x7 x14).f0) < 0 then (some false) else (if ((rd_T36 x7 x14).f1) > x12 then (some false) else (if (wrap64 (((rd_T36 x7 x14).f1) - ((rd_T36 x7 x14).f0))) < x2 then (some false) else (if x14 > 0 then (if 0 ≤ (wrap64 (x14 - 1)) then (if (wrap64 (x14 - 1)) < (x7.length : Int) then (if ((rd_T36 x7 x14).f0) < ((rd_T36 x7 (wrap64 (x14 - 1))).f1) then (some false) else (papermilllaw34_ReelCovers.l0 k x2 x7 x8 x10 x12 (wrap64 ((wrap64 (x13 + ((rd_T36 x7 x14).f1))) - ((rd_T36 x7 x14).f0))) (wrap64 (x14 + 1)))) else (none)) else (none)) else (papermilllaw34_ReelCovers.l0 k x2 x7 x8 x10 x12 (wrap64 ((wrap64 (x13 + ((rd_T36 x7 x14).f1))) - ((rd_T36 x7 x14).f0))) (wrap64 (x14 + 1))))))) else (none)) else (papermilllaw34_ReelCovers.l1 k x2 x7 x8 x10 x12 x13 0)
def papermilllaw34_ReelCovers.l1 : Nat → Int → List (S36) → List (S36) → List (S36) → Int → Int → Int → Option (Bool)
  | 0, _, _, _, _, _, _, _ => none
  | k + 1, x2, x7, x8, x10, x12, x13, x15 => if x15 < (x8.length : Int) then (if 0 ≤ x15 then (if ((rd_T36 x8 x15).f0) < 0 then (some false) else (if ((rd_T36 x8 x15).f1) > x12 then (some false) else (if (wrap64 (((rd_T36 x8 x15).f1) - ((rd_T36 x8 x15).f0))) < 1 then (some false) else (if (wrap64 (((rd_T36 x8 x15).f1) - ((rd_T36 x8 x15).f0))) ≥ x2 then (some false) else (if x15 > 0 then (if 0 ≤ (wrap64 (x15 - 1)) then (if (wrap64 (x15 - 1)) < (x8.length : Int) then (if ((rd_T36 x8 x15).f0) < ((rd_T36 x8 (wrap64 (x15 - 1))).f1) then (some false) else (papermilllaw34_ReelCovers.l1 k x2 x7 x8 x10 x12 (wrap64 (x13 + (wrap64 (((rd_T36 x8 x15).f1) - ((rd_T36 x8 x15).f0))))) (wrap64 (x15 + 1)))) else (none)) else (none)) else (papermilllaw34_ReelCovers.l1 k x2 x7 x8 x10 x12 (wrap64 (x13 + (wrap64 (((rd_T36 x8 x15).f1) - ((rd_T36 x8 x15).f0))))) (wrap64 (x15 + 1)))))))) else (none)) else (papermilllaw34_ReelCovers.l2 k x7 x8 x10 x12 x13 0)
def papermilllaw34_ReelCovers.l2 : Nat → List (S36) → List (S36) → List (S36) → Int → Int → Int → Option (Bool)
  | 0, _, _, _, _, _, _ => none
  | k + 1, x7, x8, x10, x12, x13, x17 => if x17 < (x10.length : Int) then (if 0 ≤ x17 then (if ((rd_T36 x10 x17).f0) < 0 then (some false) else (if ((rd_T36 x10 x17).f1) > x12 then (some false) else (if ((rd_T36 x10 x17).f0) ≥ ((rd_T36 x10 x17).f1) then (some false) else (papermilllaw34_ReelCovers.l2 k x7 x8 x10 x12 (wrap64 ((wrap64 (x13 + ((rd_T36 x10 x17).f1))) - ((rd_T36 x10 x17).f0))) (wrap64 (x17 + 1)))))) else (none)) else ((some (([] : List (S36)) : List (S36))).bind fun y7037 => (if y7037.length + x7.length < 8796093022208 then ((some (y7037 ++ x7 : List (S36))).bind fun y7040 => (if y7040.length + x8.length < 8796093022208 then ((some (y7040 ++ x8 : List (S36))).bind fun y7043 => (if y7043.length + x10.length < 8796093022208 then (papermilllaw34_ReelCovers.l3 k x12 x13 (y7043 ++ x10) 0 0) else (none))) else (none))) else (none)))
def papermilllaw34_ReelCovers.l3 : Nat → Int → Int → List (S36) → Int → Int → Option (Bool)
  | 0, _, _, _, _, _ => none
  | k + 1, x12, x13, x18, x19, x20 => if x20 < (x18.length : Int) then (papermilllaw34_ReelCovers.l4 k x12 x13 x18 x19 x20 0) else (if x13 = x12 then (if x19 = x12 then ((papermilllaw34_awake.f).bind fun t7049 => (some t7049)) else (some false)) else (some false))
def papermilllaw34_ReelCovers.l4 : Nat → Int → Int → List (S36) → Int → Int → Int → Option (Bool)
  | 0, _, _, _, _, _, _ => none
  | k + 1, x12, x13, x18, x19, x20, x21 => if x21 < x20 then (if 0 ≤ x20 then (if x20 < (x18.length : Int) then (if 0 ≤ x21 then (if x21 < (x18.length : Int) then (if ((rd_T36 x18 x20).f0) < ((rd_T36 x18 x21).f1) then (if ((rd_T36 x18 x21).f0) < ((rd_T36 x18 x20).f1) then (some false) else (papermilllaw34_ReelCovers.l4 k x12 x13 x18 x19 x20 (wrap64 (x21 + 1)))) else (papermilllaw34_ReelCovers.l4 k x12 x13 x18 x19 x20 (wrap64 (x21 + 1)))) else (none)) else (none)) else (none)) else (none)) else (if 0 ≤ x20 then (if x20 < (x18.length : Int) then (papermilllaw34_ReelCovers.l3 k x12 x13 x18 (wrap64 ((wrap64 (x19 + ((rd_T36 x18 x20).f1))) - ((rd_T36 x18 x20).f0))) (wrap64 (x20 + 1))) else (none)) else (none))
end
def papermilllaw34_ReelCovers.f (k : Nat) (l0 : List (S44)) (l1 : List Int) (a2 : Int) : Option (Bool) := if (l0.length : Int) > 100 then (papermilllaw34_ReelCovers.j0 k l0 l1 a2 true) else (papermilllaw34_ReelCovers.j0 k l0 l1 a2 (decide ((l1.length : Int) > 100)))
theorem papermilllaw34_ReelCovers.mono_l : ∀ k, (∀ y0 y1 y2 y3, LeO (papermilllaw34_ReelCovers.j0 k y0 y1 y2 y3) (papermilllaw34_ReelCovers.j0 (k + 1) y0 y1 y2 y3)) ∧ (∀ y0 y1 y2 y3 y4 y5, LeO (papermilllaw34_ReelCovers.j1 k y0 y1 y2 y3 y4 y5) (papermilllaw34_ReelCovers.j1 (k + 1) y0 y1 y2 y3 y4 y5)) ∧ (∀ y0 y1 y2 y3 y4, LeO (papermilllaw34_ReelCovers.j2 k y0 y1 y2 y3 y4) (papermilllaw34_ReelCovers.j2 (k + 1) y0 y1 y2 y3 y4)) ∧ (∀ y0 y1 y2 y3 y4 y5 y6, LeO (papermilllaw34_ReelCovers.l0 k y0 y1 y2 y3 y4 y5 y6) (papermilllaw34_ReelCovers.l0 (k + 1) y0 y1 y2 y3 y4 y5 y6)) ∧ (∀ y0 y1 y2 y3 y4 y5 y6, LeO (papermilllaw34_ReelCovers.l1 k y0 y1 y2 y3 y4 y5 y6) (papermilllaw34_ReelCovers.l1 (k + 1) y0 y1 y2 y3 y4 y5 y6)) ∧ (∀ y0 y1 y2 y3 y4 y5, LeO (papermilllaw34_ReelCovers.l2 k y0 y1 y2 y3 y4 y5) (papermilllaw34_ReelCovers.l2 (k + 1) y0 y1 y2 y3 y4 y5)) ∧ (∀ y0 y1 y2 y3 y4, LeO (papermilllaw34_ReelCovers.l3 k y0 y1 y2 y3 y4) (papermilllaw34_ReelCovers.l3 (k + 1) y0 y1 y2 y3 y4)) ∧ (∀ y0 y1 y2 y3 y4 y5, LeO (papermilllaw34_ReelCovers.l4 k y0 y1 y2 y3 y4 y5) (papermilllaw34_ReelCovers.l4 (k + 1) y0 y1 y2 y3 y4 y5))
  | 0 => ⟨fun _ _ _ _ r h => by simp [papermilllaw34_ReelCovers.j0] at h, fun _ _ _ _ _ _ r h => by simp [papermilllaw34_ReelCovers.j1] at h, fun _ _ _ _ _ r h => by simp [papermilllaw34_ReelCovers.j2] at h, fun _ _ _ _ _ _ _ r h => by simp [papermilllaw34_ReelCovers.l0] at h, fun _ _ _ _ _ _ _ r h => by simp [papermilllaw34_ReelCovers.l1] at h, fun _ _ _ _ _ _ r h => by simp [papermilllaw34_ReelCovers.l2] at h, fun _ _ _ _ _ r h => by simp [papermilllaw34_ReelCovers.l3] at h, fun _ _ _ _ _ _ r h => by simp [papermilllaw34_ReelCovers.l4] at h⟩
  | k + 1 => by
    obtain ⟨ih0, ih1, ih2, ih3, ih4, ih5, ih6, ih7⟩ := papermilllaw34_ReelCovers.mono_l k
    refine ⟨?_, ?_, ?_, ?_, ?_, ?_, ?_, ?_⟩
    · intro y0 y1 y2 y3
      unfold papermilllaw34_ReelCovers.j0
      repeat' first
      | (with_reducible exact ih0 _ _ _ _)
      | (with_reducible exact ih1 _ _ _ _ _ _)
      | (with_reducible exact ih2 _ _ _ _ _)
      | (with_reducible exact ih3 _ _ _ _ _ _ _)
      | (with_reducible exact ih4 _ _ _ _ _ _ _)
      | (with_reducible exact ih5 _ _ _ _ _ _)
      | (with_reducible exact ih6 _ _ _ _ _)
      | (with_reducible exact ih7 _ _ _ _ _ _)
      | (with_reducible exact reel_Cut.mono _ _ _ _)
      | (with_reducible exact reel_Lost.mono _ _)
      | (with_reducible exact LeO.refl _)
      | (with_reducible exact LeO.none _)
      | (with_reducible refine LeO.ite ?_ ?_)
      | (with_reducible refine LeO.bind ?_ (fun _ => ?_))
      | exact ih0 _ _ _ _
      | exact ih1 _ _ _ _ _ _
      | exact ih2 _ _ _ _ _
      | exact ih3 _ _ _ _ _ _ _
      | exact ih4 _ _ _ _ _ _ _
      | exact ih5 _ _ _ _ _ _
      | exact ih6 _ _ _ _ _
      | exact ih7 _ _ _ _ _ _
      | exact reel_Cut.mono _ _ _ _
      | exact reel_Lost.mono _ _
      | exact LeO.none _
      | refine LeO.ite ?_ ?_
      | refine LeO.bind ?_ (fun _ => ?_)
    · intro y0 y1 y2 y3 y4 y5
      unfold papermilllaw34_ReelCovers.j1
      repeat' first
      | (with_reducible exact ih0 _ _ _ _)
      | (with_reducible exact ih1 _ _ _ _ _ _)
      | (with_reducible exact ih2 _ _ _ _ _)
      | (with_reducible exact ih3 _ _ _ _ _ _ _)
      | (with_reducible exact ih4 _ _ _ _ _ _ _)
      | (with_reducible exact ih5 _ _ _ _ _ _)
      | (with_reducible exact ih6 _ _ _ _ _)
      | (with_reducible exact ih7 _ _ _ _ _ _)
      | (with_reducible exact reel_Cut.mono _ _ _ _)
      | (with_reducible exact reel_Lost.mono _ _)
      | (with_reducible exact LeO.refl _)
      | (with_reducible exact LeO.none _)
      | (with_reducible refine LeO.ite ?_ ?_)
      | (with_reducible refine LeO.bind ?_ (fun _ => ?_))
      | exact ih0 _ _ _ _
      | exact ih1 _ _ _ _ _ _
      | exact ih2 _ _ _ _ _
      | exact ih3 _ _ _ _ _ _ _
      | exact ih4 _ _ _ _ _ _ _
      | exact ih5 _ _ _ _ _ _
      | exact ih6 _ _ _ _ _
      | exact ih7 _ _ _ _ _ _
      | exact reel_Cut.mono _ _ _ _
      | exact reel_Lost.mono _ _
      | exact LeO.none _
      | refine LeO.ite ?_ ?_
      | refine LeO.bind ?_ (fun _ => ?_)
    · intro y0 y1 y2 y3 y4
      unfold papermilllaw34_ReelCovers.j2
      repeat' first
      | (with_reducible exact ih0 _ _ _ _)
      | (with_reducible exact ih1 _ _ _ _ _ _)
      | (with_reducible exact ih2 _ _ _ _ _)
      | (with_reducible exact ih3 _ _ _ _ _ _ _)
      | (with_reducible exact ih4 _ _ _ _ _ _ _)
      | (with_reducible exact ih5 _ _ _ _ _ _)
      | (with_reducible exact ih6 _ _ _ _ _)
      | (with_reducible exact ih7 _ _ _ _ _ _)
      | (with_reducible exact reel_Cut.mono _ _ _ _)
      | (with_reducible exact reel_Lost.mono _ _)
      | (with_reducible exact LeO.refl _)
      | (with_reducible exact LeO.none _)
      | (with_reducible refine LeO.ite ?_ ?_)
      | (with_reducible refine LeO.bind ?_ (fun _ => ?_))
      | exact ih0 _ _ _ _
      | exact ih1 _ _ _ _ _ _
      | exact ih2 _ _ _ _ _
      | exact ih3 _ _ _ _ _ _ _
      | exact ih4 _ _ _ _ _ _ _
      | exact ih5 _ _ _ _ _ _
      | exact ih6 _ _ _ _ _
      | exact ih7 _ _ _ _ _ _
      | exact reel_Cut.mono _ _ _ _
      | exact reel_Lost.mono _ _
      | exact LeO.none _
      | refine LeO.ite ?_ ?_
      | refine LeO.bind ?_ (fun _ => ?_)
    · intro y0 y1 y2 y3 y4 y5 y6
      unfold papermilllaw34_ReelCovers.l0
      repeat' first
      | (with_reducible exact ih0 _ _ _ _)
      | (with_reducible exact ih1 _ _ _ _ _ _)
      | (with_reducible exact ih2 _ _ _ _ _)
      | (with_reducible exact ih3 _ _ _ _ _ _ _)
      | (with_reducible exact ih4 _ _ _ _ _ _ _)
      | (with_reducible exact ih5 _ _ _ _ _ _)
      | (with_reducible exact ih6 _ _ _ _ _)
      | (with_reducible exact ih7 _ _ _ _ _ _)
      | (with_reducible exact reel_Cut.mono _ _ _ _)
      | (with_reducible exact reel_Lost.mono _ _)
      | (with_reducible exact LeO.refl _)
      | (with_reducible exact LeO.none _)
      | (with_reducible refine LeO.ite ?_ ?_)
      | (with_reducible refine LeO.bind ?_ (fun _ => ?_))
      | exact ih0 _ _ _ _
      | exact ih1 _ _ _ _ _ _
      | exact ih2 _ _ _ _ _
      | exact ih3 _ _ _ _ _ _ _
      | exact ih4 _ _ _ _ _ _ _
      | exact ih5 _ _ _ _ _ _
      | exact ih6 _ _ _ _ _
      | exact ih7 _ _ _ _ _ _
      | exact reel_Cut.mono _ _ _ _
      | exact reel_Lost.mono _ _
      | exact LeO.none _
      | refine LeO.ite ?_ ?_
      | refine LeO.bind ?_ (fun _ => ?_)
    · intro y0 y1 y2 y3 y4 y5 y6
      unfold papermilllaw34_ReelCovers.l1
      repeat' first
      | (with_reducible exact ih0 _ _ _ _)
      | (with_reducible exact ih1 _ _ _ _ _ _)
      | (with_reducible exact ih2 _ _ _ _ _)
      | (with_reducible exact ih3 _ _ _ _ _ _ _)
      | (with_reducible exact ih4 _ _ _ _ _ _ _)
      | (with_reducible exact ih5 _ _ _ _ _ _)
      | (with_reducible exact ih6 _ _ _ _ _)
      | (with_reducible exact ih7 _ _ _ _ _ _)
      | (with_reducible exact reel_Cut.mono _ _ _ _)
      | (with_reducible exact reel_Lost.mono _ _)
      | (with_reducible exact LeO.refl _)
      | (with_reducible exact LeO.none _)
      | (with_reducible refine LeO.ite ?_ ?_)
      | (with_reducible refine LeO.bind ?_ (fun _ => ?_))
      | exact ih0 _ _ _ _
      | exact ih1 _ _ _ _ _ _
      | exact ih2 _ _ _ _ _
      | exact ih3 _ _ _ _ _ _ _
      | exact ih4 _ _ _ _ _ _ _
      | exact ih5 _ _ _ _ _ _
      | exact ih6 _ _ _ _ _
      | exact ih7 _ _ _ _ _ _
      | exact reel_Cut.mono _ _ _ _
      | exact reel_Lost.mono _ _
      | exact LeO.none _
      | refine LeO.ite ?_ ?_
      | refine LeO.bind ?_ (fun _ => ?_)
    · intro y0 y1 y2 y3 y4 y5
      unfold papermilllaw34_ReelCovers.l2
      repeat' first
      | (with_reducible exact ih0 _ _ _ _)
      | (with_reducible exact ih1 _ _ _ _ _ _)
      | (with_reducible exact ih2 _ _ _ _ _)
      | (with_reducible exact ih3 _ _ _ _ _ _ _)
      | (with_reducible exact ih4 _ _ _ _ _ _ _)
      | (with_reducible exact ih5 _ _ _ _ _ _)
      | (with_reducible exact ih6 _ _ _ _ _)
      | (with_reducible exact ih7 _ _ _ _ _ _)
      | (with_reducible exact reel_Cut.mono _ _ _ _)
      | (with_reducible exact reel_Lost.mono _ _)
      | (with_reducible exact LeO.refl _)
      | (with_reducible exact LeO.none _)
      | (with_reducible refine LeO.ite ?_ ?_)
      | (with_reducible refine LeO.bind ?_ (fun _ => ?_))
      | exact ih0 _ _ _ _
      | exact ih1 _ _ _ _ _ _
      | exact ih2 _ _ _ _ _
      | exact ih3 _ _ _ _ _ _ _
      | exact ih4 _ _ _ _ _ _ _
      | exact ih5 _ _ _ _ _ _
      | exact ih6 _ _ _ _ _
      | exact ih7 _ _ _ _ _ _
      | exact reel_Cut.mono _ _ _ _
      | exact reel_Lost.mono _ _
      | exact LeO.none _
      | refine LeO.ite ?_ ?_
      | refine LeO.bind ?_ (fun _ => ?_)
    · intro y0 y1 y2 y3 y4
      unfold papermilllaw34_ReelCovers.l3
      repeat' first
      | (with_reducible exact ih0 _ _ _ _)
      | (with_reducible exact ih1 _ _ _ _ _ _)
      | (with_reducible exact ih2 _ _ _ _ _)
      | (with_reducible exact ih3 _ _ _ _ _ _ _)
      | (with_reducible exact ih4 _ _ _ _ _ _ _)
      | (with_reducible exact ih5 _ _ _ _ _ _)
      | (with_reducible exact ih6 _ _ _ _ _)
      | (with_reducible exact ih7 _ _ _ _ _ _)
      | (with_reducible exact reel_Cut.mono _ _ _ _)
      | (with_reducible exact reel_Lost.mono _ _)
      | (with_reducible exact LeO.refl _)
      | (with_reducible exact LeO.none _)
      | (with_reducible refine LeO.ite ?_ ?_)
      | (with_reducible refine LeO.bind ?_ (fun _ => ?_))
      | exact ih0 _ _ _ _
      | exact ih1 _ _ _ _ _ _
      | exact ih2 _ _ _ _ _
      | exact ih3 _ _ _ _ _ _ _
      | exact ih4 _ _ _ _ _ _ _
      | exact ih5 _ _ _ _ _ _
      | exact ih6 _ _ _ _ _
      | exact ih7 _ _ _ _ _ _
      | exact reel_Cut.mono _ _ _ _
      | exact reel_Lost.mono _ _
      | exact LeO.none _
      | refine LeO.ite ?_ ?_
      | refine LeO.bind ?_ (fun _ => ?_)
    · intro y0 y1 y2 y3 y4 y5
      unfold papermilllaw34_ReelCovers.l4
      repeat' first
      | (with_reducible exact ih0 _ _ _ _)
      | (with_reducible exact ih1 _ _ _ _ _ _)
      | (with_reducible exact ih2 _ _ _ _ _)
      | (with_reducible exact ih3 _ _ _ _ _ _ _)
      | (with_reducible exact ih4 _ _ _ _ _ _ _)
      | (with_reducible exact ih5 _ _ _ _ _ _)
      | (with_reducible exact ih6 _ _ _ _ _)
      | (with_reducible exact ih7 _ _ _ _ _ _)
      | (with_reducible exact reel_Cut.mono _ _ _ _)
      | (with_reducible exact reel_Lost.mono _ _)
      | (with_reducible exact LeO.refl _)
      | (with_reducible exact LeO.none _)
      | (with_reducible refine LeO.ite ?_ ?_)
      | (with_reducible refine LeO.bind ?_ (fun _ => ?_))
      | exact ih0 _ _ _ _
      | exact ih1 _ _ _ _ _ _
      | exact ih2 _ _ _ _ _
      | exact ih3 _ _ _ _ _ _ _
      | exact ih4 _ _ _ _ _ _ _
      | exact ih5 _ _ _ _ _ _
      | exact ih6 _ _ _ _ _
      | exact ih7 _ _ _ _ _ _
      | exact reel_Cut.mono _ _ _ _
      | exact reel_Lost.mono _ _
      | exact LeO.none _
      | refine LeO.ite ?_ ?_
      | refine LeO.bind ?_ (fun _ => ?_)
theorem papermilllaw34_ReelCovers.mono : ∀ a0 a1 a2 k, LeO (papermilllaw34_ReelCovers.f k a0 a1 a2) (papermilllaw34_ReelCovers.f (k + 1) a0 a1 a2) := by
  intro a0 a1 a2 k
  obtain ⟨ih0, ih1, ih2, ih3, ih4, ih5, ih6, ih7⟩ := papermilllaw34_ReelCovers.mono_l k
  unfold papermilllaw34_ReelCovers.f
  repeat' first
      | (with_reducible exact ih0 _ _ _ _)
      | (with_reducible exact ih1 _ _ _ _ _ _)
      | (with_reducible exact ih2 _ _ _ _ _)
      | (with_reducible exact ih3 _ _ _ _ _ _ _)
      | (with_reducible exact ih4 _ _ _ _ _ _ _)
      | (with_reducible exact ih5 _ _ _ _ _ _)
      | (with_reducible exact ih6 _ _ _ _ _)
      | (with_reducible exact ih7 _ _ _ _ _ _)
      | (with_reducible exact reel_Cut.mono _ _ _ _)
      | (with_reducible exact reel_Lost.mono _ _)
      | (with_reducible exact LeO.refl _)
      | (with_reducible exact LeO.none _)
      | (with_reducible refine LeO.ite ?_ ?_)
      | (with_reducible refine LeO.bind ?_ (fun _ => ?_))
      | exact ih0 _ _ _ _
      | exact ih1 _ _ _ _ _ _
      | exact ih2 _ _ _ _ _
      | exact ih3 _ _ _ _ _ _ _
      | exact ih4 _ _ _ _ _ _ _
      | exact ih5 _ _ _ _ _ _
      | exact ih6 _ _ _ _ _
      | exact ih7 _ _ _ _ _ _
      | exact reel_Cut.mono _ _ _ _
      | exact reel_Lost.mono _ _
      | exact LeO.none _
      | refine LeO.ite ?_ ?_
      | refine LeO.bind ?_ (fun _ => ?_)
set_option maxHeartbeats 8000000 in
set_option maxRecDepth 100000 in
theorem papermilllaw34_ReelCovers.calls (k : Nat) (A0 : Option Addr) (c0 : Nat) (l0 : List (S44)) (A1 : Option Addr) (c1 : Nat) (l1 : List Int) (a2 : Int) (r : Bool) (w : World) (hr0 : Kd.C k44 w A0 l0.length l0) (hc0 : l0.length ≤ c0) (hr1 : Kd.C (Kd.int .i64) w A1 l1.length l1) (hc1 : l1.length ≤ c1) (h : papermilllaw34_ReelCovers.f k l0 l1 a2 = some r) :
    Calls Try.prog 6 #[.slice A0 l0.length c0, .slice A1 l1.length c1, .int .i64 a2] w fun e w' => e = .returned (.bool r) ∧ Below w.heap.size w w' := by
  have HR0 := Aside0.mk hr0
  have HC0 := Aside0.mk hc0
  clear hr0 hc0
  have HR1 := Aside0.mk hr1
  have HC1 := Aside0.mk hc1
  clear hr1 hc1
  have HB := Aside0.mk (Below.refl w.heap.size w)
  have H : (if (l0.length : Int) > 100 then (papermilllaw34_ReelCovers.j0 k l0 l1 a2 true) else (papermilllaw34_ReelCovers.j0 k l0 l1 a2 (decide ((l1.length : Int) > 100)))) = some r := h
  clear h
  have HC4 := Aside0.mk H
  clear H
  go_enter Try.func6, Try.ntmps6
  go_upto_region 1 with (fail)
  repeat (go_quiet (fail); go_upto_region 1 with (fail))
  go_cut [29] (fun v29 wc => ∃ (kq : Nat) (x29_3 : Bool), v29 = .bool x29_3 ∧ Aside0 (papermilllaw34_ReelCovers.j0 kq l0 l1 a2 x29_3 = some r) ∧ Aside0 (kq ≤ k) ∧ Aside0 (Below w.heap.size w wc))
  case first => as_aux_lemma =>
    have H := HC4.out
    clear HC4
    by_cases c5 : (l0.length : Int) > 100
    · rw [if_pos c5] at H
      have c5b0 : decide (100 < (l0.length : Int)) = true := decide_eq_true c5
      have c5b1 : decide (100 < l0.length) = true := decide_eq_true (by omega)
      clear c5
      (first | rw [c5b0] | rw [c5b1] | (simp only [i64_w, i32_w]; rw [c5b0]) | skip)
      have H' := Aside0.mk H
      clear H
      go_wp2
      repeat (go_quiet (fail); try go_wp2)
      go_meet
      case rel => exact ⟨_, (true), (by first | rfl | (simp; done) | (simp [*]; done)), H', ⟨by first | omega | exact Nat.le_refl _⟩, ⟨by repeat (first | (with_reducible first | exact HB.out | apply below_alloc | apply pw_below_drewN | apply below_drew1) | exact HB.out)⟩⟩
    · rw [if_neg c5] at H
      have c5b0 : decide (100 < (l0.length : Int)) = false := decide_eq_false c5
      have c5b1 : decide (100 < l0.length) = false := decide_eq_false (by omega)
      clear c5
      (first | rw [c5b0] | rw [c5b1] | (simp only [i64_w, i32_w]; rw [c5b0]) | skip)
      have H' := Aside0.mk H
      clear H
      go_wp2
      repeat (go_quiet (fail); try go_wp2)
      go_meet
      case rel => exact ⟨_, (decide ((l1.length : Int) > 100)), (by first | rfl | (simp; done) | (simp [*]; done)), H', ⟨by first | omega | exact Nat.le_refl _⟩, ⟨by repeat (first | (with_reducible first | exact HB.out | apply below_alloc | apply pw_below_drewN | apply below_drew1) | exact HB.out)⟩⟩
  case rest => as_aux_lemma =>
    clear HC4
    try clear c1
    try clear p2
    try clear c5
    try clear c5b0
    try clear c5b1
    obtain ⟨kq, x29_3, rfl, HA, HJ3, HB⟩ := hcut
    cases kq with
    | zero => exact absurd HA.out (by simp [papermilllaw34_ReelCovers.j0])
    | succ kj3 =>
      have H := HA.out
      clear HA
      simp only [papermilllaw34_ReelCovers.j0] at H
      by_cases c6 : x29_3 = true
      · subst c6
        have H1 : ((papermilllaw34_awake.f).bind fun t7001 => (some t7001)) = some r := by rw [if_pos rfl] at H; exact H
        clear H
        have H := H1
        clear H1
        replace H := Option.bind_eq_some_iff.mp H
        obtain ⟨t7001, A70, H⟩ := H
        replace H : (some t7001) = some r := H
        have A7 := Aside0.mk A70
        clear A70
        obtain rfl := Option.some.inj H
        go_wp2_with (first | (go_at_call 12; (with_reducible refine (papermilllaw34_awake.calls  t7001 _ A7.out).mono ?_); rintro e w8 ⟨rfl, hb⟩; have n0_ := Aside0.mk (below_step (by repeat (first | (with_reducible first | exact HB.out | apply below_alloc | apply pw_below_drewN | apply below_drew1) | exact HB.out)) hb); clear HB; have HB := n0_; clear n0_; (try clear hb); (try clear hb2); (try clear hk); (try clear hi)))
        repeat (go_quiet (first | (go_at_call 12; (with_reducible refine (papermilllaw34_awake.calls  t7001 _ A7.out).mono ?_); rintro e w8 ⟨rfl, hb⟩; have n0_ := Aside0.mk (below_step (by repeat (first | (with_reducible first | exact HB.out | apply below_alloc | apply pw_below_drewN | apply below_drew1) | exact HB.out)) hb); clear HB; have HB := n0_; clear n0_; (try clear hb); (try clear hb2); (try clear hk); (try clear hi))); try go_wp2_with (first | (go_at_call 12; (with_reducible refine (papermilllaw34_awake.calls  t7001 _ A7.out).mono ?_); rintro e w8 ⟨rfl, hb⟩; have n0_ := Aside0.mk (below_step (by repeat (first | (with_reducible first | exact HB.out | apply below_alloc | apply pw_below_drewN | apply below_drew1) | exact HB.out)) hb); clear HB; have HB := n0_; clear n0_; (try clear hb); (try clear hb2); (try clear hk); (try clear hi))))
        go_ret
        exact ⟨by first | rfl | (simp [errW_none, errW_some] <;> rfl) | (simp [*, errW_none, errW_some] <;> rfl), by repeat (first | (with_reducible first | exact HB.out | apply below_alloc | apply pw_below_drewN | apply below_drew1) | exact HB.out)⟩
      · replace c6 := Bool.eq_false_iff.mpr c6
        subst c6
        have H1 : ((reel_Cut.f kj3 l0 l1 a2).bind fun bt7002 => (if bt7002.2.2 = 0 then ((reel_Lost.f kj3 l0).bind fun bt7010 => (if bt7010.2 = 0 then (papermilllaw34_ReelCovers.j1 kj3 l0 a2 bt7002.1 bt7002.2.1 bt7010.1 (decide ((wrap64 ((wrap64 ((bt7002.1.length : Int) + (bt7002.2.1.length : Int))) + (bt7010.1.length : Int))) > 400))) else (papermilllaw34_ReelCovers.j1 kj3 l0 a2 bt7002.1 bt7002.2.1 bt7010.1 true))) else (if (bt7002.1.length : Int) = 0 then (if (bt7002.2.1.length : Int) = 0 then ((papermilllaw34_awake.f).bind fun t7009 => (some t7009)) else (some false)) else (some false)))) = some r := by rw [if_neg (show ¬ (false = true) by decide)] at H; exact H
        clear H
        have H := H1
        clear H1
        replace H := Option.bind_eq_some_iff.mp H
        obtain ⟨⟨t7002, t7003, t7004⟩, A90, H⟩ := H
        replace H : (if t7004 = 0 then ((reel_Lost.f kj3 l0).bind fun bt7010 => (if bt7010.2 = 0 then (papermilllaw34_ReelCovers.j1 kj3 l0 a2 t7002 t7003 bt7010.1 (decide ((wrap64 ((wrap64 ((t7002.length : Int) + (t7003.length : Int))) + (bt7010.1.length : Int))) > 400))) else (papermilllaw34_ReelCovers.j1 kj3 l0 a2 t7002 t7003 bt7010.1 true))) else (if (t7002.length : Int) = 0 then (if (t7003.length : Int) = 0 then ((papermilllaw34_awake.f).bind fun t7009 => (some t7009)) else (some false)) else (some false))) = some r := H
        have A9 := Aside0.mk A90
        clear A90
        by_cases c10 : t7004 = 0
        · rw [if_pos c10] at H
          have c10b0 : (t7004 == 0) = true := beq_iff_eq.mpr c10
          have c10b1 : (t7004 != 0) = false := bne_eq_false_iff_eq.mpr c10
          clear c10
          replace H := Option.bind_eq_some_iff.mp H
          obtain ⟨⟨t7010, t7011⟩, A110, H⟩ := H
          replace H : (if t7011 = 0 then (papermilllaw34_ReelCovers.j1 kj3 l0 a2 t7002 t7003 t7010 (decide ((wrap64 ((wrap64 ((t7002.length : Int) + (t7003.length : Int))) + (t7010.length : Int))) > 400))) else (papermilllaw34_ReelCovers.j1 kj3 l0 a2 t7002 t7003 t7010 true)) = some r := H
          have A11 := Aside0.mk A110
          clear A110
          have HC12 := Aside0.mk H
          clear H
          go_upto_region 7 with (first | (go_at_call 18; (with_reducible refine (reel_Cut.calls kj3 _ _ l0 _ _ l1 a2 t7002 t7003 t7004 _ ?side1 ?side2 ?side3 ?side4 A9.out).mono ?_); (case side1 => repeat (first | exact (Kd.C_below HR0.out HB.out) | (with_reducible refine Kd.C_alloc ?_ _) | (with_reducible refine Kd.C_drewN ?_ _) | (with_reducible refine Kd.C_drew ?_))); (case side2 => exact HC0.out); (case side3 => repeat (first | exact (Kd.C_below HR1.out HB.out) | (with_reducible refine Kd.C_alloc ?_ _) | (with_reducible refine Kd.C_drewN ?_ _) | (with_reducible refine Kd.C_drew ?_))); (case side4 => exact HC1.out); rintro e w13 ⟨v7005, v7007, rfl, ho0, ho1, hb⟩; have n0_ := Aside0.mk (Kd.R_lower ho0 (below_size (by repeat (first | (with_reducible first | exact HB.out | apply below_alloc | apply pw_below_drewN | apply below_drew1) | exact HB.out)))); have n1_ := Aside0.mk (Kd.R_lower ho1 (below_size (by repeat (first | (with_reducible first | exact HB.out | apply below_alloc | apply pw_below_drewN | apply below_drew1) | exact HB.out)))); have n2_ := Aside0.mk (below_step (by repeat (first | (with_reducible first | exact HB.out | apply below_alloc | apply pw_below_drewN | apply below_drew1) | exact HB.out)) hb); clear HB; have HO7006 := n0_; have HO7008 := n1_; have HB := n2_; clear n0_ n1_ n2_; (try clear hb); (try clear hb2); (try clear hk); (try clear hi); (try clear ho0); (try clear ho1)) | (go_at_call 13; (with_reducible refine (reel_Lost.calls kj3 _ _ l0 t7010 t7011 _ ?side1 ?side2 A11.out).mono ?_); (case side1 => repeat (first | exact (Kd.C_below HR0.out HB.out) | (with_reducible refine Kd.C_alloc ?_ _) | (with_reducible refine Kd.C_drewN ?_ _) | (with_reducible refine Kd.C_drew ?_))); (case side2 => exact HC0.out); rintro e w14 ⟨v7012, rfl, ho0, hb⟩; have n0_ := Aside0.mk (Kd.R_elder' (by (with_reducible repeat (first | apply Kd.R_alloc | apply Kd.R_drewN | apply Kd.R_drew)); exact HO7006.out) (Kd.R_base ho0) hb); have n1_ := Aside0.mk (Kd.R_elder' (by (with_reducible repeat (first | apply Kd.R_alloc | apply Kd.R_drewN | apply Kd.R_drew)); exact HO7008.out) (Kd.R_base ho0) hb); have n2_ := Aside0.mk (Kd.R_lower (Kd.R_new' (Kd.R_new' ho0 (Kd.R_lt (by (with_reducible repeat (first | apply Kd.R_alloc | apply Kd.R_drewN | apply Kd.R_drew)); exact HO7006.out))) (Kd.R_lt (by (with_reducible repeat (first | apply Kd.R_alloc | apply Kd.R_drewN | apply Kd.R_drew)); exact HO7008.out))) (below_size (by repeat (first | (with_reducible first | exact HB.out | apply below_alloc | apply pw_below_drewN | apply below_drew1) | exact HB.out)))); have n3_ := Aside0.mk (below_step (by repeat (first | (with_reducible first | exact HB.out | apply below_alloc | apply pw_below_drewN | apply below_drew1) | exact HB.out)) hb); clear HO7006; clear HO7008; clear HB; have HO7006 := n0_; have HO7008 := n1_; have HO7013 := n2_; have HB := n3_; clear n0_ n1_ n2_ n3_; (try clear hb); (try clear hb2); (try clear hk); (try clear hi); (try clear ho0)))
          repeat (go_quiet (first | (go_at_call 18; (with_reducible refine (reel_Cut.calls kj3 _ _ l0 _ _ l1 a2 t7002 t7003 t7004 _ ?side1 ?side2 ?side3 ?side4 A9.out).mono ?_); (case side1 => repeat (first | exact (Kd.C_below HR0.out HB.out) | (with_reducible refine Kd.C_alloc ?_ _) | (with_reducible refine Kd.C_drewN ?_ _) | (with_reducible refine Kd.C_drew ?_))); (case side2 => exact HC0.out); (case side3 => repeat (first | exact (Kd.C_below HR1.out HB.out) | (with_reducible refine Kd.C_alloc ?_ _) | (with_reducible refine Kd.C_drewN ?_ _) | (with_reducible refine Kd.C_drew ?_))); (case side4 => exact HC1.out); rintro e w13 ⟨v7005, v7007, rfl, ho0, ho1, hb⟩; have n0_ := Aside0.mk (Kd.R_lower ho0 (below_size (by repeat (first | (with_reducible first | exact HB.out | apply below_alloc | apply pw_below_drewN | apply below_drew1) | exact HB.out)))); have n1_ := Aside0.mk (Kd.R_lower ho1 (below_size (by repeat (first | (with_reducible first | exact HB.out | apply below_alloc | apply pw_below_drewN | apply below_drew1) | exact HB.out)))); have n2_ := Aside0.mk (below_step (by repeat (first | (with_reducible first | exact HB.out | apply below_alloc | apply pw_below_drewN | apply below_drew1) | exact HB.out)) hb); clear HB; have HO7006 := n0_; have HO7008 := n1_; have HB := n2_; clear n0_ n1_ n2_; (try clear hb); (try clear hb2); (try clear hk); (try clear hi); (try clear ho0); (try clear ho1)) | (go_at_call 13; (with_reducible refine (reel_Lost.calls kj3 _ _ l0 t7010 t7011 _ ?side1 ?side2 A11.out).mono ?_); (case side1 => repeat (first | exact (Kd.C_below HR0.out HB.out) | (with_reducible refine Kd.C_alloc ?_ _) | (with_reducible refine Kd.C_drewN ?_ _) | (with_reducible refine Kd.C_drew ?_))); (case side2 => exact HC0.out); rintro e w14 ⟨v7012, rfl, ho0, hb⟩; have n0_ := Aside0.mk (Kd.R_elder' (by (with_reducible repeat (first | apply Kd.R_alloc | apply Kd.R_drewN | apply Kd.R_drew)); exact HO7006.out) (Kd.R_base ho0) hb); have n1_ := Aside0.mk (Kd.R_elder' (by (with_reducible repeat (first | apply Kd.R_alloc | apply Kd.R_drewN | apply Kd.R_drew)); exact HO7008.out) (Kd.R_base ho0) hb); have n2_ := Aside0.mk (Kd.R_lower (Kd.R_new' (Kd.R_new' ho0 (Kd.R_lt (by (with_reducible repeat (first | apply Kd.R_alloc | apply Kd.R_drewN | apply Kd.R_drew)); exact HO7006.out))) (Kd.R_lt (by (with_reducible repeat (first | apply Kd.R_alloc | apply Kd.R_drewN | apply Kd.R_drew)); exact HO7008.out))) (below_size (by repeat (first | (with_reducible first | exact HB.out | apply below_alloc | apply pw_below_drewN | apply below_drew1) | exact HB.out)))); have n3_ := Aside0.mk (below_step (by repeat (first | (with_reducible first | exact HB.out | apply below_alloc | apply pw_below_drewN | apply below_drew1) | exact HB.out)) hb); clear HO7006; clear HO7008; clear HB; have HO7006 := n0_; have HO7008 := n1_; have HO7013 := n2_; have HB := n3_; clear n0_ n1_ n2_ n3_; (try clear hb); (try clear hb2); (try clear hk); (try clear hi); (try clear ho0))); go_upto_region 7 with (first | (go_at_call 18; (with_reducible refine (reel_Cut.calls kj3 _ _ l0 _ _ l1 a2 t7002 t7003 t7004 _ ?side1 ?side2 ?side3 ?side4 A9.out).mono ?_); (case side1 => repeat (first | exact (Kd.C_below HR0.out HB.out) | (with_reducible refine Kd.C_alloc ?_ _) | (with_reducible refine Kd.C_drewN ?_ _) | (with_reducible refine Kd.C_drew ?_))); (case side2 => exact HC0.out); (case side3 => repeat (first | exact (Kd.C_below HR1.out HB.out) | (with_reducible refine Kd.C_alloc ?_ _) | (with_reducible refine Kd.C_drewN ?_ _) | (with_reducible refine Kd.C_drew ?_))); (case side4 => exact HC1.out); rintro e w13 ⟨v7005, v7007, rfl, ho0, ho1, hb⟩; have n0_ := Aside0.mk (Kd.R_lower ho0 (below_size (by repeat (first | (with_reducible first | exact HB.out | apply below_alloc | apply pw_below_drewN | apply below_drew1) | exact HB.out)))); have n1_ := Aside0.mk (Kd.R_lower ho1 (below_size (by repeat (first | (with_reducible first | exact HB.out | apply below_alloc | apply pw_below_drewN | apply below_drew1) | exact HB.out)))); have n2_ := Aside0.mk (below_step (by repeat (first | (with_reducible first | exact HB.out | apply below_alloc | apply pw_below_drewN | apply below_drew1) | exact HB.out)) hb); clear HB; have HO7006 := n0_; have HO7008 := n1_; have HB := n2_; clear n0_ n1_ n2_; (try clear hb); (try clear hb2); (try clear hk); (try clear hi); (try clear ho0); (try clear ho1)) | (go_at_call 13; (with_reducible refine (reel_Lost.calls kj3 _ _ l0 t7010 t7011 _ ?side1 ?side2 A11.out).mono ?_); (case side1 => repeat (first | exact (Kd.C_below HR0.out HB.out) | (with_reducible refine Kd.C_alloc ?_ _) | (with_reducible refine Kd.C_drewN ?_ _) | (with_reducible refine Kd.C_drew ?_))); (case side2 => exact HC0.out); rintro e w14 ⟨v7012, rfl, ho0, hb⟩; have n0_ := Aside0.mk (Kd.R_elder' (by (with_reducible repeat (first | apply Kd.R_alloc | apply Kd.R_drewN | apply Kd.R_drew)); exact HO7006.out) (Kd.R_base ho0) hb); have n1_ := Aside0.mk (Kd.R_elder' (by (with_reducible repeat (first | apply Kd.R_alloc | apply Kd.R_drewN | apply Kd.R_drew)); exact HO7008.out) (Kd.R_base ho0) hb); have n2_ := Aside0.mk (Kd.R_lower (Kd.R_new' (Kd.R_new' ho0 (Kd.R_lt (by (with_reducible repeat (first | apply Kd.R_alloc | apply Kd.R_drewN | apply Kd.R_drew)); exact HO7006.out))) (Kd.R_lt (by (with_reducible repeat (first | apply Kd.R_alloc | apply Kd.R_drewN | apply Kd.R_drew)); exact HO7008.out))) (below_size (by repeat (first | (with_reducible first | exact HB.out | apply below_alloc | apply pw_below_drewN | apply below_drew1) | exact HB.out)))); have n3_ := Aside0.mk (below_step (by repeat (first | (with_reducible first | exact HB.out | apply below_alloc | apply pw_below_drewN | apply below_drew1) | exact HB.out)) hb); clear HO7006; clear HO7008; clear HB; have HO7006 := n0_; have HO7008 := n1_; have HO7013 := n2_; have HB := n3_; clear n0_ n1_ n2_ n3_; (try clear hb); (try clear hb2); (try clear hk); (try clear hi); (try clear ho0))))
          (try simp only [Act.put, List.setIfInBounds_toArray, List.set_cons_zero, List.set_cons_succ])
          go_cut [69] (fun v69 wc => ∃ (kq : Nat) (x69_11 : Bool), v69 = .bool x69_11 ∧ Aside0 (papermilllaw34_ReelCovers.j1 kq l0 a2 t7002 t7003 t7010 x69_11 = some r) ∧ Aside0 (kq ≤ kj3) ∧ Aside0 (Kd.R k36 36 wc w.heap.size (fun k_ => some k_ ≠ (v7007 : Value).ownBlock ∧ some k_ ≠ (v7012 : Value).ownBlock) v7005 t7002) ∧ Aside0 (Kd.R k36 36 wc w.heap.size (fun k_ => some k_ ≠ (v7005 : Value).ownBlock ∧ some k_ ≠ (v7012 : Value).ownBlock) v7007 t7003) ∧ Aside0 (Kd.R k36 36 wc w.heap.size (fun k_ => some k_ ≠ (v7005 : Value).ownBlock ∧ some k_ ≠ (v7007 : Value).ownBlock) v7012 t7010) ∧ Aside0 (Below w.heap.size w wc))
          case first => as_aux_lemma =>
            have H := HC12.out
            clear HC12
            by_cases c15 : t7011 = 0
            · rw [if_pos c15] at H
              have c15b0 : (t7011 == 0) = true := beq_iff_eq.mpr c15
              have c15b1 : (t7011 != 0) = false := bne_eq_false_iff_eq.mpr c15
              clear c15
              (first | rw [c15b0] | (simp only [i64_w, i32_w]; rw [c15b0]) | skip)
              have H' := Aside0.mk H
              clear H
              obtain ⟨Ao16, co16, eo16⟩ := Kd.R_slice HO7006.out
              subst eo16
              obtain ⟨Ao17, co17, eo17⟩ := Kd.R_slice HO7008.out
              subst eo17
              obtain ⟨Ao18, co18, eo18⟩ := Kd.R_slice HO7013.out
              subst eo18
              go_wp2
              repeat (go_quiet (fail); try go_wp2)
              go_meet
              case rel => exact ⟨_, (decide ((wrap64 ((wrap64 ((t7002.length : Int) + (t7003.length : Int))) + (t7010.length : Int))) > 400)), (by first | rfl | (simp; done) | (simp [*]; done)), H', ⟨by have := HJ3.out; first | omega | exact Nat.le_refl _⟩, ⟨by (with_reducible repeat (first | apply Kd.R_alloc | apply Kd.R_drewN | apply Kd.R_drew)); exact HO7006.out⟩, ⟨by (with_reducible repeat (first | apply Kd.R_alloc | apply Kd.R_drewN | apply Kd.R_drew)); exact HO7008.out⟩, ⟨by (with_reducible repeat (first | apply Kd.R_alloc | apply Kd.R_drewN | apply Kd.R_drew)); exact Kd.R_mono HO7013.out (fun _ hk => ⟨hk.1.2, hk.2⟩)⟩, ⟨by repeat (first | (with_reducible first | exact HB.out | apply below_alloc | apply pw_below_drewN | apply below_drew1) | exact HB.out)⟩⟩
            · rw [if_neg c15] at H
              have c15b0 : (t7011 == 0) = false := beq_eq_false_iff_ne.mpr c15
              have c15b1 : (t7011 != 0) = true := bne_iff_ne.mpr c15
              (first | rw [c15b0] | (simp only [i64_w, i32_w]; rw [c15b0]) | skip)
              have H' := Aside0.mk H
              clear H
              go_wp2
              repeat (go_quiet (fail); try go_wp2)
              go_meet
              case rel => exact ⟨_, (true), (by first | rfl | (simp; done) | (simp [*]; done)), H', ⟨by have := HJ3.out; first | omega | exact Nat.le_refl _⟩, ⟨by (with_reducible repeat (first | apply Kd.R_alloc | apply Kd.R_drewN | apply Kd.R_drew)); exact HO7006.out⟩, ⟨by (with_reducible repeat (first | apply Kd.R_alloc | apply Kd.R_drewN | apply Kd.R_drew)); exact HO7008.out⟩, ⟨by (with_reducible repeat (first | apply Kd.R_alloc | apply Kd.R_drewN | apply Kd.R_drew)); exact Kd.R_mono HO7013.out (fun _ hk => ⟨hk.1.2, hk.2⟩)⟩, ⟨by repeat (first | (with_reducible first | exact HB.out | apply below_alloc | apply pw_below_drewN | apply below_drew1) | exact HB.out)⟩⟩
          case rest => as_aux_lemma =>
            clear HC12
            try clear c1
            try clear p2
            try clear c5
            try clear c5b0
            try clear c5b1
            try clear c6
            try clear p6
            try clear c10
            try clear c10b0
            try clear c10b1
            try clear c15
            try clear c15b0
            try clear c15b1
            try clear p2
            obtain ⟨kq, x69_11, rfl, HA, HJ11, HO_7, HO_8, HO_10, HB⟩ := hcut
            cases kq with
            | zero => exact absurd HA.out (by simp [papermilllaw34_ReelCovers.j1])
            | succ kj11 =>
              have H := HA.out
              clear HA
              simp only [papermilllaw34_ReelCovers.j1] at H
              by_cases c19 : x69_11 = true
              · subst c19
                have H1 : (some false) = some r := by rw [if_pos rfl] at H; exact H
                clear H
                have H := H1
                clear H1
                obtain rfl := Option.some.inj H
                go_wp2
                repeat (go_quiet (fail); try go_wp2)
                go_ret
                exact ⟨by first | rfl | (simp [errW_none, errW_some] <;> rfl) | (simp [*, errW_none, errW_some] <;> rfl), by repeat (first | (with_reducible first | exact HB.out | apply below_alloc | apply pw_below_drewN | apply below_drew1) | exact HB.out)⟩
              · replace c19 := Bool.eq_false_iff.mpr c19
                subst c19
                have H1 : (if (l0.length : Int) > 0 then (if 0 ≤ (wrap64 ((l0.length : Int) - 1)) then (if (wrap64 ((l0.length : Int) - 1)) < (l0.length : Int) then (papermilllaw34_ReelCovers.j2 kj11 a2 t7002 t7003 t7010 ((rd_T44 l0 (wrap64 ((l0.length : Int) - 1))).f1)) else (none)) else (none)) else (papermilllaw34_ReelCovers.j2 kj11 a2 t7002 t7003 t7010 0)) = some r := by rw [if_neg (show ¬ (false = true) by decide)] at H; exact H
                clear H
                have H := H1
                clear H1
                have HC20 := Aside0.mk H
                clear H
                go_upto_if 72 with (fail)
                repeat (go_quiet (fail); go_upto_if 72 with (fail))
                go_cut [12] (fun v12 wc => ∃ (kq : Nat) (x12_19 : Int), v12 = .int .i64 x12_19 ∧ Aside0 (papermilllaw34_ReelCovers.j2 kq a2 t7002 t7003 t7010 x12_19 = some r) ∧ Aside0 (kq ≤ kj11) ∧ Aside0 (Kd.R k36 36 wc w.heap.size (fun k_ => some k_ ≠ (v7007 : Value).ownBlock ∧ some k_ ≠ (v7012 : Value).ownBlock) v7005 t7002) ∧ Aside0 (Kd.R k36 36 wc w.heap.size (fun k_ => some k_ ≠ (v7005 : Value).ownBlock ∧ some k_ ≠ (v7012 : Value).ownBlock) v7007 t7003) ∧ Aside0 (Kd.R k36 36 wc w.heap.size (fun k_ => some k_ ≠ (v7005 : Value).ownBlock ∧ some k_ ≠ (v7007 : Value).ownBlock) v7012 t7010) ∧ Aside0 (Below w.heap.size w wc))
                case first => as_aux_lemma =>
                  have H := HC20.out
                  clear HC20
                  by_cases c21 : (l0.length : Int) > 0
                  · rw [if_pos c21] at H
                    have c21b0 : decide (0 < (l0.length : Int)) = true := decide_eq_true c21
                    have c21b1 : decide (0 < l0.length) = true := decide_eq_true (by omega)
                    clear c21
                    (first | rw [c21b0] | rw [c21b1] | (simp only [i64_w, i32_w]; rw [c21b0]) | skip)
                    obtain ⟨ji22, hji22⟩ : ∃ j_ : Int, (wrap64 ((l0.length : Int) - 1)) = j_ := ⟨_, rfl⟩
                    replace H : (if 0 ≤ (ji22) then (if (ji22) < (l0.length : Int) then (papermilllaw34_ReelCovers.j2 kj11 a2 t7002 t7003 t7010 ((rd_T44 l0 (ji22)).f1)) else (none)) else (none)) = some r := by first | (rw [hji22] at H; exact H) | (simp only [hji22] at H ⊢; exact H)
                    have hji22w : (IntKind.i64.wrap ((l0.length : Int) - 1)) = ji22 := (i64_w _).trans hji22
                    by_cases c23 : 0 ≤ (ji22)
                    · rw [if_pos c23] at H
                      have c23b0 : decide (0 ≤ (ji22)) = true := decide_eq_true c23
                      clear c23
                      by_cases c24 : (ji22) < (l0.length : Int)
                      · rw [if_pos c24] at H
                        have c24b0 : decide ((ji22) < (l0.length : Int)) = true := decide_eq_true c24
                        clear c24
                        have H' := Aside0.mk H
                        clear H
                        have p7014 : 0 ≤ ((ji22) : Int) := of_decide_eq_true (by first | (with_reducible assumption) | assumption)
                        have q7014 : (ji22) < (l0.length : Int) := of_decide_eq_true (by first | (with_reducible assumption) | assumption)
                        obtain ⟨ad7014, e7014, hx7014_0, hx7014_1, hx7014_2, hx7014_3, hx7014_4⟩ := at_T44 HR0.out (ji22) p7014 q7014
                        cases e7014
                        replace hx7014_0 := (HB.out.cell (World.block_lt_of_cell? w _ hx7014_0)).trans hx7014_0
                        replace hx7014_1 := (HB.out.cell (World.block_lt_of_cell? w _ hx7014_1)).trans hx7014_1
                        replace hx7014_2 := (HB.out.cell (World.block_lt_of_cell? w _ hx7014_2)).trans hx7014_2
                        replace hx7014_3 := (HB.out.cell (World.block_lt_of_cell? w _ hx7014_3)).trans hx7014_3
                        replace hx7014_4 := (HB.out.cell (World.block_lt_of_cell? w _ hx7014_4)).trans hx7014_4
                        replace p7014 := eq_true p7014
                        replace q7014 := eq_true q7014
                        go_wp2
                        repeat (go_quiet (fail); try go_wp2)
                        go_meet
                        case rel => exact ⟨_, ((rd_T44 l0 (ji22)).f1), (by first | rfl | (simp; done) | (simp only [← hji22] <;> (first | rfl | simp)) | (simp [*]; done)), H', ⟨by have := HJ3.out; have := HJ11.out; first | omega | exact Nat.le_refl _⟩, ⟨by (with_reducible repeat (first | apply Kd.R_alloc | apply Kd.R_drewN | apply Kd.R_drew)); exact HO_7.out⟩, ⟨by (with_reducible repeat (first | apply Kd.R_alloc | apply Kd.R_drewN | apply Kd.R_drew)); exact HO_8.out⟩, ⟨by (with_reducible repeat (first | apply Kd.R_alloc | apply Kd.R_drewN | apply Kd.R_drew)); exact HO_10.out⟩, ⟨by repeat (first | (with_reducible first | exact HB.out | apply below_alloc | apply pw_below_drewN | apply below_drew1) | exact HB.out)⟩⟩
                      · rw [if_neg c24] at H
                        exact absurd H (by simp)
                    · rw [if_neg c23] at H
                      exact absurd H (by simp)
                  · rw [if_neg c21] at H
                    have c21b0 : decide (0 < (l0.length : Int)) = false := decide_eq_false c21
                    have c21b1 : decide (0 < l0.length) = false := decide_eq_false (by omega)
                    clear c21
                    (first | rw [c21b0] | rw [c21b1] | (simp only [i64_w, i32_w]; rw [c21b0]) | skip)
                    have H' := Aside0.mk H
                    clear H
                    go_wp2
                    repeat (go_quiet (fail); try go_wp2)
                    go_meet
                    case rel => exact ⟨_, (0), (by first | rfl | (simp; done) | (simp [*]; done)), H', ⟨by have := HJ3.out; have := HJ11.out; first | omega | exact Nat.le_refl _⟩, ⟨by (with_reducible repeat (first | apply Kd.R_alloc | apply Kd.R_drewN | apply Kd.R_drew)); exact HO_7.out⟩, ⟨by (with_reducible repeat (first | apply Kd.R_alloc | apply Kd.R_drewN | apply Kd.R_drew)); exact HO_8.out⟩, ⟨by (with_reducible repeat (first | apply Kd.R_alloc | apply Kd.R_drewN | apply Kd.R_drew)); exact HO_10.out⟩, ⟨by repeat (first | (with_reducible first | exact HB.out | apply below_alloc | apply pw_below_drewN | apply below_drew1) | exact HB.out)⟩⟩
                case rest => as_aux_lemma =>
                  clear HC20
                  try clear c1
                  try clear c2
                  try clear p2
                  try clear c5
                  try clear c5b0
                  try clear c5b1
                  try clear c6
                  try clear p6
                  try clear p7
                  try clear q7
                  try clear hx7
                  try clear c10
                  try clear c10b0
                  try clear c10b1
                  try clear c15
                  try clear c15b0
                  try clear c15b1
                  try clear c19
                  try clear c21
                  try clear c21b0
                  try clear c21b1
                  try clear c23
                  try clear c23b0
                  try clear c24
                  try clear c24b0
                  try clear hx7014_0
                  try clear hx7014_1
                  try clear hx7014_2
                  try clear hx7014_3
                  try clear hx7014_4
                  try clear p2
                  try clear p6
                  try clear p7014
                  try clear q7014
                  obtain ⟨kq, x12_19, rfl, HA, HJ19, HO_7, HO_8, HO_10, HB⟩ := hcut
                  cases kq with
                  | zero => exact absurd HA.out (by simp [papermilllaw34_ReelCovers.j2])
                  | succ kj19 =>
                    have H := HA.out
                    clear HA
                    simp only [papermilllaw34_ReelCovers.j2] at H
                    have H' := Aside0.mk H
                    clear H
                    go_wp2
                    repeat (go_quiet (fail); try go_wp2)
                    go_loopg [13, 14] kj19 (fun kq v13 v14 w' => ∃ (x13_4 : Int) (x14_4 : Int), v13 = .int .i64 x13_4 ∧ v14 = .int .i64 x14_4 ∧ Aside0 (papermilllaw34_ReelCovers.l0 kq a2 t7002 t7003 t7010 x12_19 x13_4 x14_4 = some r) ∧ Aside0 (kq ≤ kj19) ∧ Aside0 (Kd.R k36 36 w' w.heap.size (fun k_ => some k_ ≠ (v7007 : Value).ownBlock ∧ some k_ ≠ (v7012 : Value).ownBlock) v7005 t7002) ∧ Aside0 (Kd.R k36 36 w' w.heap.size (fun k_ => some k_ ≠ (v7005 : Value).ownBlock ∧ some k_ ≠ (v7012 : Value).ownBlock) v7007 t7003) ∧ Aside0 (Kd.R k36 36 w' w.heap.size (fun k_ => some k_ ≠ (v7005 : Value).ownBlock ∧ some k_ ≠ (v7007 : Value).ownBlock) v7012 t7010) ∧ Aside0 (Below w.heap.size w w'))
                    case atStart => exact ⟨(0), (0), (by first | rfl | (simp; done) | (simp [*]; done)), (by first | rfl | (simp; done) | (simp [*]; done)), H', ⟨Nat.le_refl _⟩, ⟨by (with_reducible repeat (first | apply Kd.R_alloc | apply Kd.R_drewN | apply Kd.R_drew)); exact HO_7.out⟩, ⟨by (with_reducible repeat (first | apply Kd.R_alloc | apply Kd.R_drewN | apply Kd.R_drew)); exact HO_8.out⟩, ⟨by (with_reducible repeat (first | apply Kd.R_alloc | apply Kd.R_drewN | apply Kd.R_drew)); exact HO_10.out⟩, ⟨by repeat (first | (with_reducible first | exact HB.out | apply below_alloc | apply pw_below_drewN | apply below_drew1) | exact HB.out)⟩⟩
                    case round => as_aux_lemma =>
                      clear H'
                      try clear c1
                      try clear c2
                      try clear p2
                      try clear c5
                      try clear c5b0
                      try clear c5b1
                      try clear c6
                      try clear p6
                      try clear p7
                      try clear q7
                      try clear hx7
                      try clear c10
                      try clear c10b0
                      try clear c10b1
                      try clear c15
                      try clear c15b0
                      try clear c15b1
                      try clear c19
                      try clear c21
                      try clear c21b0
                      try clear c21b1
                      try clear c23
                      try clear c23b0
                      try clear c24
                      try clear c24b0
                      try clear hx7014_0
                      try clear hx7014_1
                      try clear hx7014_2
                      try clear hx7014_3
                      try clear hx7014_4
                      try clear p2
                      try clear p6
                      try clear p7
                      try clear p7014
                      try clear q7
                      try clear q7014
                      obtain ⟨x13_4, x14_4, rfl, rfl, HA, HK4, HO_7, HO_8, HO_10, HB⟩ := hrel
                      cases gk with
                      | zero => exact absurd HA.out (by simp [papermilllaw34_ReelCovers.l0])
                      | succ k4 =>
                        have H := HA.out
                        clear HA
                        simp only [papermilllaw34_ReelCovers.l0] at H
                        by_cases c25 : x14_4 < (t7002.length : Int)
                        · rw [if_pos c25] at H
                          have c25b0 : decide (x14_4 < (t7002.length : Int)) = true := decide_eq_true c25
                          clear c25
                          by_cases c26 : 0 ≤ x14_4
                          · rw [if_pos c26] at H
                            have c26b0 : decide (0 ≤ x14_4) = true := decide_eq_true c26
                            clear c26
                            by_cases c27 : ((rd_T36 t7002 x14_4).f0) < 0
                            · rw [if_pos c27] at H
                              have c27b0 : decide (((rd_T36 t7002 x14_4).f0) < 0) = true := decide_eq_true c27
                              clear c27
                              obtain rfl := Option.some.inj H
                              obtain ⟨Ao28, co28, eo28⟩ := Kd.R_slice HO_7.out
                              subst eo28
                              have p7015 : 0 ≤ (x14_4 : Int) := of_decide_eq_true (by first | (with_reducible assumption) | assumption)
                              have q7015 : x14_4 < (t7002.length : Int) := of_decide_eq_true (by first | (with_reducible assumption) | assumption)
                              obtain ⟨ad7015, e7015, hx7015_0, hx7015_1⟩ := at_T36 (Kd.R_reads' HO_7.out).2.2 x14_4 p7015 q7015
                              cases e7015
                              replace p7015 := eq_true p7015
                              replace q7015 := eq_true q7015
                              go_wp2
                              repeat (go_quiet (fail); try go_wp2)
                              go_ret
                              exact ⟨by first | rfl | (simp [errW_none, errW_some] <;> rfl) | (simp [*, errW_none, errW_some] <;> rfl), by repeat (first | (with_reducible first | exact HB.out | apply below_alloc | apply pw_below_drewN | apply below_drew1) | exact HB.out)⟩
                            · rw [if_neg c27] at H
                              have c27b0 : decide (((rd_T36 t7002 x14_4).f0) < 0) = false := decide_eq_false c27
                              clear c27
                              by_cases c29 : ((rd_T36 t7002 x14_4).f1) > x12_19
                              · rw [if_pos c29] at H
                                have c29b0 : decide (x12_19 < ((rd_T36 t7002 x14_4).f1)) = true := decide_eq_true c29
                                clear c29
                                obtain rfl := Option.some.inj H
                                obtain ⟨Ao30, co30, eo30⟩ := Kd.R_slice HO_7.out
                                subst eo30
                                have p7015 : 0 ≤ (x14_4 : Int) := of_decide_eq_true (by first | (with_reducible assumption) | assumption)
                                have q7015 : x14_4 < (t7002.length : Int) := of_decide_eq_true (by first | (with_reducible assumption) | assumption)
                                obtain ⟨ad7015, e7015, hx7015_0, hx7015_1⟩ := at_T36 (Kd.R_reads' HO_7.out).2.2 x14_4 p7015 q7015
                                cases e7015
                                replace p7015 := eq_true p7015
                                replace q7015 := eq_true q7015
                                have p7016 : 0 ≤ (x14_4 : Int) := of_decide_eq_true (by first | (with_reducible assumption) | assumption)
                                have q7016 : x14_4 < (t7002.length : Int) := of_decide_eq_true (by first | (with_reducible assumption) | assumption)
                                obtain ⟨ad7016, e7016, hx7016_0, hx7016_1⟩ := at_T36 (Kd.R_reads' HO_7.out).2.2 x14_4 p7016 q7016
                                obtain rfl : ad7015 = ad7016 := (by injection e7016)
                                replace p7016 := eq_true p7016
                                replace q7016 := eq_true q7016
                                go_wp2
                                repeat (go_quiet (fail); try go_wp2)
                                go_ret
                                exact ⟨by first | rfl | (simp [errW_none, errW_some] <;> rfl) | (simp [*, errW_none, errW_some] <;> rfl), by repeat (first | (with_reducible first | exact HB.out | apply below_alloc | apply pw_below_drewN | apply below_drew1) | exact HB.out)⟩
                              · rw [if_neg c29] at H
                                have c29b0 : decide (x12_19 < ((rd_T36 t7002 x14_4).f1)) = false := decide_eq_false c29
                                clear c29
                                by_cases c31 : (wrap64 (((rd_T36 t7002 x14_4).f1) - ((rd_T36 t7002 x14_4).f0))) < a2
                                · rw [if_pos c31] at H
                                  have c31b0 : decide ((wrap64 (((rd_T36 t7002 x14_4).f1) - ((rd_T36 t7002 x14_4).f0))) < a2) = true := decide_eq_true c31
                                  clear c31
                                  obtain rfl := Option.some.inj H
                                  obtain ⟨Ao32, co32, eo32⟩ := Kd.R_slice HO_7.out
                                  subst eo32
                                  have p7015 : 0 ≤ (x14_4 : Int) := of_decide_eq_true (by first | (with_reducible assumption) | assumption)
                                  have q7015 : x14_4 < (t7002.length : Int) := of_decide_eq_true (by first | (with_reducible assumption) | assumption)
                                  obtain ⟨ad7015, e7015, hx7015_0, hx7015_1⟩ := at_T36 (Kd.R_reads' HO_7.out).2.2 x14_4 p7015 q7015
                                  cases e7015
                                  replace p7015 := eq_true p7015
                                  replace q7015 := eq_true q7015
                                  have p7016 : 0 ≤ (x14_4 : Int) := of_decide_eq_true (by first | (with_reducible assumption) | assumption)
                                  have q7016 : x14_4 < (t7002.length : Int) := of_decide_eq_true (by first | (with_reducible assumption) | assumption)
                                  obtain ⟨ad7016, e7016, hx7016_0, hx7016_1⟩ := at_T36 (Kd.R_reads' HO_7.out).2.2 x14_4 p7016 q7016
                                  obtain rfl : ad7015 = ad7016 := (by injection e7016)
                                  replace p7016 := eq_true p7016
                                  replace q7016 := eq_true q7016
                                  have p7017 : 0 ≤ (x14_4 : Int) := of_decide_eq_true (by first | (with_reducible assumption) | assumption)
                                  have q7017 : x14_4 < (t7002.length : Int) := of_decide_eq_true (by first | (with_reducible assumption) | assumption)
                                  obtain ⟨ad7017, e7017, hx7017_0, hx7017_1⟩ := at_T36 (Kd.R_reads' HO_7.out).2.2 x14_4 p7017 q7017
                                  obtain rfl : ad7015 = ad7017 := (by injection e7017)
                                  replace p7017 := eq_true p7017
                                  replace q7017 := eq_true q7017
                                  have p7018 : 0 ≤ (x14_4 : Int) := of_decide_eq_true (by first | (with_reducible assumption) | assumption)
                                  have q7018 : x14_4 < (t7002.length : Int) := of_decide_eq_true (by first | (with_reducible assumption) | assumption)
                                  obtain ⟨ad7018, e7018, hx7018_0, hx7018_1⟩ := at_T36 (Kd.R_reads' HO_7.out).2.2 x14_4 p7018 q7018
                                  obtain rfl : ad7015 = ad7018 := (by injection e7018)
                                  replace p7018 := eq_true p7018
                                  replace q7018 := eq_true q7018
                                  go_wp2
                                  repeat (go_quiet (fail); try go_wp2)
                                  go_ret
                                  exact ⟨by first | rfl | (simp [errW_none, errW_some] <;> rfl) | (simp [*, errW_none, errW_some] <;> rfl), by repeat (first | (with_reducible first | exact HB.out | apply below_alloc | apply pw_below_drewN | apply below_drew1) | exact HB.out)⟩
                                · rw [if_neg c31] at H
                                  have c31b0 : decide ((wrap64 (((rd_T36 t7002 x14_4).f1) - ((rd_T36 t7002 x14_4).f0))) < a2) = false := decide_eq_false c31
                                  clear c31
                                  by_cases c33 : x14_4 > 0
                                  · rw [if_pos c33] at H
                                    have c33b0 : decide (0 < x14_4) = true := decide_eq_true c33
                                    clear c33
                                    obtain ⟨ji34, hji34⟩ : ∃ j_ : Int, (wrap64 (x14_4 - 1)) = j_ := ⟨_, rfl⟩
                                    replace H : (if 0 ≤ (ji34) then (if (ji34) < (t7002.length : Int) then (if ((rd_T36 t7002 x14_4).f0) < ((rd_T36 t7002 (ji34)).f1) then (some false) else (papermilllaw34_ReelCovers.l0 k4 a2 t7002 t7003 t7010 x12_19 (wrap64 ((wrap64 (x13_4 + ((rd_T36 t7002 x14_4).f1))) - ((rd_T36 t7002 x14_4).f0))) (wrap64 (x14_4 + 1)))) else (none)) else (none)) = some r := by first | (rw [hji34] at H; exact H) | (simp only [hji34] at H ⊢; exact H)
                                    have hji34w : (IntKind.i64.wrap (x14_4 - 1)) = ji34 := (i64_w _).trans hji34
                                    by_cases c35 : 0 ≤ (ji34)
                                    · rw [if_pos c35] at H
                                      have c35b0 : decide (0 ≤ (ji34)) = true := decide_eq_true c35
                                      clear c35
                                      by_cases c36 : (ji34) < (t7002.length : Int)
                                      · rw [if_pos c36] at H
                                        have c36b0 : decide ((ji34) < (t7002.length : Int)) = true := decide_eq_true c36
                                        clear c36
                                        by_cases c37 : ((rd_T36 t7002 x14_4).f0) < ((rd_T36 t7002 (ji34)).f1)
                                        · rw [if_pos c37] at H
                                          have c37b0 : decide (((rd_T36 t7002 x14_4).f0) < ((rd_T36 t7002 (ji34)).f1)) = true := decide_eq_true c37
                                          clear c37
                                          obtain rfl := Option.some.inj H
                                          obtain ⟨Ao38, co38, eo38⟩ := Kd.R_slice HO_7.out
                                          subst eo38
                                          have p7015 : 0 ≤ (x14_4 : Int) := of_decide_eq_true (by first | (with_reducible assumption) | assumption)
                                          have q7015 : x14_4 < (t7002.length : Int) := of_decide_eq_true (by first | (with_reducible assumption) | assumption)
                                          obtain ⟨ad7015, e7015, hx7015_0, hx7015_1⟩ := at_T36 (Kd.R_reads' HO_7.out).2.2 x14_4 p7015 q7015
                                          cases e7015
                                          replace p7015 := eq_true p7015
                                          replace q7015 := eq_true q7015
                                          have p7016 : 0 ≤ (x14_4 : Int) := of_decide_eq_true (by first | (with_reducible assumption) | assumption)
                                          have q7016 : x14_4 < (t7002.length : Int) := of_decide_eq_true (by first | (with_reducible assumption) | assumption)
                                          obtain ⟨ad7016, e7016, hx7016_0, hx7016_1⟩ := at_T36 (Kd.R_reads' HO_7.out).2.2 x14_4 p7016 q7016
                                          obtain rfl : ad7015 = ad7016 := (by injection e7016)
                                          replace p7016 := eq_true p7016
                                          replace q7016 := eq_true q7016
                                          have p7017 : 0 ≤ (x14_4 : Int) := of_decide_eq_true (by first | (with_reducible assumption) | assumption)
                                          have q7017 : x14_4 < (t7002.length : Int) := of_decide_eq_true (by first | (with_reducible assumption) | assumption)
                                          obtain ⟨ad7017, e7017, hx7017_0, hx7017_1⟩ := at_T36 (Kd.R_reads' HO_7.out).2.2 x14_4 p7017 q7017
                                          obtain rfl : ad7015 = ad7017 := (by injection e7017)
                                          replace p7017 := eq_true p7017
                                          replace q7017 := eq_true q7017
                                          have p7018 : 0 ≤ (x14_4 : Int) := of_decide_eq_true (by first | (with_reducible assumption) | assumption)
                                          have q7018 : x14_4 < (t7002.length : Int) := of_decide_eq_true (by first | (with_reducible assumption) | assumption)
                                          obtain ⟨ad7018, e7018, hx7018_0, hx7018_1⟩ := at_T36 (Kd.R_reads' HO_7.out).2.2 x14_4 p7018 q7018
                                          obtain rfl : ad7015 = ad7018 := (by injection e7018)
                                          replace p7018 := eq_true p7018
                                          replace q7018 := eq_true q7018
                                          have p7019 : 0 ≤ (x14_4 : Int) := of_decide_eq_true (by first | (with_reducible assumption) | assumption)
                                          have q7019 : x14_4 < (t7002.length : Int) := of_decide_eq_true (by first | (with_reducible assumption) | assumption)
                                          obtain ⟨ad7019, e7019, hx7019_0, hx7019_1⟩ := at_T36 (Kd.R_reads' HO_7.out).2.2 x14_4 p7019 q7019
                                          obtain rfl : ad7015 = ad7019 := (by injection e7019)
                                          replace p7019 := eq_true p7019
                                          replace q7019 := eq_true q7019
                                          have p7020 : 0 ≤ ((ji34) : Int) := of_decide_eq_true (by first | (with_reducible assumption) | assumption)
                                          have q7020 : (ji34) < (t7002.length : Int) := of_decide_eq_true (by first | (with_reducible assumption) | assumption)
                                          obtain ⟨ad7020, e7020, hx7020_0, hx7020_1⟩ := at_T36 (Kd.R_reads' HO_7.out).2.2 (ji34) p7020 q7020
                                          obtain rfl : ad7015 = ad7020 := (by injection e7020)
                                          replace p7020 := eq_true p7020
                                          replace q7020 := eq_true q7020
                                          go_wp2
                                          repeat (go_quiet (fail); try go_wp2)
                                          go_ret
                                          exact ⟨by first | rfl | (simp [errW_none, errW_some] <;> rfl) | (simp only [← hji34]; first | rfl | (simp [errW_none, errW_some] <;> rfl)) | (simp [*, errW_none, errW_some] <;> rfl), by repeat (first | (with_reducible first | exact HB.out | apply below_alloc | apply pw_below_drewN | apply below_drew1) | exact HB.out)⟩
                                        · rw [if_neg c37] at H
                                          have c37b0 : decide (((rd_T36 t7002 x14_4).f0) < ((rd_T36 t7002 (ji34)).f1)) = false := decide_eq_false c37
                                          clear c37
                                          have H' := Aside0.mk H
                                          clear H
                                          obtain ⟨Ao39, co39, eo39⟩ := Kd.R_slice HO_7.out
                                          subst eo39
                                          have p7015 : 0 ≤ (x14_4 : Int) := of_decide_eq_true (by first | (with_reducible assumption) | assumption)
                                          have q7015 : x14_4 < (t7002.length : Int) := of_decide_eq_true (by first | (with_reducible assumption) | assumption)
                                          obtain ⟨ad7015, e7015, hx7015_0, hx7015_1⟩ := at_T36 (Kd.R_reads' HO_7.out).2.2 x14_4 p7015 q7015
                                          cases e7015
                                          replace p7015 := eq_true p7015
                                          replace q7015 := eq_true q7015
                                          have p7016 : 0 ≤ (x14_4 : Int) := of_decide_eq_true (by first | (with_reducible assumption) | assumption)
                                          have q7016 : x14_4 < (t7002.length : Int) := of_decide_eq_true (by first | (with_reducible assumption) | assumption)
                                          obtain ⟨ad7016, e7016, hx7016_0, hx7016_1⟩ := at_T36 (Kd.R_reads' HO_7.out).2.2 x14_4 p7016 q7016
                                          obtain rfl : ad7015 = ad7016 := (by injection e7016)
                                          replace p7016 := eq_true p7016
                                          replace q7016 := eq_true q7016
                                          have p7017 : 0 ≤ (x14_4 : Int) := of_decide_eq_true (by first | (with_reducible assumption) | assumption)
                                          have q7017 : x14_4 < (t7002.length : Int) := of_decide_eq_true (by first | (with_reducible assumption) | assumption)
                                          obtain ⟨ad7017, e7017, hx7017_0, hx7017_1⟩ := at_T36 (Kd.R_reads' HO_7.out).2.2 x14_4 p7017 q7017
                                          obtain rfl : ad7015 = ad7017 := (by injection e7017)
                                          replace p7017 := eq_true p7017
                                          replace q7017 := eq_true q7017
                                          have p7018 : 0 ≤ (x14_4 : Int) := of_decide_eq_true (by first | (with_reducible assumption) | assumption)
                                          have q7018 : x14_4 < (t7002.length : Int) := of_decide_eq_true (by first | (with_reducible assumption) | assumption)
                                          obtain ⟨ad7018, e7018, hx7018_0, hx7018_1⟩ := at_T36 (Kd.R_reads' HO_7.out).2.2 x14_4 p7018 q7018
                                          obtain rfl : ad7015 = ad7018 := (by injection e7018)
                                          replace p7018 := eq_true p7018
                                          replace q7018 := eq_true q7018
                                          have p7019 : 0 ≤ (x14_4 : Int) := of_decide_eq_true (by first | (with_reducible assumption) | assumption)
                                          have q7019 : x14_4 < (t7002.length : Int) := of_decide_eq_true (by first | (with_reducible assumption) | assumption)
                                          obtain ⟨ad7019, e7019, hx7019_0, hx7019_1⟩ := at_T36 (Kd.R_reads' HO_7.out).2.2 x14_4 p7019 q7019
                                          obtain rfl : ad7015 = ad7019 := (by injection e7019)
                                          replace p7019 := eq_true p7019
                                          replace q7019 := eq_true q7019
                                          have p7020 : 0 ≤ ((ji34) : Int) := of_decide_eq_true (by first | (with_reducible assumption) | assumption)
                                          have q7020 : (ji34) < (t7002.length : Int) := of_decide_eq_true (by first | (with_reducible assumption) | assumption)
                                          obtain ⟨ad7020, e7020, hx7020_0, hx7020_1⟩ := at_T36 (Kd.R_reads' HO_7.out).2.2 (ji34) p7020 q7020
                                          obtain rfl : ad7015 = ad7020 := (by injection e7020)
                                          replace p7020 := eq_true p7020
                                          replace q7020 := eq_true q7020
                                          have p7021 : 0 ≤ (x14_4 : Int) := of_decide_eq_true (by first | (with_reducible assumption) | assumption)
                                          have q7021 : x14_4 < (t7002.length : Int) := of_decide_eq_true (by first | (with_reducible assumption) | assumption)
                                          obtain ⟨ad7021, e7021, hx7021_0, hx7021_1⟩ := at_T36 (Kd.R_reads' HO_7.out).2.2 x14_4 p7021 q7021
                                          obtain rfl : ad7015 = ad7021 := (by injection e7021)
                                          replace p7021 := eq_true p7021
                                          replace q7021 := eq_true q7021
                                          have p7022 : 0 ≤ (x14_4 : Int) := of_decide_eq_true (by first | (with_reducible assumption) | assumption)
                                          have q7022 : x14_4 < (t7002.length : Int) := of_decide_eq_true (by first | (with_reducible assumption) | assumption)
                                          obtain ⟨ad7022, e7022, hx7022_0, hx7022_1⟩ := at_T36 (Kd.R_reads' HO_7.out).2.2 x14_4 p7022 q7022
                                          obtain rfl : ad7015 = ad7022 := (by injection e7022)
                                          replace p7022 := eq_true p7022
                                          replace q7022 := eq_true q7022
                                          go_wp2
                                          repeat (go_quiet (fail); try go_wp2)
                                          go_roundg k4
                                          case measure => have := HJ3.out; have := HJ11.out; have := HJ19.out; have := HK4.out; omega
                                          case rel => exact ⟨(wrap64 ((wrap64 (x13_4 + ((rd_T36 t7002 x14_4).f1))) - ((rd_T36 t7002 x14_4).f0))), (wrap64 (x14_4 + 1)), (by first | rfl | (simp; done) | (simp [*]; done)), (by first | rfl | (simp; done) | (simp [*]; done)), H', ⟨by have := HJ3.out; have := HJ11.out; have := HJ19.out; have := HK4.out; omega⟩, ⟨by (with_reducible repeat (first | apply Kd.R_alloc | apply Kd.R_drewN | apply Kd.R_drew)); exact HO_7.out⟩, ⟨by (with_reducible repeat (first | apply Kd.R_alloc | apply Kd.R_drewN | apply Kd.R_drew)); exact HO_8.out⟩, ⟨by (with_reducible repeat (first | apply Kd.R_alloc | apply Kd.R_drewN | apply Kd.R_drew)); exact HO_10.out⟩, ⟨by repeat (first | (with_reducible first | exact HB.out | apply below_alloc | apply pw_below_drewN | apply below_drew1) | exact HB.out)⟩⟩
                                      · rw [if_neg c36] at H
                                        exact absurd H (by simp)
                                    · rw [if_neg c35] at H
                                      exact absurd H (by simp)
                                  · rw [if_neg c33] at H
                                    have c33b0 : decide (0 < x14_4) = false := decide_eq_false c33
                                    clear c33
                                    have H' := Aside0.mk H
                                    clear H
                                    obtain ⟨Ao40, co40, eo40⟩ := Kd.R_slice HO_7.out
                                    subst eo40
                                    have p7015 : 0 ≤ (x14_4 : Int) := of_decide_eq_true (by first | (with_reducible assumption) | assumption)
                                    have q7015 : x14_4 < (t7002.length : Int) := of_decide_eq_true (by first | (with_reducible assumption) | assumption)
                                    obtain ⟨ad7015, e7015, hx7015_0, hx7015_1⟩ := at_T36 (Kd.R_reads' HO_7.out).2.2 x14_4 p7015 q7015
                                    cases e7015
                                    replace p7015 := eq_true p7015
                                    replace q7015 := eq_true q7015
                                    have p7016 : 0 ≤ (x14_4 : Int) := of_decide_eq_true (by first | (with_reducible assumption) | assumption)
                                    have q7016 : x14_4 < (t7002.length : Int) := of_decide_eq_true (by first | (with_reducible assumption) | assumption)
                                    obtain ⟨ad7016, e7016, hx7016_0, hx7016_1⟩ := at_T36 (Kd.R_reads' HO_7.out).2.2 x14_4 p7016 q7016
                                    obtain rfl : ad7015 = ad7016 := (by injection e7016)
                                    replace p7016 := eq_true p7016
                                    replace q7016 := eq_true q7016
                                    have p7017 : 0 ≤ (x14_4 : Int) := of_decide_eq_true (by first | (with_reducible assumption) | assumption)
                                    have q7017 : x14_4 < (t7002.length : Int) := of_decide_eq_true (by first | (with_reducible assumption) | assumption)
                                    obtain ⟨ad7017, e7017, hx7017_0, hx7017_1⟩ := at_T36 (Kd.R_reads' HO_7.out).2.2 x14_4 p7017 q7017
                                    obtain rfl : ad7015 = ad7017 := (by injection e7017)
                                    replace p7017 := eq_true p7017
                                    replace q7017 := eq_true q7017
                                    have p7018 : 0 ≤ (x14_4 : Int) := of_decide_eq_true (by first | (with_reducible assumption) | assumption)
                                    have q7018 : x14_4 < (t7002.length : Int) := of_decide_eq_true (by first | (with_reducible assumption) | assumption)
                                    obtain ⟨ad7018, e7018, hx7018_0, hx7018_1⟩ := at_T36 (Kd.R_reads' HO_7.out).2.2 x14_4 p7018 q7018
                                    obtain rfl : ad7015 = ad7018 := (by injection e7018)
                                    replace p7018 := eq_true p7018
                                    replace q7018 := eq_true q7018
                                    have p7023 : 0 ≤ (x14_4 : Int) := of_decide_eq_true (by first | (with_reducible assumption) | assumption)
                                    have q7023 : x14_4 < (t7002.length : Int) := of_decide_eq_true (by first | (with_reducible assumption) | assumption)
                                    obtain ⟨ad7023, e7023, hx7023_0, hx7023_1⟩ := at_T36 (Kd.R_reads' HO_7.out).2.2 x14_4 p7023 q7023
                                    obtain rfl : ad7015 = ad7023 := (by injection e7023)
                                    replace p7023 := eq_true p7023
                                    replace q7023 := eq_true q7023
                                    have p7024 : 0 ≤ (x14_4 : Int) := of_decide_eq_true (by first | (with_reducible assumption) | assumption)
                                    have q7024 : x14_4 < (t7002.length : Int) := of_decide_eq_true (by first | (with_reducible assumption) | assumption)
                                    obtain ⟨ad7024, e7024, hx7024_0, hx7024_1⟩ := at_T36 (Kd.R_reads' HO_7.out).2.2 x14_4 p7024 q7024
                                    obtain rfl : ad7015 = ad7024 := (by injection e7024)
                                    replace p7024 := eq_true p7024
                                    replace q7024 := eq_true q7024
                                    go_wp2
                                    repeat (go_quiet (fail); try go_wp2)
                                    go_roundg k4
                                    case measure => have := HJ3.out; have := HJ11.out; have := HJ19.out; have := HK4.out; omega
                                    case rel => exact ⟨(wrap64 ((wrap64 (x13_4 + ((rd_T36 t7002 x14_4).f1))) - ((rd_T36 t7002 x14_4).f0))), (wrap64 (x14_4 + 1)), (by first | rfl | (simp; done) | (simp [*]; done)), (by first | rfl | (simp; done) | (simp [*]; done)), H', ⟨by have := HJ3.out; have := HJ11.out; have := HJ19.out; have := HK4.out; omega⟩, ⟨by (with_reducible repeat (first | apply Kd.R_alloc | apply Kd.R_drewN | apply Kd.R_drew)); exact HO_7.out⟩, ⟨by (with_reducible repeat (first | apply Kd.R_alloc | apply Kd.R_drewN | apply Kd.R_drew)); exact HO_8.out⟩, ⟨by (with_reducible repeat (first | apply Kd.R_alloc | apply Kd.R_drewN | apply Kd.R_drew)); exact HO_10.out⟩, ⟨by repeat (first | (with_reducible first | exact HB.out | apply below_alloc | apply pw_below_drewN | apply below_drew1) | exact HB.out)⟩⟩
                          · rw [if_neg c26] at H
                            exact absurd H (by simp)
                        · rw [if_neg c25] at H
                          have c25b0 : decide (x14_4 < (t7002.length : Int)) = false := decide_eq_false c25
                          clear c25
                          have H' := Aside0.mk H
                          clear H
                          obtain ⟨Ao41, co41, eo41⟩ := Kd.R_slice HO_7.out
                          subst eo41
                          go_wp2
                          repeat (go_quiet (fail); try go_wp2)
                          go_loopg [13, 15] k4 (fun kq v13 v15 w' => ∃ (x13_5 : Int) (x15_5 : Int), v13 = .int .i64 x13_5 ∧ v15 = .int .i64 x15_5 ∧ Aside0 (papermilllaw34_ReelCovers.l1 kq a2 t7002 t7003 t7010 x12_19 x13_5 x15_5 = some r) ∧ Aside0 (kq ≤ k4) ∧ Aside0 (Kd.R k36 36 w' w.heap.size (fun k_ => some k_ ≠ (v7007 : Value).ownBlock ∧ some k_ ≠ (v7012 : Value).ownBlock) (.slice Ao41 t7002.length co41) t7002) ∧ Aside0 (Kd.R k36 36 w' w.heap.size (fun k_ => some k_ ≠ ((.slice Ao41 t7002.length co41) : Value).ownBlock ∧ some k_ ≠ (v7012 : Value).ownBlock) v7007 t7003) ∧ Aside0 (Kd.R k36 36 w' w.heap.size (fun k_ => some k_ ≠ ((.slice Ao41 t7002.length co41) : Value).ownBlock ∧ some k_ ≠ (v7007 : Value).ownBlock) v7012 t7010) ∧ Aside0 (Below w.heap.size w w'))
                          case atStart => exact ⟨(x13_4), (0), (by first | rfl | (simp; done) | (simp [*]; done)), (by first | rfl | (simp; done) | (simp [*]; done)), H', ⟨Nat.le_refl _⟩, ⟨by (with_reducible repeat (first | apply Kd.R_alloc | apply Kd.R_drewN | apply Kd.R_drew)); exact HO_7.out⟩, ⟨by (with_reducible repeat (first | apply Kd.R_alloc | apply Kd.R_drewN | apply Kd.R_drew)); exact HO_8.out⟩, ⟨by (with_reducible repeat (first | apply Kd.R_alloc | apply Kd.R_drewN | apply Kd.R_drew)); exact HO_10.out⟩, ⟨by repeat (first | (with_reducible first | exact HB.out | apply below_alloc | apply pw_below_drewN | apply below_drew1) | exact HB.out)⟩⟩
                          case round => as_aux_lemma =>
                            clear H'
                            try clear c1
                            try clear c2
                            try clear p2
                            try clear c3
                            try clear c5
                            try clear c5b0
                            try clear c5b1
                            try clear c6
                            try clear p6
                            try clear p7
                            try clear q7
                            try clear hx7
                            try clear c10
                            try clear c10b0
                            try clear c10b1
                            try clear c15
                            try clear c15b0
                            try clear c15b1
                            try clear c19
                            try clear c21
                            try clear c21b0
                            try clear c21b1
                            try clear c23
                            try clear c23b0
                            try clear c24
                            try clear c24b0
                            try clear c25
                            try clear c25b0
                            try clear c26
                            try clear c26b0
                            try clear c27
                            try clear c27b0
                            try clear c29
                            try clear c29b0
                            try clear c31
                            try clear c31b0
                            try clear c33
                            try clear c33b0
                            try clear c35
                            try clear c35b0
                            try clear c36
                            try clear c36b0
                            try clear c37
                            try clear c37b0
                            try clear hx7014_0
                            try clear hx7014_1
                            try clear hx7014_2
                            try clear hx7014_3
                            try clear hx7014_4
                            try clear hx7015_0
                            try clear hx7015_1
                            try clear hx7016_0
                            try clear hx7016_1
                            try clear hx7017_0
                            try clear hx7017_1
                            try clear hx7018_0
                            try clear hx7018_1
                            try clear hx7019_0
                            try clear hx7019_1
                            try clear hx7020_0
                            try clear hx7020_1
                            try clear hx7021_0
                            try clear hx7021_1
                            try clear hx7022_0
                            try clear hx7022_1
                            try clear hx7023_0
                            try clear hx7023_1
                            try clear hx7024_0
                            try clear hx7024_1
                            try clear p2
                            try clear p6
                            try clear p7
                            try clear p7014
                            try clear p7015
                            try clear p7016
                            try clear p7017
                            try clear p7018
                            try clear p7019
                            try clear p7020
                            try clear p7021
                            try clear p7022
                            try clear p7023
                            try clear p7024
                            try clear q7
                            try clear q7014
                            try clear q7015
                            try clear q7016
                            try clear q7017
                            try clear q7018
                            try clear q7019
                            try clear q7020
                            try clear q7021
                            try clear q7022
                            try clear q7023
                            try clear q7024
                            obtain ⟨x13_5, x15_5, rfl, rfl, HA, HK5, HO_7, HO_8, HO_10, HB⟩ := hrel
                            cases gk with
                            | zero => exact absurd HA.out (by simp [papermilllaw34_ReelCovers.l1])
                            | succ k5 =>
                              have H := HA.out
                              clear HA
                              simp only [papermilllaw34_ReelCovers.l1] at H
                              by_cases c42 : x15_5 < (t7003.length : Int)
                              · rw [if_pos c42] at H
                                have c42b0 : decide (x15_5 < (t7003.length : Int)) = true := decide_eq_true c42
                                clear c42
                                by_cases c43 : 0 ≤ x15_5
                                · rw [if_pos c43] at H
                                  have c43b0 : decide (0 ≤ x15_5) = true := decide_eq_true c43
                                  clear c43
                                  by_cases c44 : ((rd_T36 t7003 x15_5).f0) < 0
                                  · rw [if_pos c44] at H
                                    have c44b0 : decide (((rd_T36 t7003 x15_5).f0) < 0) = true := decide_eq_true c44
                                    clear c44
                                    obtain rfl := Option.some.inj H
                                    obtain ⟨Ao45, co45, eo45⟩ := Kd.R_slice HO_8.out
                                    subst eo45
                                    have p7025 : 0 ≤ (x15_5 : Int) := of_decide_eq_true (by first | (with_reducible assumption) | assumption)
                                    have q7025 : x15_5 < (t7003.length : Int) := of_decide_eq_true (by first | (with_reducible assumption) | assumption)
                                    obtain ⟨ad7025, e7025, hx7025_0, hx7025_1⟩ := at_T36 (Kd.R_reads' HO_8.out).2.2 x15_5 p7025 q7025
                                    cases e7025
                                    replace p7025 := eq_true p7025
                                    replace q7025 := eq_true q7025
                                    have p7026 : 0 ≤ (x15_5 : Int) := of_decide_eq_true (by first | (with_reducible assumption) | assumption)
                                    have q7026 : x15_5 < (t7003.length : Int) := of_decide_eq_true (by first | (with_reducible assumption) | assumption)
                                    obtain ⟨ad7026, e7026, hx7026_0, hx7026_1⟩ := at_T36 (Kd.R_reads' HO_8.out).2.2 x15_5 p7026 q7026
                                    obtain rfl : ad7025 = ad7026 := (by injection e7026)
                                    replace p7026 := eq_true p7026
                                    replace q7026 := eq_true q7026
                                    have p7027 : 0 ≤ (x15_5 : Int) := of_decide_eq_true (by first | (with_reducible assumption) | assumption)
                                    have q7027 : x15_5 < (t7003.length : Int) := of_decide_eq_true (by first | (with_reducible assumption) | assumption)
                                    obtain ⟨ad7027, e7027, hx7027_0, hx7027_1⟩ := at_T36 (Kd.R_reads' HO_8.out).2.2 x15_5 p7027 q7027
                                    obtain rfl : ad7025 = ad7027 := (by injection e7027)
                                    replace p7027 := eq_true p7027
                                    replace q7027 := eq_true q7027
                                    go_wp2
                                    repeat (go_quiet (fail); try go_wp2)
                                    go_ret
                                    exact ⟨by first | rfl | (simp [errW_none, errW_some] <;> rfl) | (simp [*, errW_none, errW_some] <;> rfl), by repeat (first | (with_reducible first | exact HB.out | apply below_alloc | apply pw_below_drewN | apply below_drew1) | exact HB.out)⟩
                                  · rw [if_neg c44] at H
                                    have c44b0 : decide (((rd_T36 t7003 x15_5).f0) < 0) = false := decide_eq_false c44
                                    clear c44
                                    by_cases c46 : ((rd_T36 t7003 x15_5).f1) > x12_19
                                    · rw [if_pos c46] at H
                                      have c46b0 : decide (x12_19 < ((rd_T36 t7003 x15_5).f1)) = true := decide_eq_true c46
                                      clear c46
                                      obtain rfl := Option.some.inj H
                                      obtain ⟨Ao47, co47, eo47⟩ := Kd.R_slice HO_8.out
                                      subst eo47
                                      have p7025 : 0 ≤ (x15_5 : Int) := of_decide_eq_true (by first | (with_reducible assumption) | assumption)
                                      have q7025 : x15_5 < (t7003.length : Int) := of_decide_eq_true (by first | (with_reducible assumption) | assumption)
                                      obtain ⟨ad7025, e7025, hx7025_0, hx7025_1⟩ := at_T36 (Kd.R_reads' HO_8.out).2.2 x15_5 p7025 q7025
                                      cases e7025
                                      replace p7025 := eq_true p7025
                                      replace q7025 := eq_true q7025
                                      have p7026 : 0 ≤ (x15_5 : Int) := of_decide_eq_true (by first | (with_reducible assumption) | assumption)
                                      have q7026 : x15_5 < (t7003.length : Int) := of_decide_eq_true (by first | (with_reducible assumption) | assumption)
                                      obtain ⟨ad7026, e7026, hx7026_0, hx7026_1⟩ := at_T36 (Kd.R_reads' HO_8.out).2.2 x15_5 p7026 q7026
                                      obtain rfl : ad7025 = ad7026 := (by injection e7026)
                                      replace p7026 := eq_true p7026
                                      replace q7026 := eq_true q7026
                                      have p7027 : 0 ≤ (x15_5 : Int) := of_decide_eq_true (by first | (with_reducible assumption) | assumption)
                                      have q7027 : x15_5 < (t7003.length : Int) := of_decide_eq_true (by first | (with_reducible assumption) | assumption)
                                      obtain ⟨ad7027, e7027, hx7027_0, hx7027_1⟩ := at_T36 (Kd.R_reads' HO_8.out).2.2 x15_5 p7027 q7027
                                      obtain rfl : ad7025 = ad7027 := (by injection e7027)
                                      replace p7027 := eq_true p7027
                                      replace q7027 := eq_true q7027
                                      have p7028 : 0 ≤ (x15_5 : Int) := of_decide_eq_true (by first | (with_reducible assumption) | assumption)
                                      have q7028 : x15_5 < (t7003.length : Int) := of_decide_eq_true (by first | (with_reducible assumption) | assumption)
                                      obtain ⟨ad7028, e7028, hx7028_0, hx7028_1⟩ := at_T36 (Kd.R_reads' HO_8.out).2.2 x15_5 p7028 q7028
                                      obtain rfl : ad7025 = ad7028 := (by injection e7028)
                                      replace p7028 := eq_true p7028
                                      replace q7028 := eq_true q7028
                                      go_wp2
                                      repeat (go_quiet (fail); try go_wp2)
                                      go_ret
                                      exact ⟨by first | rfl | (simp [errW_none, errW_some] <;> rfl) | (simp [*, errW_none, errW_some] <;> rfl), by repeat (first | (with_reducible first | exact HB.out | apply below_alloc | apply pw_below_drewN | apply below_drew1) | exact HB.out)⟩
                                    · rw [if_neg c46] at H
                                      have c46b0 : decide (x12_19 < ((rd_T36 t7003 x15_5).f1)) = false := decide_eq_false c46
                                      clear c46
                                      by_cases c48 : (wrap64 (((rd_T36 t7003 x15_5).f1) - ((rd_T36 t7003 x15_5).f0))) < 1
                                      · rw [if_pos c48] at H
                                        have c48b0 : decide ((wrap64 (((rd_T36 t7003 x15_5).f1) - ((rd_T36 t7003 x15_5).f0))) < 1) = true := decide_eq_true c48
                                        clear c48
                                        obtain rfl := Option.some.inj H
                                        obtain ⟨Ao49, co49, eo49⟩ := Kd.R_slice HO_8.out
                                        subst eo49
                                        have p7025 : 0 ≤ (x15_5 : Int) := of_decide_eq_true (by first | (with_reducible assumption) | assumption)
                                        have q7025 : x15_5 < (t7003.length : Int) := of_decide_eq_true (by first | (with_reducible assumption) | assumption)
                                        obtain ⟨ad7025, e7025, hx7025_0, hx7025_1⟩ := at_T36 (Kd.R_reads' HO_8.out).2.2 x15_5 p7025 q7025
                                        cases e7025
                                        replace p7025 := eq_true p7025
                                        replace q7025 := eq_true q7025
                                        have p7026 : 0 ≤ (x15_5 : Int) := of_decide_eq_true (by first | (with_reducible assumption) | assumption)
                                        have q7026 : x15_5 < (t7003.length : Int) := of_decide_eq_true (by first | (with_reducible assumption) | assumption)
                                        obtain ⟨ad7026, e7026, hx7026_0, hx7026_1⟩ := at_T36 (Kd.R_reads' HO_8.out).2.2 x15_5 p7026 q7026
                                        obtain rfl : ad7025 = ad7026 := (by injection e7026)
                                        replace p7026 := eq_true p7026
                                        replace q7026 := eq_true q7026
                                        have p7027 : 0 ≤ (x15_5 : Int) := of_decide_eq_true (by first | (with_reducible assumption) | assumption)
                                        have q7027 : x15_5 < (t7003.length : Int) := of_decide_eq_true (by first | (with_reducible assumption) | assumption)
                                        obtain ⟨ad7027, e7027, hx7027_0, hx7027_1⟩ := at_T36 (Kd.R_reads' HO_8.out).2.2 x15_5 p7027 q7027
                                        obtain rfl : ad7025 = ad7027 := (by injection e7027)
                                        replace p7027 := eq_true p7027
                                        replace q7027 := eq_true q7027
                                        have p7028 : 0 ≤ (x15_5 : Int) := of_decide_eq_true (by first | (with_reducible assumption) | assumption)
                                        have q7028 : x15_5 < (t7003.length : Int) := of_decide_eq_true (by first | (with_reducible assumption) | assumption)
                                        obtain ⟨ad7028, e7028, hx7028_0, hx7028_1⟩ := at_T36 (Kd.R_reads' HO_8.out).2.2 x15_5 p7028 q7028
                                        obtain rfl : ad7025 = ad7028 := (by injection e7028)
                                        replace p7028 := eq_true p7028
                                        replace q7028 := eq_true q7028
                                        go_wp2
                                        repeat (go_quiet (fail); try go_wp2)
                                        go_ret
                                        exact ⟨by first | rfl | (simp [errW_none, errW_some] <;> rfl) | (simp [*, errW_none, errW_some] <;> rfl), by repeat (first | (with_reducible first | exact HB.out | apply below_alloc | apply pw_below_drewN | apply below_drew1) | exact HB.out)⟩
                                      · rw [if_neg c48] at H
                                        have c48b0 : decide ((wrap64 (((rd_T36 t7003 x15_5).f1) - ((rd_T36 t7003 x15_5).f0))) < 1) = false := decide_eq_false c48
                                        clear c48
                                        by_cases c50 : (wrap64 (((rd_T36 t7003 x15_5).f1) - ((rd_T36 t7003 x15_5).f0))) ≥ a2
                                        · rw [if_pos c50] at H
                                          have c50b0 : decide (a2 ≤ (wrap64 (((rd_T36 t7003 x15_5).f1) - ((rd_T36 t7003 x15_5).f0)))) = true := decide_eq_true c50
                                          clear c50
                                          obtain rfl := Option.some.inj H
                                          obtain ⟨Ao51, co51, eo51⟩ := Kd.R_slice HO_8.out
                                          subst eo51
                                          have p7025 : 0 ≤ (x15_5 : Int) := of_decide_eq_true (by first | (with_reducible assumption) | assumption)
                                          have q7025 : x15_5 < (t7003.length : Int) := of_decide_eq_true (by first | (with_reducible assumption) | assumption)
                                          obtain ⟨ad7025, e7025, hx7025_0, hx7025_1⟩ := at_T36 (Kd.R_reads' HO_8.out).2.2 x15_5 p7025 q7025
                                          cases e7025
                                          replace p7025 := eq_true p7025
                                          replace q7025 := eq_true q7025
                                          have p7026 : 0 ≤ (x15_5 : Int) := of_decide_eq_true (by first | (with_reducible assumption) | assumption)
                                          have q7026 : x15_5 < (t7003.length : Int) := of_decide_eq_true (by first | (with_reducible assumption) | assumption)
                                          obtain ⟨ad7026, e7026, hx7026_0, hx7026_1⟩ := at_T36 (Kd.R_reads' HO_8.out).2.2 x15_5 p7026 q7026
                                          obtain rfl : ad7025 = ad7026 := (by injection e7026)
                                          replace p7026 := eq_true p7026
                                          replace q7026 := eq_true q7026
                                          have p7027 : 0 ≤ (x15_5 : Int) := of_decide_eq_true (by first | (with_reducible assumption) | assumption)
                                          have q7027 : x15_5 < (t7003.length : Int) := of_decide_eq_true (by first | (with_reducible assumption) | assumption)
                                          obtain ⟨ad7027, e7027, hx7027_0, hx7027_1⟩ := at_T36 (Kd.R_reads' HO_8.out).2.2 x15_5 p7027 q7027
                                          obtain rfl : ad7025 = ad7027 := (by injection e7027)
                                          replace p7027 := eq_true p7027
                                          replace q7027 := eq_true q7027
                                          have p7028 : 0 ≤ (x15_5 : Int) := of_decide_eq_true (by first | (with_reducible assumption) | assumption)
                                          have q7028 : x15_5 < (t7003.length : Int) := of_decide_eq_true (by first | (with_reducible assumption) | assumption)
                                          obtain ⟨ad7028, e7028, hx7028_0, hx7028_1⟩ := at_T36 (Kd.R_reads' HO_8.out).2.2 x15_5 p7028 q7028
                                          obtain rfl : ad7025 = ad7028 := (by injection e7028)
                                          replace p7028 := eq_true p7028
                                          replace q7028 := eq_true q7028
                                          go_wp2
                                          repeat (go_quiet (fail); try go_wp2)
                                          go_ret
                                          exact ⟨by first | rfl | (simp [errW_none, errW_some] <;> rfl) | (simp [*, errW_none, errW_some] <;> rfl), by repeat (first | (with_reducible first | exact HB.out | apply below_alloc | apply pw_below_drewN | apply below_drew1) | exact HB.out)⟩
                                        · rw [if_neg c50] at H
                                          have c50b0 : decide (a2 ≤ (wrap64 (((rd_T36 t7003 x15_5).f1) - ((rd_T36 t7003 x15_5).f0)))) = false := decide_eq_false c50
                                          clear c50
                                          by_cases c52 : x15_5 > 0
                                          · rw [if_pos c52] at H
                                            have c52b0 : decide (0 < x15_5) = true := decide_eq_true c52
                                            clear c52
                                            obtain ⟨ji53, hji53⟩ : ∃ j_ : Int, (wrap64 (x15_5 - 1)) = j_ := ⟨_, rfl⟩
                                            replace H : (if 0 ≤ (ji53) then (if (ji53) < (t7003.length : Int) then (if ((rd_T36 t7003 x15_5).f0) < ((rd_T36 t7003 (ji53)).f1) then (some false) else (papermilllaw34_ReelCovers.l1 k5 a2 t7002 t7003 t7010 x12_19 (wrap64 (x13_5 + (wrap64 (((rd_T36 t7003 x15_5).f1) - ((rd_T36 t7003 x15_5).f0))))) (wrap64 (x15_5 + 1)))) else (none)) else (none)) = some r := by first | (rw [hji53] at H; exact H) | (simp only [hji53] at H ⊢; exact H)
                                            have hji53w : (IntKind.i64.wrap (x15_5 - 1)) = ji53 := (i64_w _).trans hji53
                                            by_cases c54 : 0 ≤ (ji53)
                                            · rw [if_pos c54] at H
                                              have c54b0 : decide (0 ≤ (ji53)) = true := decide_eq_true c54
                                              clear c54
                                              by_cases c55 : (ji53) < (t7003.length : Int)
                                              · rw [if_pos c55] at H
                                                have c55b0 : decide ((ji53) < (t7003.length : Int)) = true := decide_eq_true c55
                                                clear c55
                                                by_cases c56 : ((rd_T36 t7003 x15_5).f0) < ((rd_T36 t7003 (ji53)).f1)
                                                · rw [if_pos c56] at H
                                                  have c56b0 : decide (((rd_T36 t7003 x15_5).f0) < ((rd_T36 t7003 (ji53)).f1)) = true := decide_eq_true c56
                                                  clear c56
                                                  obtain rfl := Option.some.inj H
                                                  obtain ⟨Ao57, co57, eo57⟩ := Kd.R_slice HO_8.out
                                                  subst eo57
                                                  have p7025 : 0 ≤ (x15_5 : Int) := of_decide_eq_true (by first | (with_reducible assumption) | assumption)
                                                  have q7025 : x15_5 < (t7003.length : Int) := of_decide_eq_true (by first | (with_reducible assumption) | assumption)
                                                  obtain ⟨ad7025, e7025, hx7025_0, hx7025_1⟩ := at_T36 (Kd.R_reads' HO_8.out).2.2 x15_5 p7025 q7025
                                                  cases e7025
                                                  replace p7025 := eq_true p7025
                                                  replace q7025 := eq_true q7025
                                                  have p7026 : 0 ≤ (x15_5 : Int) := of_decide_eq_true (by first | (with_reducible assumption) | assumption)
                                                  have q7026 : x15_5 < (t7003.length : Int) := of_decide_eq_true (by first | (with_reducible assumption) | assumption)
                                                  obtain ⟨ad7026, e7026, hx7026_0, hx7026_1⟩ := at_T36 (Kd.R_reads' HO_8.out).2.2 x15_5 p7026 q7026
                                                  obtain rfl : ad7025 = ad7026 := (by injection e7026)
                                                  replace p7026 := eq_true p7026
                                                  replace q7026 := eq_true q7026
                                                  have p7027 : 0 ≤ (x15_5 : Int) := of_decide_eq_true (by first | (with_reducible assumption) | assumption)
                                                  have q7027 : x15_5 < (t7003.length : Int) := of_decide_eq_true (by first | (with_reducible assumption) | assumption)
                                                  obtain ⟨ad7027, e7027, hx7027_0, hx7027_1⟩ := at_T36 (Kd.R_reads' HO_8.out).2.2 x15_5 p7027 q7027
                                                  obtain rfl : ad7025 = ad7027 := (by injection e7027)
                                                  replace p7027 := eq_true p7027
                                                  replace q7027 := eq_true q7027
                                                  have p7028 : 0 ≤ (x15_5 : Int) := of_decide_eq_true (by first | (with_reducible assumption) | assumption)
                                                  have q7028 : x15_5 < (t7003.length : Int) := of_decide_eq_true (by first | (with_reducible assumption) | assumption)
                                                  obtain ⟨ad7028, e7028, hx7028_0, hx7028_1⟩ := at_T36 (Kd.R_reads' HO_8.out).2.2 x15_5 p7028 q7028
                                                  obtain rfl : ad7025 = ad7028 := (by injection e7028)
                                                  replace p7028 := eq_true p7028
                                                  replace q7028 := eq_true q7028
                                                  have p7029 : 0 ≤ (x15_5 : Int) := of_decide_eq_true (by first | (with_reducible assumption) | assumption)
                                                  have q7029 : x15_5 < (t7003.length : Int) := of_decide_eq_true (by first | (with_reducible assumption) | assumption)
                                                  obtain ⟨ad7029, e7029, hx7029_0, hx7029_1⟩ := at_T36 (Kd.R_reads' HO_8.out).2.2 x15_5 p7029 q7029
                                                  obtain rfl : ad7025 = ad7029 := (by injection e7029)
                                                  replace p7029 := eq_true p7029
                                                  replace q7029 := eq_true q7029
                                                  have p7030 : 0 ≤ ((ji53) : Int) := of_decide_eq_true (by first | (with_reducible assumption) | assumption)
                                                  have q7030 : (ji53) < (t7003.length : Int) := of_decide_eq_true (by first | (with_reducible assumption) | assumption)
                                                  obtain ⟨ad7030, e7030, hx7030_0, hx7030_1⟩ := at_T36 (Kd.R_reads' HO_8.out).2.2 (ji53) p7030 q7030
                                                  obtain rfl : ad7025 = ad7030 := (by injection e7030)
                                                  replace p7030 := eq_true p7030
                                                  replace q7030 := eq_true q7030
                                                  go_wp2
                                                  repeat (go_quiet (fail); try go_wp2)
                                                  go_ret
                                                  exact ⟨by first | rfl | (simp [errW_none, errW_some] <;> rfl) | (simp only [← hji53]; first | rfl | (simp [errW_none, errW_some] <;> rfl)) | (simp [*, errW_none, errW_some] <;> rfl), by repeat (first | (with_reducible first | exact HB.out | apply below_alloc | apply pw_below_drewN | apply below_drew1) | exact HB.out)⟩
                                                · rw [if_neg c56] at H
                                                  have c56b0 : decide (((rd_T36 t7003 x15_5).f0) < ((rd_T36 t7003 (ji53)).f1)) = false := decide_eq_false c56
                                                  clear c56
                                                  have H' := Aside0.mk H
                                                  clear H
                                                  obtain ⟨Ao58, co58, eo58⟩ := Kd.R_slice HO_8.out
                                                  subst eo58
                                                  have p7025 : 0 ≤ (x15_5 : Int) := of_decide_eq_true (by first | (with_reducible assumption) | assumption)
                                                  have q7025 : x15_5 < (t7003.length : Int) := of_decide_eq_true (by first | (with_reducible assumption) | assumption)
                                                  obtain ⟨ad7025, e7025, hx7025_0, hx7025_1⟩ := at_T36 (Kd.R_reads' HO_8.out).2.2 x15_5 p7025 q7025
                                                  cases e7025
                                                  replace p7025 := eq_true p7025
                                                  replace q7025 := eq_true q7025
                                                  have p7026 : 0 ≤ (x15_5 : Int) := of_decide_eq_true (by first | (with_reducible assumption) | assumption)
                                                  have q7026 : x15_5 < (t7003.length : Int) := of_decide_eq_true (by first | (with_reducible assumption) | assumption)
                                                  obtain ⟨ad7026, e7026, hx7026_0, hx7026_1⟩ := at_T36 (Kd.R_reads' HO_8.out).2.2 x15_5 p7026 q7026
                                                  obtain rfl : ad7025 = ad7026 := (by injection e7026)
                                                  replace p7026 := eq_true p7026
                                                  replace q7026 := eq_true q7026
                                                  have p7027 : 0 ≤ (x15_5 : Int) := of_decide_eq_true (by first | (with_reducible assumption) | assumption)
                                                  have q7027 : x15_5 < (t7003.length : Int) := of_decide_eq_true (by first | (with_reducible assumption) | assumption)
                                                  obtain ⟨ad7027, e7027, hx7027_0, hx7027_1⟩ := at_T36 (Kd.R_reads' HO_8.out).2.2 x15_5 p7027 q7027
                                                  obtain rfl : ad7025 = ad7027 := (by injection e7027)
                                                  replace p7027 := eq_true p7027
                                                  replace q7027 := eq_true q7027
                                                  have p7028 : 0 ≤ (x15_5 : Int) := of_decide_eq_true (by first | (with_reducible assumption) | assumption)
                                                  have q7028 : x15_5 < (t7003.length : Int) := of_decide_eq_true (by first | (with_reducible assumption) | assumption)
                                                  obtain ⟨ad7028, e7028, hx7028_0, hx7028_1⟩ := at_T36 (Kd.R_reads' HO_8.out).2.2 x15_5 p7028 q7028
                                                  obtain rfl : ad7025 = ad7028 := (by injection e7028)
                                                  replace p7028 := eq_true p7028
                                                  replace q7028 := eq_true q7028
                                                  have p7029 : 0 ≤ (x15_5 : Int) := of_decide_eq_true (by first | (with_reducible assumption) | assumption)
                                                  have q7029 : x15_5 < (t7003.length : Int) := of_decide_eq_true (by first | (with_reducible assumption) | assumption)
                                                  obtain ⟨ad7029, e7029, hx7029_0, hx7029_1⟩ := at_T36 (Kd.R_reads' HO_8.out).2.2 x15_5 p7029 q7029
                                                  obtain rfl : ad7025 = ad7029 := (by injection e7029)
                                                  replace p7029 := eq_true p7029
                                                  replace q7029 := eq_true q7029
                                                  have p7030 : 0 ≤ ((ji53) : Int) := of_decide_eq_true (by first | (with_reducible assumption) | assumption)
                                                  have q7030 : (ji53) < (t7003.length : Int) := of_decide_eq_true (by first | (with_reducible assumption) | assumption)
                                                  obtain ⟨ad7030, e7030, hx7030_0, hx7030_1⟩ := at_T36 (Kd.R_reads' HO_8.out).2.2 (ji53) p7030 q7030
                                                  obtain rfl : ad7025 = ad7030 := (by injection e7030)
                                                  replace p7030 := eq_true p7030
                                                  replace q7030 := eq_true q7030
                                                  go_wp2
                                                  repeat (go_quiet (fail); try go_wp2)
                                                  go_roundg k5
                                                  case measure => have := HJ3.out; have := HJ11.out; have := HJ19.out; have := HK4.out; have := HK5.out; omega
                                                  case rel => exact ⟨(wrap64 (x13_5 + (wrap64 (((rd_T36 t7003 x15_5).f1) - ((rd_T36 t7003 x15_5).f0))))), (wrap64 (x15_5 + 1)), (by first | rfl | (simp; done) | (simp [*]; done)), (by first | rfl | (simp; done) | (simp [*]; done)), H', ⟨by have := HJ3.out; have := HJ11.out; have := HJ19.out; have := HK4.out; have := HK5.out; omega⟩, ⟨by (with_reducible repeat (first | apply Kd.R_alloc | apply Kd.R_drewN | apply Kd.R_drew)); exact HO_7.out⟩, ⟨by (with_reducible repeat (first | apply Kd.R_alloc | apply Kd.R_drewN | apply Kd.R_drew)); exact HO_8.out⟩, ⟨by (with_reducible repeat (first | apply Kd.R_alloc | apply Kd.R_drewN | apply Kd.R_drew)); exact HO_10.out⟩, ⟨by repeat (first | (with_reducible first | exact HB.out | apply below_alloc | apply pw_below_drewN | apply below_drew1) | exact HB.out)⟩⟩
                                              · rw [if_neg c55] at H
                                                exact absurd H (by simp)
                                            · rw [if_neg c54] at H
                                              exact absurd H (by simp)
                                          · rw [if_neg c52] at H
                                            have c52b0 : decide (0 < x15_5) = false := decide_eq_false c52
                                            clear c52
                                            have H' := Aside0.mk H
                                            clear H
                                            obtain ⟨Ao59, co59, eo59⟩ := Kd.R_slice HO_8.out
                                            subst eo59
                                            have p7025 : 0 ≤ (x15_5 : Int) := of_decide_eq_true (by first | (with_reducible assumption) | assumption)
                                            have q7025 : x15_5 < (t7003.length : Int) := of_decide_eq_true (by first | (with_reducible assumption) | assumption)
                                            obtain ⟨ad7025, e7025, hx7025_0, hx7025_1⟩ := at_T36 (Kd.R_reads' HO_8.out).2.2 x15_5 p7025 q7025
                                            cases e7025
                                            replace p7025 := eq_true p7025
                                            replace q7025 := eq_true q7025
                                            have p7026 : 0 ≤ (x15_5 : Int) := of_decide_eq_true (by first | (with_reducible assumption) | assumption)
                                            have q7026 : x15_5 < (t7003.length : Int) := of_decide_eq_true (by first | (with_reducible assumption) | assumption)
                                            obtain ⟨ad7026, e7026, hx7026_0, hx7026_1⟩ := at_T36 (Kd.R_reads' HO_8.out).2.2 x15_5 p7026 q7026
                                            obtain rfl : ad7025 = ad7026 := (by injection e7026)
                                            replace p7026 := eq_true p7026
                                            replace q7026 := eq_true q7026
                                            have p7027 : 0 ≤ (x15_5 : Int) := of_decide_eq_true (by first | (with_reducible assumption) | assumption)
                                            have q7027 : x15_5 < (t7003.length : Int) := of_decide_eq_true (by first | (with_reducible assumption) | assumption)
                                            obtain ⟨ad7027, e7027, hx7027_0, hx7027_1⟩ := at_T36 (Kd.R_reads' HO_8.out).2.2 x15_5 p7027 q7027
                                            obtain rfl : ad7025 = ad7027 := (by injection e7027)
                                            replace p7027 := eq_true p7027
                                            replace q7027 := eq_true q7027
                                            have p7028 : 0 ≤ (x15_5 : Int) := of_decide_eq_true (by first | (with_reducible assumption) | assumption)
                                            have q7028 : x15_5 < (t7003.length : Int) := of_decide_eq_true (by first | (with_reducible assumption) | assumption)
                                            obtain ⟨ad7028, e7028, hx7028_0, hx7028_1⟩ := at_T36 (Kd.R_reads' HO_8.out).2.2 x15_5 p7028 q7028
                                            obtain rfl : ad7025 = ad7028 := (by injection e7028)
                                            replace p7028 := eq_true p7028
                                            replace q7028 := eq_true q7028
                                            go_wp2
                                            repeat (go_quiet (fail); try go_wp2)
                                            go_roundg k5
                                            case measure => have := HJ3.out; have := HJ11.out; have := HJ19.out; have := HK4.out; have := HK5.out; omega
                                            case rel => exact ⟨(wrap64 (x13_5 + (wrap64 (((rd_T36 t7003 x15_5).f1) - ((rd_T36 t7003 x15_5).f0))))), (wrap64 (x15_5 + 1)), (by first | rfl | (simp; done) | (simp [*]; done)), (by first | rfl | (simp; done) | (simp [*]; done)), H', ⟨by have := HJ3.out; have := HJ11.out; have := HJ19.out; have := HK4.out; have := HK5.out; omega⟩, ⟨by (with_reducible repeat (first | apply Kd.R_alloc | apply Kd.R_drewN | apply Kd.R_drew)); exact HO_7.out⟩, ⟨by (with_reducible repeat (first | apply Kd.R_alloc | apply Kd.R_drewN | apply Kd.R_drew)); exact HO_8.out⟩, ⟨by (with_reducible repeat (first | apply Kd.R_alloc | apply Kd.R_drewN | apply Kd.R_drew)); exact HO_10.out⟩, ⟨by repeat (first | (with_reducible first | exact HB.out | apply below_alloc | apply pw_below_drewN | apply below_drew1) | exact HB.out)⟩⟩
                                · rw [if_neg c43] at H
                                  exact absurd H (by simp)
                              · rw [if_neg c42] at H
                                have c42b0 : decide (x15_5 < (t7003.length : Int)) = false := decide_eq_false c42
                                clear c42
                                have H' := Aside0.mk H
                                clear H
                                obtain ⟨Ao60, co60, eo60⟩ := Kd.R_slice HO_8.out
                                subst eo60
                                go_wp2
                                repeat (go_quiet (fail); try go_wp2)
                                go_loopg [13, 17] k5 (fun kq v13 v17 w' => ∃ (x13_6 : Int) (x17_6 : Int), v13 = .int .i64 x13_6 ∧ v17 = .int .i64 x17_6 ∧ Aside0 (papermilllaw34_ReelCovers.l2 kq t7002 t7003 t7010 x12_19 x13_6 x17_6 = some r) ∧ Aside0 (kq ≤ k5) ∧ Aside0 (Kd.R k36 36 w' w.heap.size (fun k_ => some k_ ≠ ((.slice Ao60 t7003.length co60) : Value).ownBlock ∧ some k_ ≠ (v7012 : Value).ownBlock) (.slice Ao41 t7002.length co41) t7002) ∧ Aside0 (Kd.R k36 36 w' w.heap.size (fun k_ => some k_ ≠ ((.slice Ao41 t7002.length co41) : Value).ownBlock ∧ some k_ ≠ (v7012 : Value).ownBlock) (.slice Ao60 t7003.length co60) t7003) ∧ Aside0 (Kd.R k36 36 w' w.heap.size (fun k_ => some k_ ≠ ((.slice Ao41 t7002.length co41) : Value).ownBlock ∧ some k_ ≠ ((.slice Ao60 t7003.length co60) : Value).ownBlock) v7012 t7010) ∧ Aside0 (Below w.heap.size w w'))
                                case atStart => exact ⟨(x13_5), (0), (by first | rfl | (simp; done) | (simp [*]; done)), (by first | rfl | (simp; done) | (simp [*]; done)), H', ⟨Nat.le_refl _⟩, ⟨by (with_reducible repeat (first | apply Kd.R_alloc | apply Kd.R_drewN | apply Kd.R_drew)); exact HO_7.out⟩, ⟨by (with_reducible repeat (first | apply Kd.R_alloc | apply Kd.R_drewN | apply Kd.R_drew)); exact HO_8.out⟩, ⟨by (with_reducible repeat (first | apply Kd.R_alloc | apply Kd.R_drewN | apply Kd.R_drew)); exact HO_10.out⟩, ⟨by repeat (first | (with_reducible first | exact HB.out | apply below_alloc | apply pw_below_drewN | apply below_drew1) | exact HB.out)⟩⟩
                                case round => as_aux_lemma =>
                                  clear H'
                                  try clear c1
                                  try clear c2
                                  try clear p2
                                  try clear c3
                                  try clear c4
                                  try clear c5
                                  try clear c5b0
                                  try clear c5b1
                                  try clear c6
                                  try clear p6
                                  try clear p7
                                  try clear q7
                                  try clear hx7
                                  try clear c10
                                  try clear c10b0
                                  try clear c10b1
                                  try clear c15
                                  try clear c15b0
                                  try clear c15b1
                                  try clear c19
                                  try clear c21
                                  try clear c21b0
                                  try clear c21b1
                                  try clear c23
                                  try clear c23b0
                                  try clear c24
                                  try clear c24b0
                                  try clear c25
                                  try clear c25b0
                                  try clear c26
                                  try clear c26b0
                                  try clear c27
                                  try clear c27b0
                                  try clear c29
                                  try clear c29b0
                                  try clear c31
                                  try clear c31b0
                                  try clear c33
                                  try clear c33b0
                                  try clear c35
                                  try clear c35b0
                                  try clear c36
                                  try clear c36b0
                                  try clear c37
                                  try clear c37b0
                                  try clear c42
                                  try clear c42b0
                                  try clear c43
                                  try clear c43b0
                                  try clear c44
                                  try clear c44b0
                                  try clear c46
                                  try clear c46b0
                                  try clear c48
                                  try clear c48b0
                                  try clear c50
                                  try clear c50b0
                                  try clear c52
                                  try clear c52b0
                                  try clear c54
                                  try clear c54b0
                                  try clear c55
                                  try clear c55b0
                                  try clear c56
                                  try clear c56b0
                                  try clear hx7014_0
                                  try clear hx7014_1
                                  try clear hx7014_2
                                  try clear hx7014_3
                                  try clear hx7014_4
                                  try clear hx7015_0
                                  try clear hx7015_1
                                  try clear hx7016_0
                                  try clear hx7016_1
                                  try clear hx7017_0
                                  try clear hx7017_1
                                  try clear hx7018_0
                                  try clear hx7018_1
                                  try clear hx7019_0
                                  try clear hx7019_1
                                  try clear hx7020_0
                                  try clear hx7020_1
                                  try clear hx7021_0
                                  try clear hx7021_1
                                  try clear hx7022_0
                                  try clear hx7022_1
                                  try clear hx7023_0
                                  try clear hx7023_1
                                  try clear hx7024_0
                                  try clear hx7024_1
                                  try clear hx7025_0
                                  try clear hx7025_1
                                  try clear hx7026_0
                                  try clear hx7026_1
                                  try clear hx7027_0
                                  try clear hx7027_1
                                  try clear hx7028_0
                                  try clear hx7028_1
                                  try clear hx7029_0
                                  try clear hx7029_1
                                  try clear hx7030_0
                                  try clear hx7030_1
                                  try clear p2
                                  try clear p6
                                  try clear p7
                                  try clear p7014
                                  try clear p7015
                                  try clear p7016
                                  try clear p7017
                                  try clear p7018
                                  try clear p7019
                                  try clear p7020
                                  try clear p7021
                                  try clear p7022
                                  try clear p7023
                                  try clear p7024
                                  try clear p7025
                                  try clear p7026
                                  try clear p7027
                                  try clear p7028
                                  try clear p7029
                                  try clear p7030
                                  try clear q7
                                  try clear q7014
                                  try clear q7015
                                  try clear q7016
                                  try clear q7017
                                  try clear q7018
                                  try clear q7019
                                  try clear q7020
                                  try clear q7021
                                  try clear q7022
                                  try clear q7023
                                  try clear q7024
                                  try clear q7025
                                  try clear q7026
                                  try clear q7027
                                  try clear q7028
                                  try clear q7029
                                  try clear q7030
                                  obtain ⟨x13_6, x17_6, rfl, rfl, HA, HK6, HO_7, HO_8, HO_10, HB⟩ := hrel
                                  cases gk with
                                  | zero => exact absurd HA.out (by simp [papermilllaw34_ReelCovers.l2])
                                  | succ k6 =>
                                    have H := HA.out
                                    clear HA
                                    simp only [papermilllaw34_ReelCovers.l2] at H
                                    by_cases c61 : x17_6 < (t7010.length : Int)
                                    · rw [if_pos c61] at H
                                      have c61b0 : decide (x17_6 < (t7010.length : Int)) = true := decide_eq_true c61
                                      clear c61
                                      by_cases c62 : 0 ≤ x17_6
                                      · rw [if_pos c62] at H
                                        have c62b0 : decide (0 ≤ x17_6) = true := decide_eq_true c62
                                        clear c62
                                        by_cases c63 : ((rd_T36 t7010 x17_6).f0) < 0
                                        · rw [if_pos c63] at H
                                          have c63b0 : decide (((rd_T36 t7010 x17_6).f0) < 0) = true := decide_eq_true c63
                                          clear c63
                                          obtain rfl := Option.some.inj H
                                          obtain ⟨Ao64, co64, eo64⟩ := Kd.R_slice HO_10.out
                                          subst eo64
                                          have p7031 : 0 ≤ (x17_6 : Int) := of_decide_eq_true (by first | (with_reducible assumption) | assumption)
                                          have q7031 : x17_6 < (t7010.length : Int) := of_decide_eq_true (by first | (with_reducible assumption) | assumption)
                                          obtain ⟨ad7031, e7031, hx7031_0, hx7031_1⟩ := at_T36 (Kd.R_reads' HO_10.out).2.2 x17_6 p7031 q7031
                                          cases e7031
                                          replace p7031 := eq_true p7031
                                          replace q7031 := eq_true q7031
                                          go_wp2
                                          repeat (go_quiet (fail); try go_wp2)
                                          go_ret
                                          exact ⟨by first | rfl | (simp [errW_none, errW_some] <;> rfl) | (simp [*, errW_none, errW_some] <;> rfl), by repeat (first | (with_reducible first | exact HB.out | apply below_alloc | apply pw_below_drewN | apply below_drew1) | exact HB.out)⟩
                                        · rw [if_neg c63] at H
                                          have c63b0 : decide (((rd_T36 t7010 x17_6).f0) < 0) = false := decide_eq_false c63
                                          clear c63
                                          by_cases c65 : ((rd_T36 t7010 x17_6).f1) > x12_19
                                          · rw [if_pos c65] at H
                                            have c65b0 : decide (x12_19 < ((rd_T36 t7010 x17_6).f1)) = true := decide_eq_true c65
                                            clear c65
                                            obtain rfl := Option.some.inj H
                                            obtain ⟨Ao66, co66, eo66⟩ := Kd.R_slice HO_10.out
                                            subst eo66
                                            have p7031 : 0 ≤ (x17_6 : Int) := of_decide_eq_true (by first | (with_reducible assumption) | assumption)
                                            have q7031 : x17_6 < (t7010.length : Int) := of_decide_eq_true (by first | (with_reducible assumption) | assumption)
                                            obtain ⟨ad7031, e7031, hx7031_0, hx7031_1⟩ := at_T36 (Kd.R_reads' HO_10.out).2.2 x17_6 p7031 q7031
                                            cases e7031
                                            replace p7031 := eq_true p7031
                                            replace q7031 := eq_true q7031
                                            have p7032 : 0 ≤ (x17_6 : Int) := of_decide_eq_true (by first | (with_reducible assumption) | assumption)
                                            have q7032 : x17_6 < (t7010.length : Int) := of_decide_eq_true (by first | (with_reducible assumption) | assumption)
                                            obtain ⟨ad7032, e7032, hx7032_0, hx7032_1⟩ := at_T36 (Kd.R_reads' HO_10.out).2.2 x17_6 p7032 q7032
                                            obtain rfl : ad7031 = ad7032 := (by injection e7032)
                                            replace p7032 := eq_true p7032
                                            replace q7032 := eq_true q7032
                                            go_wp2
                                            repeat (go_quiet (fail); try go_wp2)
                                            go_ret
                                            exact ⟨by first | rfl | (simp [errW_none, errW_some] <;> rfl) | (simp [*, errW_none, errW_some] <;> rfl), by repeat (first | (with_reducible first | exact HB.out | apply below_alloc | apply pw_below_drewN | apply below_drew1) | exact HB.out)⟩
                                          · rw [if_neg c65] at H
                                            have c65b0 : decide (x12_19 < ((rd_T36 t7010 x17_6).f1)) = false := decide_eq_false c65
                                            clear c65
                                            by_cases c67 : ((rd_T36 t7010 x17_6).f0) ≥ ((rd_T36 t7010 x17_6).f1)
                                            · rw [if_pos c67] at H
                                              have c67b0 : decide (((rd_T36 t7010 x17_6).f1) ≤ ((rd_T36 t7010 x17_6).f0)) = true := decide_eq_true c67
                                              clear c67
                                              obtain rfl := Option.some.inj H
                                              obtain ⟨Ao68, co68, eo68⟩ := Kd.R_slice HO_10.out
                                              subst eo68
                                              have p7031 : 0 ≤ (x17_6 : Int) := of_decide_eq_true (by first | (with_reducible assumption) | assumption)
                                              have q7031 : x17_6 < (t7010.length : Int) := of_decide_eq_true (by first | (with_reducible assumption) | assumption)
                                              obtain ⟨ad7031, e7031, hx7031_0, hx7031_1⟩ := at_T36 (Kd.R_reads' HO_10.out).2.2 x17_6 p7031 q7031
                                              cases e7031
                                              replace p7031 := eq_true p7031
                                              replace q7031 := eq_true q7031
                                              have p7032 : 0 ≤ (x17_6 : Int) := of_decide_eq_true (by first | (with_reducible assumption) | assumption)
                                              have q7032 : x17_6 < (t7010.length : Int) := of_decide_eq_true (by first | (with_reducible assumption) | assumption)
                                              obtain ⟨ad7032, e7032, hx7032_0, hx7032_1⟩ := at_T36 (Kd.R_reads' HO_10.out).2.2 x17_6 p7032 q7032
                                              obtain rfl : ad7031 = ad7032 := (by injection e7032)
                                              replace p7032 := eq_true p7032
                                              replace q7032 := eq_true q7032
                                              have p7033 : 0 ≤ (x17_6 : Int) := of_decide_eq_true (by first | (with_reducible assumption) | assumption)
                                              have q7033 : x17_6 < (t7010.length : Int) := of_decide_eq_true (by first | (with_reducible assumption) | assumption)
                                              obtain ⟨ad7033, e7033, hx7033_0, hx7033_1⟩ := at_T36 (Kd.R_reads' HO_10.out).2.2 x17_6 p7033 q7033
                                              obtain rfl : ad7031 = ad7033 := (by injection e7033)
                                              replace p7033 := eq_true p7033
                                              replace q7033 := eq_true q7033
                                              have p7034 : 0 ≤ (x17_6 : Int) := of_decide_eq_true (by first | (with_reducible assumption) | assumption)
                                              have q7034 : x17_6 < (t7010.length : Int) := of_decide_eq_true (by first | (with_reducible assumption) | assumption)
                                              obtain ⟨ad7034, e7034, hx7034_0, hx7034_1⟩ := at_T36 (Kd.R_reads' HO_10.out).2.2 x17_6 p7034 q7034
                                              obtain rfl : ad7031 = ad7034 := (by injection e7034)
                                              replace p7034 := eq_true p7034
                                              replace q7034 := eq_true q7034
                                              go_wp2
                                              repeat (go_quiet (fail); try go_wp2)
                                              go_ret
                                              exact ⟨by first | rfl | (simp [errW_none, errW_some] <;> rfl) | (simp [*, errW_none, errW_some] <;> rfl), by repeat (first | (with_reducible first | exact HB.out | apply below_alloc | apply pw_below_drewN | apply below_drew1) | exact HB.out)⟩
                                            · rw [if_neg c67] at H
                                              have c67b0 : decide (((rd_T36 t7010 x17_6).f1) ≤ ((rd_T36 t7010 x17_6).f0)) = false := decide_eq_false c67
                                              clear c67
                                              have H' := Aside0.mk H
                                              clear H
                                              obtain ⟨Ao69, co69, eo69⟩ := Kd.R_slice HO_10.out
                                              subst eo69
                                              have p7031 : 0 ≤ (x17_6 : Int) := of_decide_eq_true (by first | (with_reducible assumption) | assumption)
                                              have q7031 : x17_6 < (t7010.length : Int) := of_decide_eq_true (by first | (with_reducible assumption) | assumption)
                                              obtain ⟨ad7031, e7031, hx7031_0, hx7031_1⟩ := at_T36 (Kd.R_reads' HO_10.out).2.2 x17_6 p7031 q7031
                                              cases e7031
                                              replace p7031 := eq_true p7031
                                              replace q7031 := eq_true q7031
                                              have p7032 : 0 ≤ (x17_6 : Int) := of_decide_eq_true (by first | (with_reducible assumption) | assumption)
                                              have q7032 : x17_6 < (t7010.length : Int) := of_decide_eq_true (by first | (with_reducible assumption) | assumption)
                                              obtain ⟨ad7032, e7032, hx7032_0, hx7032_1⟩ := at_T36 (Kd.R_reads' HO_10.out).2.2 x17_6 p7032 q7032
                                              obtain rfl : ad7031 = ad7032 := (by injection e7032)
                                              replace p7032 := eq_true p7032
                                              replace q7032 := eq_true q7032
                                              have p7033 : 0 ≤ (x17_6 : Int) := of_decide_eq_true (by first | (with_reducible assumption) | assumption)
                                              have q7033 : x17_6 < (t7010.length : Int) := of_decide_eq_true (by first | (with_reducible assumption) | assumption)
                                              obtain ⟨ad7033, e7033, hx7033_0, hx7033_1⟩ := at_T36 (Kd.R_reads' HO_10.out).2.2 x17_6 p7033 q7033
                                              obtain rfl : ad7031 = ad7033 := (by injection e7033)
                                              replace p7033 := eq_true p7033
                                              replace q7033 := eq_true q7033
                                              have p7034 : 0 ≤ (x17_6 : Int) := of_decide_eq_true (by first | (with_reducible assumption) | assumption)
                                              have q7034 : x17_6 < (t7010.length : Int) := of_decide_eq_true (by first | (with_reducible assumption) | assumption)
                                              obtain ⟨ad7034, e7034, hx7034_0, hx7034_1⟩ := at_T36 (Kd.R_reads' HO_10.out).2.2 x17_6 p7034 q7034
                                              obtain rfl : ad7031 = ad7034 := (by injection e7034)
                                              replace p7034 := eq_true p7034
                                              replace q7034 := eq_true q7034
                                              have p7035 : 0 ≤ (x17_6 : Int) := of_decide_eq_true (by first | (with_reducible assumption) | assumption)
                                              have q7035 : x17_6 < (t7010.length : Int) := of_decide_eq_true (by first | (with_reducible assumption) | assumption)
                                              obtain ⟨ad7035, e7035, hx7035_0, hx7035_1⟩ := at_T36 (Kd.R_reads' HO_10.out).2.2 x17_6 p7035 q7035
                                              obtain rfl : ad7031 = ad7035 := (by injection e7035)
                                              replace p7035 := eq_true p7035
                                              replace q7035 := eq_true q7035
                                              have p7036 : 0 ≤ (x17_6 : Int) := of_decide_eq_true (by first | (with_reducible assumption) | assumption)
                                              have q7036 : x17_6 < (t7010.length : Int) := of_decide_eq_true (by first | (with_reducible assumption) | assumption)
                                              obtain ⟨ad7036, e7036, hx7036_0, hx7036_1⟩ := at_T36 (Kd.R_reads' HO_10.out).2.2 x17_6 p7036 q7036
                                              obtain rfl : ad7031 = ad7036 := (by injection e7036)
                                              replace p7036 := eq_true p7036
                                              replace q7036 := eq_true q7036
                                              go_wp2
                                              repeat (go_quiet (fail); try go_wp2)
                                              go_roundg k6
                                              case measure => have := HJ3.out; have := HJ11.out; have := HJ19.out; have := HK4.out; have := HK5.out; have := HK6.out; omega
                                              case rel => exact ⟨(wrap64 ((wrap64 (x13_6 + ((rd_T36 t7010 x17_6).f1))) - ((rd_T36 t7010 x17_6).f0))), (wrap64 (x17_6 + 1)), (by first | rfl | (simp; done) | (simp [*]; done)), (by first | rfl | (simp; done) | (simp [*]; done)), H', ⟨by have := HJ3.out; have := HJ11.out; have := HJ19.out; have := HK4.out; have := HK5.out; have := HK6.out; omega⟩, ⟨by (with_reducible repeat (first | apply Kd.R_alloc | apply Kd.R_drewN | apply Kd.R_drew)); exact HO_7.out⟩, ⟨by (with_reducible repeat (first | apply Kd.R_alloc | apply Kd.R_drewN | apply Kd.R_drew)); exact HO_8.out⟩, ⟨by (with_reducible repeat (first | apply Kd.R_alloc | apply Kd.R_drewN | apply Kd.R_drew)); exact HO_10.out⟩, ⟨by repeat (first | (with_reducible first | exact HB.out | apply below_alloc | apply pw_below_drewN | apply below_drew1) | exact HB.out)⟩⟩
                                      · rw [if_neg c62] at H
                                        exact absurd H (by simp)
                                    · rw [if_neg c61] at H
                                      have c61b0 : decide (x17_6 < (t7010.length : Int)) = false := decide_eq_false c61
                                      clear c61
                                      obtain ⟨y7037, hy7037⟩ : ∃ y_ : List (S36), y_ = (([] : List (S36))) := ⟨_, rfl⟩
                                      replace H : (if y7037.length + t7002.length < 8796093022208 then ((some (y7037 ++ t7002 : List (S36))).bind fun y7040 => (if y7040.length + t7003.length < 8796093022208 then ((some (y7040 ++ t7003 : List (S36))).bind fun y7043 => (if y7043.length + t7010.length < 8796093022208 then (papermilllaw34_ReelCovers.l3 k6 x12_19 x13_6 (y7043 ++ t7010) 0 0) else (none))) else (none))) else (none)) = some r := by first | (rw [hy7037]; with_reducible exact H) | (have H2_ := (Option.bind_some _ _).symm.trans H; rw [hy7037]; with_reducible exact H2_) | (have H2_ := (Option.bind_some _ _).symm.trans H; with_reducible exact H2_) | with_reducible exact H | (rw [hy7037]; exact H) | exact H
                                      have Ny7037 := Aside0.mk hy7037
                                      clear hy7037
                                      by_cases c70 : y7037.length + t7002.length < 8796093022208
                                      · rw [if_pos c70] at H
                                        have LMc70 := Aside0.mk c70
                                        clear c70
                                        obtain ⟨y7040, hy7040⟩ : ∃ y_ : List (S36), y_ = (y7037 ++ t7002) := ⟨_, rfl⟩
                                        replace H : (if y7040.length + t7003.length < 8796093022208 then ((some (y7040 ++ t7003 : List (S36))).bind fun y7043 => (if y7043.length + t7010.length < 8796093022208 then (papermilllaw34_ReelCovers.l3 k6 x12_19 x13_6 (y7043 ++ t7010) 0 0) else (none))) else (none)) = some r := by first | (rw [hy7040]; with_reducible exact H) | (have H2_ := (Option.bind_some _ _).symm.trans H; rw [hy7040]; with_reducible exact H2_) | (have H2_ := (Option.bind_some _ _).symm.trans H; with_reducible exact H2_) | with_reducible exact H | (rw [hy7040]; exact H) | exact H
                                        have Ny7040 := Aside0.mk hy7040
                                        clear hy7040
                                        by_cases c71 : y7040.length + t7003.length < 8796093022208
                                        · rw [if_pos c71] at H
                                          have LMc71 := Aside0.mk c71
                                          clear c71
                                          obtain ⟨y7043, hy7043⟩ : ∃ y_ : List (S36), y_ = (y7040 ++ t7003) := ⟨_, rfl⟩
                                          replace H : (if y7043.length + t7010.length < 8796093022208 then (papermilllaw34_ReelCovers.l3 k6 x12_19 x13_6 (y7043 ++ t7010) 0 0) else (none)) = some r := by first | (rw [hy7043]; with_reducible exact H) | (have H2_ := (Option.bind_some _ _).symm.trans H; rw [hy7043]; with_reducible exact H2_) | (have H2_ := (Option.bind_some _ _).symm.trans H; with_reducible exact H2_) | with_reducible exact H | (rw [hy7043]; exact H) | exact H
                                          have Ny7043 := Aside0.mk hy7043
                                          clear hy7043
                                          by_cases c72 : y7043.length + t7010.length < 8796093022208
                                          · rw [if_pos c72] at H
                                            have LMc72 := Aside0.mk c72
                                            clear c72
                                            obtain ⟨y7046, hy7046⟩ : ∃ y_ : List (S36), y_ = (y7043 ++ t7010) := ⟨_, rfl⟩
                                            replace H : (papermilllaw34_ReelCovers.l3 k6 x12_19 x13_6 y7046 0 0) = some r := by first | (rw [hy7046]; with_reducible exact H) | (have H2_ := (Option.bind_some _ _).symm.trans H; rw [hy7046]; with_reducible exact H2_) | (have H2_ := (Option.bind_some _ _).symm.trans H; with_reducible exact H2_) | with_reducible exact H | (rw [hy7046]; exact H) | exact H
                                            have Ny7046 := Aside0.mk hy7046
                                            clear hy7046
                                            have H' := Aside0.mk H
                                            clear H
                                            obtain ⟨Ao73, co73, eo73⟩ := Kd.R_slice HO_10.out
                                            subst eo73
                                            go_wp2_with (first | ((with_reducible refine gate_dst (N := 256) rfl ?_); (try (refine gate_guard (by rfl) ?_; dsimp only)); refine Kd.R_lit k36 _ 36 ?hg (N := 256) ?hd (xs := ([] : List (S36))) (inner := []) (ok := fun _ => True) (okp := fun _ => True) ?hr ?hp (fun _ hk => hk) trivial (Below.refl _ _) (Nat.le_refl _) (by simp) ?_; (case hd => rfl); (case hg => rfl); (case hr => first | (go_simp; done) | (go_simp; rfl)); (case hp => exact (Reps.none _ _)); intro v7038 w74 ho75 hb hg_ hnew_; clear hg_ hnew_; (first | rw [← Ny7037.out] at ho75 | (simp only [Int.reduceToNat] at ho75; rw [← Ny7037.out] at ho75)); have n0_ := Aside0.mk (Kd.R_elder' (by (with_reducible repeat (first | apply Kd.R_alloc | apply Kd.R_drewN | apply Kd.R_drew)); exact HO_7.out) (Kd.R_base ho75) hb); have n1_ := Aside0.mk (Kd.R_elder' (by (with_reducible repeat (first | apply Kd.R_alloc | apply Kd.R_drewN | apply Kd.R_drew)); exact HO_8.out) (Kd.R_base ho75) hb); have n2_ := Aside0.mk (Kd.R_elder' (by (with_reducible repeat (first | apply Kd.R_alloc | apply Kd.R_drewN | apply Kd.R_drew)); exact HO_10.out) (Kd.R_base ho75) hb); have n3_ := Aside0.mk (Kd.R_lower (Kd.R_new' (Kd.R_new' (Kd.R_new' ho75 (Kd.R_lt (by (with_reducible repeat (first | apply Kd.R_alloc | apply Kd.R_drewN | apply Kd.R_drew)); exact HO_7.out))) (Kd.R_lt (by (with_reducible repeat (first | apply Kd.R_alloc | apply Kd.R_drewN | apply Kd.R_drew)); exact HO_8.out))) (Kd.R_lt (by (with_reducible repeat (first | apply Kd.R_alloc | apply Kd.R_drewN | apply Kd.R_drew)); exact HO_10.out))) (below_size (by repeat (first | (with_reducible first | exact HB.out | apply below_alloc | apply pw_below_drewN | apply below_drew1) | exact HB.out)))); have n4_ := Aside0.mk (below_step (by repeat (first | (with_reducible first | exact HB.out | apply below_alloc | apply pw_below_drewN | apply below_drew1) | exact HB.out)) hb); clear HO_7; clear HO_8; clear HO_10; clear HB; have HO_7 := n0_; have HO_8 := n1_; have HO_10 := n2_; have HO7039 := n3_; have HB := n4_; clear n0_ n1_ n2_ n3_ n4_; clear hb ho75) | ((with_reducible refine gate_builtin (b := .append) (xs := #[.tmp 256, .tmp 257]) rfl ?_); (try (refine gate_guard (by rfl) ?_; dsimp only)); at_builtin; refine Kd.R_append_rows k36 (w0 := w) w.heap.size rfl (.tmp 256) (.tmp 257) 25 36 (.agg #[(.int .i64 0), (.int .i64 0)]) 16 rfl Try.underlying25 info36 rfl (by decide) (by omega) v7038 y7037 t7002 _ _ _ (fun k_ => some k_ ≠ (.slice Ao41 t7002.length co41 : Value).ownBlock ∧ some k_ ≠ (.slice Ao60 t7003.length co60 : Value).ownBlock ∧ some k_ ≠ (.slice Ao73 t7010.length co73 : Value).ownBlock) (fun _ => False) rfl rfl ?aO ?aR (fun _ _ h => h) (fun _ h => h.elim) ?aF ?aB ?aS ?aL ?_; (case aR => repeat (first | exact (Kd.R_reads' HO_7.out).2.2 | (with_reducible refine Kd.C_alloc ?_ _) | (with_reducible refine Kd.C_drewN ?_ _) | (with_reducible refine Kd.C_drew ?_))); (case aB => exact (by repeat (first | (with_reducible first | exact HB.out | apply below_alloc | apply pw_below_drewN | apply below_drew1) | exact HB.out))); (case aF => exact (fun k_ hk => ⟨Kd.fresh' (Kd.R_lt (by (with_reducible repeat (first | apply Kd.R_alloc | apply Kd.R_drewN | apply Kd.R_drew)); exact HO_7.out)) k_ hk, Kd.fresh' (Kd.R_lt (by (with_reducible repeat (first | apply Kd.R_alloc | apply Kd.R_drewN | apply Kd.R_drew)); exact HO_8.out)) k_ hk, Kd.fresh' (Kd.R_lt (by (with_reducible repeat (first | apply Kd.R_alloc | apply Kd.R_drewN | apply Kd.R_drew)); exact HO_10.out)) k_ hk⟩)); (case aO => exact (by (with_reducible repeat (first | apply Kd.R_alloc | apply Kd.R_drewN | apply Kd.R_drew)); exact Kd.R_mono HO7039.out (fun _ hk => ⟨hk.1.1.2, ⟨hk.1.2, hk.2⟩⟩))); (case aS => exact (below_size (by repeat (first | (with_reducible first | exact HB.out | apply below_alloc | apply pw_below_drewN | apply below_drew1) | exact HB.out)))); (case aL => have := LMc70.out; omega); intro v7041 w76 ho hb hg hat; rw [← Ny7040.out] at ho; have n0_ := Aside0.mk (Kd.R_after (ok := (fun k_ => some k_ ≠ (.slice Ao60 t7003.length co60 : Value).ownBlock ∧ some k_ ≠ (.slice Ao73 t7010.length co73 : Value).ownBlock)) (by (with_reducible repeat (first | apply Kd.R_alloc | apply Kd.R_drewN | apply Kd.R_drew)); exact HO_7.out) hg hat); have n1_ := Aside0.mk (Kd.R_after (ok := (fun k_ => some k_ ≠ (.slice Ao41 t7002.length co41 : Value).ownBlock ∧ some k_ ≠ (.slice Ao73 t7010.length co73 : Value).ownBlock)) (by (with_reducible repeat (first | apply Kd.R_alloc | apply Kd.R_drewN | apply Kd.R_drew)); exact HO_8.out) hg hat); have n2_ := Aside0.mk (Kd.R_after (ok := (fun k_ => some k_ ≠ (.slice Ao41 t7002.length co41 : Value).ownBlock ∧ some k_ ≠ (.slice Ao60 t7003.length co60 : Value).ownBlock)) (by (with_reducible repeat (first | apply Kd.R_alloc | apply Kd.R_drewN | apply Kd.R_drew)); exact HO_10.out) hg hat); have n3_ := Aside0.mk (hb); have n4_ := Aside0.mk (ho); clear HO_7; clear HO_8; clear HO_10; clear HB; clear HO7039; have HO_7 := n0_; have HO_8 := n1_; have HO_10 := n2_; have HB := n3_; have HO7042 := n4_; clear n0_ n1_ n2_ n3_ n4_; clear ho hb hg hat) | ((with_reducible refine gate_builtin (b := .append) (xs := #[.tmp 258, .tmp 259]) rfl ?_); (try (refine gate_guard (by rfl) ?_; dsimp only)); at_builtin; refine Kd.R_append_rows k36 (w0 := w) w.heap.size rfl (.tmp 258) (.tmp 259) 25 36 (.agg #[(.int .i64 0), (.int .i64 0)]) 16 rfl Try.underlying25 info36 rfl (by decide) (by omega) v7041 y7040 t7003 _ _ _ (fun k_ => some k_ ≠ (.slice Ao41 t7002.length co41 : Value).ownBlock ∧ some k_ ≠ (.slice Ao60 t7003.length co60 : Value).ownBlock ∧ some k_ ≠ (.slice Ao73 t7010.length co73 : Value).ownBlock) (fun _ => False) rfl rfl ?aO ?aR (fun _ _ h => h) (fun _ h => h.elim) ?aF ?aB ?aS ?aL ?_; (case aR => repeat (first | exact (Kd.R_reads' HO_8.out).2.2 | (with_reducible refine Kd.C_alloc ?_ _) | (with_reducible refine Kd.C_drewN ?_ _) | (with_reducible refine Kd.C_drew ?_))); (case aB => exact (by repeat (first | (with_reducible first | exact HB.out | apply below_alloc | apply pw_below_drewN | apply below_drew1) | exact HB.out))); (case aF => exact (fun k_ hk => ⟨Kd.fresh' (Kd.R_lt (by (with_reducible repeat (first | apply Kd.R_alloc | apply Kd.R_drewN | apply Kd.R_drew)); exact HO_7.out)) k_ hk, Kd.fresh' (Kd.R_lt (by (with_reducible repeat (first | apply Kd.R_alloc | apply Kd.R_drewN | apply Kd.R_drew)); exact HO_8.out)) k_ hk, Kd.fresh' (Kd.R_lt (by (with_reducible repeat (first | apply Kd.R_alloc | apply Kd.R_drewN | apply Kd.R_drew)); exact HO_10.out)) k_ hk⟩)); (case aO => exact (by (with_reducible repeat (first | apply Kd.R_alloc | apply Kd.R_drewN | apply Kd.R_drew)); exact HO7042.out)); (case aS => exact (below_size (by repeat (first | (with_reducible first | exact HB.out | apply below_alloc | apply pw_below_drewN | apply below_drew1) | exact HB.out)))); (case aL => have := LMc71.out; omega); intro v7044 w77 ho hb hg hat; rw [← Ny7043.out] at ho; have n0_ := Aside0.mk (Kd.R_after (ok := (fun k_ => some k_ ≠ (.slice Ao60 t7003.length co60 : Value).ownBlock ∧ some k_ ≠ (.slice Ao73 t7010.length co73 : Value).ownBlock)) (by (with_reducible repeat (first | apply Kd.R_alloc | apply Kd.R_drewN | apply Kd.R_drew)); exact HO_7.out) hg hat); have n1_ := Aside0.mk (Kd.R_after (ok := (fun k_ => some k_ ≠ (.slice Ao41 t7002.length co41 : Value).ownBlock ∧ some k_ ≠ (.slice Ao73 t7010.length co73 : Value).ownBlock)) (by (with_reducible repeat (first | apply Kd.R_alloc | apply Kd.R_drewN | apply Kd.R_drew)); exact HO_8.out) hg hat); have n2_ := Aside0.mk (Kd.R_after (ok := (fun k_ => some k_ ≠ (.slice Ao41 t7002.length co41 : Value).ownBlock ∧ some k_ ≠ (.slice Ao60 t7003.length co60 : Value).ownBlock)) (by (with_reducible repeat (first | apply Kd.R_alloc | apply Kd.R_drewN | apply Kd.R_drew)); exact HO_10.out) hg hat); have n3_ := Aside0.mk (hb); have n4_ := Aside0.mk (ho); clear HO_7; clear HO_8; clear HO_10; clear HB; clear HO7042; have HO_7 := n0_; have HO_8 := n1_; have HO_10 := n2_; have HB := n3_; have HO7045 := n4_; clear n0_ n1_ n2_ n3_ n4_; clear ho hb hg hat) | ((with_reducible refine gate_builtin (b := .append) (xs := #[.tmp 260, .tmp 261]) rfl ?_); (try (refine gate_guard (by rfl) ?_; dsimp only)); at_builtin; refine Kd.R_append_rows k36 (w0 := w) w.heap.size rfl (.tmp 260) (.tmp 261) 25 36 (.agg #[(.int .i64 0), (.int .i64 0)]) 16 rfl Try.underlying25 info36 rfl (by decide) (by omega) v7044 y7043 t7010 _ _ _ (fun k_ => some k_ ≠ (.slice Ao41 t7002.length co41 : Value).ownBlock ∧ some k_ ≠ (.slice Ao60 t7003.length co60 : Value).ownBlock ∧ some k_ ≠ (.slice Ao73 t7010.length co73 : Value).ownBlock) (fun _ => False) rfl rfl ?aO ?aR (fun _ _ h => h) (fun _ h => h.elim) ?aF ?aB ?aS ?aL ?_; (case aR => repeat (first | exact (Kd.R_reads' HO_10.out).2.2 | (with_reducible refine Kd.C_alloc ?_ _) | (with_reducible refine Kd.C_drewN ?_ _) | (with_reducible refine Kd.C_drew ?_))); (case aB => exact (by repeat (first | (with_reducible first | exact HB.out | apply below_alloc | apply pw_below_drewN | apply below_drew1) | exact HB.out))); (case aF => exact (fun k_ hk => ⟨Kd.fresh' (Kd.R_lt (by (with_reducible repeat (first | apply Kd.R_alloc | apply Kd.R_drewN | apply Kd.R_drew)); exact HO_7.out)) k_ hk, Kd.fresh' (Kd.R_lt (by (with_reducible repeat (first | apply Kd.R_alloc | apply Kd.R_drewN | apply Kd.R_drew)); exact HO_8.out)) k_ hk, Kd.fresh' (Kd.R_lt (by (with_reducible repeat (first | apply Kd.R_alloc | apply Kd.R_drewN | apply Kd.R_drew)); exact HO_10.out)) k_ hk⟩)); (case aO => exact (by (with_reducible repeat (first | apply Kd.R_alloc | apply Kd.R_drewN | apply Kd.R_drew)); exact HO7045.out)); (case aS => exact (below_size (by repeat (first | (with_reducible first | exact HB.out | apply below_alloc | apply pw_below_drewN | apply below_drew1) | exact HB.out)))); (case aL => have := LMc72.out; omega); intro v7047 w78 ho hb hg hat; rw [← Ny7046.out] at ho; have n0_ := Aside0.mk (Kd.R_after (ok := (fun k_ => some k_ ≠ (.slice Ao60 t7003.length co60 : Value).ownBlock ∧ some k_ ≠ (.slice Ao73 t7010.length co73 : Value).ownBlock)) (by (with_reducible repeat (first | apply Kd.R_alloc | apply Kd.R_drewN | apply Kd.R_drew)); exact HO_7.out) hg hat); have n1_ := Aside0.mk (Kd.R_after (ok := (fun k_ => some k_ ≠ (.slice Ao41 t7002.length co41 : Value).ownBlock ∧ some k_ ≠ (.slice Ao73 t7010.length co73 : Value).ownBlock)) (by (with_reducible repeat (first | apply Kd.R_alloc | apply Kd.R_drewN | apply Kd.R_drew)); exact HO_8.out) hg hat); have n2_ := Aside0.mk (Kd.R_after (ok := (fun k_ => some k_ ≠ (.slice Ao41 t7002.length co41 : Value).ownBlock ∧ some k_ ≠ (.slice Ao60 t7003.length co60 : Value).ownBlock)) (by (with_reducible repeat (first | apply Kd.R_alloc | apply Kd.R_drewN | apply Kd.R_drew)); exact HO_10.out) hg hat); have n3_ := Aside0.mk (hb); have n4_ := Aside0.mk (ho); clear HO_7; clear HO_8; clear HO_10; clear HB; clear HO7045; have HO_7 := n0_; have HO_8 := n1_; have HO_10 := n2_; have HB := n3_; have HO7048 := n4_; clear n0_ n1_ n2_ n3_ n4_; clear ho hb hg hat))
                                            repeat (go_quiet (first | ((with_reducible refine gate_dst (N := 256) rfl ?_); (try (refine gate_guard (by rfl) ?_; dsimp only)); refine Kd.R_lit k36 _ 36 ?hg (N := 256) ?hd (xs := ([] : List (S36))) (inner := []) (ok := fun _ => True) (okp := fun _ => True) ?hr ?hp (fun _ hk => hk) trivial (Below.refl _ _) (Nat.le_refl _) (by simp) ?_; (case hd => rfl); (case hg => rfl); (case hr => first | (go_simp; done) | (go_simp; rfl)); (case hp => exact (Reps.none _ _)); intro v7038 w74 ho75 hb hg_ hnew_; clear hg_ hnew_; (first | rw [← Ny7037.out] at ho75 | (simp only [Int.reduceToNat] at ho75; rw [← Ny7037.out] at ho75)); have n0_ := Aside0.mk (Kd.R_elder' (by (with_reducible repeat (first | apply Kd.R_alloc | apply Kd.R_drewN | apply Kd.R_drew)); exact HO_7.out) (Kd.R_base ho75) hb); have n1_ := Aside0.mk (Kd.R_elder' (by (with_reducible repeat (first | apply Kd.R_alloc | apply Kd.R_drewN | apply Kd.R_drew)); exact HO_8.out) (Kd.R_base ho75) hb); have n2_ := Aside0.mk (Kd.R_elder' (by (with_reducible repeat (first | apply Kd.R_alloc | apply Kd.R_drewN | apply Kd.R_drew)); exact HO_10.out) (Kd.R_base ho75) hb); have n3_ := Aside0.mk (Kd.R_lower (Kd.R_new' (Kd.R_new' (Kd.R_new' ho75 (Kd.R_lt (by (with_reducible repeat (first | apply Kd.R_alloc | apply Kd.R_drewN | apply Kd.R_drew)); exact HO_7.out))) (Kd.R_lt (by (with_reducible repeat (first | apply Kd.R_alloc | apply Kd.R_drewN | apply Kd.R_drew)); exact HO_8.out))) (Kd.R_lt (by (with_reducible repeat (first | apply Kd.R_alloc | apply Kd.R_drewN | apply Kd.R_drew)); exact HO_10.out))) (below_size (by repeat (first | (with_reducible first | exact HB.out | apply below_alloc | apply pw_below_drewN | apply below_drew1) | exact HB.out)))); have n4_ := Aside0.mk (below_step (by repeat (first | (with_reducible first | exact HB.out | apply below_alloc | apply pw_below_drewN | apply below_drew1) | exact HB.out)) hb); clear HO_7; clear HO_8; clear HO_10; clear HB; have HO_7 := n0_; have HO_8 := n1_; have HO_10 := n2_; have HO7039 := n3_; have HB := n4_; clear n0_ n1_ n2_ n3_ n4_; clear hb ho75) | ((with_reducible refine gate_builtin (b := .append) (xs := #[.tmp 256, .tmp 257]) rfl ?_); (try (refine gate_guard (by rfl) ?_; dsimp only)); at_builtin; refine Kd.R_append_rows k36 (w0 := w) w.heap.size rfl (.tmp 256) (.tmp 257) 25 36 (.agg #[(.int .i64 0), (.int .i64 0)]) 16 rfl Try.underlying25 info36 rfl (by decide) (by omega) v7038 y7037 t7002 _ _ _ (fun k_ => some k_ ≠ (.slice Ao41 t7002.length co41 : Value).ownBlock ∧ some k_ ≠ (.slice Ao60 t7003.length co60 : Value).ownBlock ∧ some k_ ≠ (.slice Ao73 t7010.length co73 : Value).ownBlock) (fun _ => False) rfl rfl ?aO ?aR (fun _ _ h => h) (fun _ h => h.elim) ?aF ?aB ?aS ?aL ?_; (case aR => repeat (first | exact (Kd.R_reads' HO_7.out).2.2 | (with_reducible refine Kd.C_alloc ?_ _) | (with_reducible refine Kd.C_drewN ?_ _) | (with_reducible refine Kd.C_drew ?_))); (case aB => exact (by repeat (first | (with_reducible first | exact HB.out | apply below_alloc | apply pw_below_drewN | apply below_drew1) | exact HB.out))); (case aF => exact (fun k_ hk => ⟨Kd.fresh' (Kd.R_lt (by (with_reducible repeat (first | apply Kd.R_alloc | apply Kd.R_drewN | apply Kd.R_drew)); exact HO_7.out)) k_ hk, Kd.fresh' (Kd.R_lt (by (with_reducible repeat (first | apply Kd.R_alloc | apply Kd.R_drewN | apply Kd.R_drew)); exact HO_8.out)) k_ hk, Kd.fresh' (Kd.R_lt (by (with_reducible repeat (first | apply Kd.R_alloc | apply Kd.R_drewN | apply Kd.R_drew)); exact HO_10.out)) k_ hk⟩)); (case aO => exact (by (with_reducible repeat (first | apply Kd.R_alloc | apply Kd.R_drewN | apply Kd.R_drew)); exact Kd.R_mono HO7039.out (fun _ hk => ⟨hk.1.1.2, ⟨hk.1.2, hk.2⟩⟩))); (case aS => exact (below_size (by repeat (first | (with_reducible first | exact HB.out | apply below_alloc | apply pw_below_drewN | apply below_drew1) | exact HB.out)))); (case aL => have := LMc70.out; omega); intro v7041 w76 ho hb hg hat; rw [← Ny7040.out] at ho; have n0_ := Aside0.mk (Kd.R_after (ok := (fun k_ => some k_ ≠ (.slice Ao60 t7003.length co60 : Value).ownBlock ∧ some k_ ≠ (.slice Ao73 t7010.length co73 : Value).ownBlock)) (by (with_reducible repeat (first | apply Kd.R_alloc | apply Kd.R_drewN | apply Kd.R_drew)); exact HO_7.out) hg hat); have n1_ := Aside0.mk (Kd.R_after (ok := (fun k_ => some k_ ≠ (.slice Ao41 t7002.length co41 : Value).ownBlock ∧ some k_ ≠ (.slice Ao73 t7010.length co73 : Value).ownBlock)) (by (with_reducible repeat (first | apply Kd.R_alloc | apply Kd.R_drewN | apply Kd.R_drew)); exact HO_8.out) hg hat); have n2_ := Aside0.mk (Kd.R_after (ok := (fun k_ => some k_ ≠ (.slice Ao41 t7002.length co41 : Value).ownBlock ∧ some k_ ≠ (.slice Ao60 t7003.length co60 : Value).ownBlock)) (by (with_reducible repeat (first | apply Kd.R_alloc | apply Kd.R_drewN | apply Kd.R_drew)); exact HO_10.out) hg hat); have n3_ := Aside0.mk (hb); have n4_ := Aside0.mk (ho); clear HO_7; clear HO_8; clear HO_10; clear HB; clear HO7039; have HO_7 := n0_; have HO_8 := n1_; have HO_10 := n2_; have HB := n3_; have HO7042 := n4_; clear n0_ n1_ n2_ n3_ n4_; clear ho hb hg hat) | ((with_reducible refine gate_builtin (b := .append) (xs := #[.tmp 258, .tmp 259]) rfl ?_); (try (refine gate_guard (by rfl) ?_; dsimp only)); at_builtin; refine Kd.R_append_rows k36 (w0 := w) w.heap.size rfl (.tmp 258) (.tmp 259) 25 36 (.agg #[(.int .i64 0), (.int .i64 0)]) 16 rfl Try.underlying25 info36 rfl (by decide) (by omega) v7041 y7040 t7003 _ _ _ (fun k_ => some k_ ≠ (.slice Ao41 t7002.length co41 : Value).ownBlock ∧ some k_ ≠ (.slice Ao60 t7003.length co60 : Value).ownBlock ∧ some k_ ≠ (.slice Ao73 t7010.length co73 : Value).ownBlock) (fun _ => False) rfl rfl ?aO ?aR (fun _ _ h => h) (fun _ h => h.elim) ?aF ?aB ?aS ?aL ?_; (case aR => repeat (first | exact (Kd.R_reads' HO_8.out).2.2 | (with_reducible refine Kd.C_alloc ?_ _) | (with_reducible refine Kd.C_drewN ?_ _) | (with_reducible refine Kd.C_drew ?_))); (case aB => exact (by repeat (first | (with_reducible first | exact HB.out | apply below_alloc | apply pw_below_drewN | apply below_drew1) | exact HB.out))); (case aF => exact (fun k_ hk => ⟨Kd.fresh' (Kd.R_lt (by (with_reducible repeat (first | apply Kd.R_alloc | apply Kd.R_drewN | apply Kd.R_drew)); exact HO_7.out)) k_ hk, Kd.fresh' (Kd.R_lt (by (with_reducible repeat (first | apply Kd.R_alloc | apply Kd.R_drewN | apply Kd.R_drew)); exact HO_8.out)) k_ hk, Kd.fresh' (Kd.R_lt (by (with_reducible repeat (first | apply Kd.R_alloc | apply Kd.R_drewN | apply Kd.R_drew)); exact HO_10.out)) k_ hk⟩)); (case aO => exact (by (with_reducible repeat (first | apply Kd.R_alloc | apply Kd.R_drewN | apply Kd.R_drew)); exact HO7042.out)); (case aS => exact (below_size (by repeat (first | (with_reducible first | exact HB.out | apply below_alloc | apply pw_below_drewN | apply below_drew1) | exact HB.out)))); (case aL => have := LMc71.out; omega); intro v7044 w77 ho hb hg hat; rw [← Ny7043.out] at ho; have n0_ := Aside0.mk (Kd.R_after (ok := (fun k_ => some k_ ≠ (.slice Ao60 t7003.length co60 : Value).ownBlock ∧ some k_ ≠ (.slice Ao73 t7010.length co73 : Value).ownBlock)) (by (with_reducible repeat (first | apply Kd.R_alloc | apply Kd.R_drewN | apply Kd.R_drew)); exact HO_7.out) hg hat); have n1_ := Aside0.mk (Kd.R_after (ok := (fun k_ => some k_ ≠ (.slice Ao41 t7002.length co41 : Value).ownBlock ∧ some k_ ≠ (.slice Ao73 t7010.length co73 : Value).ownBlock)) (by (with_reducible repeat (first | apply Kd.R_alloc | apply Kd.R_drewN | apply Kd.R_drew)); exact HO_8.out) hg hat); have n2_ := Aside0.mk (Kd.R_after (ok := (fun k_ => some k_ ≠ (.slice Ao41 t7002.length co41 : Value).ownBlock ∧ some k_ ≠ (.slice Ao60 t7003.length co60 : Value).ownBlock)) (by (with_reducible repeat (first | apply Kd.R_alloc | apply Kd.R_drewN | apply Kd.R_drew)); exact HO_10.out) hg hat); have n3_ := Aside0.mk (hb); have n4_ := Aside0.mk (ho); clear HO_7; clear HO_8; clear HO_10; clear HB; clear HO7042; have HO_7 := n0_; have HO_8 := n1_; have HO_10 := n2_; have HB := n3_; have HO7045 := n4_; clear n0_ n1_ n2_ n3_ n4_; clear ho hb hg hat) | ((with_reducible refine gate_builtin (b := .append) (xs := #[.tmp 260, .tmp 261]) rfl ?_); (try (refine gate_guard (by rfl) ?_; dsimp only)); at_builtin; refine Kd.R_append_rows k36 (w0 := w) w.heap.size rfl (.tmp 260) (.tmp 261) 25 36 (.agg #[(.int .i64 0), (.int .i64 0)]) 16 rfl Try.underlying25 info36 rfl (by decide) (by omega) v7044 y7043 t7010 _ _ _ (fun k_ => some k_ ≠ (.slice Ao41 t7002.length co41 : Value).ownBlock ∧ some k_ ≠ (.slice Ao60 t7003.length co60 : Value).ownBlock ∧ some k_ ≠ (.slice Ao73 t7010.length co73 : Value).ownBlock) (fun _ => False) rfl rfl ?aO ?aR (fun _ _ h => h) (fun _ h => h.elim) ?aF ?aB ?aS ?aL ?_; (case aR => repeat (first | exact (Kd.R_reads' HO_10.out).2.2 | (with_reducible refine Kd.C_alloc ?_ _) | (with_reducible refine Kd.C_drewN ?_ _) | (with_reducible refine Kd.C_drew ?_))); (case aB => exact (by repeat (first | (with_reducible first | exact HB.out | apply below_alloc | apply pw_below_drewN | apply below_drew1) | exact HB.out))); (case aF => exact (fun k_ hk => ⟨Kd.fresh' (Kd.R_lt (by (with_reducible repeat (first | apply Kd.R_alloc | apply Kd.R_drewN | apply Kd.R_drew)); exact HO_7.out)) k_ hk, Kd.fresh' (Kd.R_lt (by (with_reducible repeat (first | apply Kd.R_alloc | apply Kd.R_drewN | apply Kd.R_drew)); exact HO_8.out)) k_ hk, Kd.fresh' (Kd.R_lt (by (with_reducible repeat (first | apply Kd.R_alloc | apply Kd.R_drewN | apply Kd.R_drew)); exact HO_10.out)) k_ hk⟩)); (case aO => exact (by (with_reducible repeat (first | apply Kd.R_alloc | apply Kd.R_drewN | apply Kd.R_drew)); exact HO7045.out)); (case aS => exact (below_size (by repeat (first | (with_reducible first | exact HB.out | apply below_alloc | apply pw_below_drewN | apply below_drew1) | exact HB.out)))); (case aL => have := LMc72.out; omega); intro v7047 w78 ho hb hg hat; rw [← Ny7046.out] at ho; have n0_ := Aside0.mk (Kd.R_after (ok := (fun k_ => some k_ ≠ (.slice Ao60 t7003.length co60 : Value).ownBlock ∧ some k_ ≠ (.slice Ao73 t7010.length co73 : Value).ownBlock)) (by (with_reducible repeat (first | apply Kd.R_alloc | apply Kd.R_drewN | apply Kd.R_drew)); exact HO_7.out) hg hat); have n1_ := Aside0.mk (Kd.R_after (ok := (fun k_ => some k_ ≠ (.slice Ao41 t7002.length co41 : Value).ownBlock ∧ some k_ ≠ (.slice Ao73 t7010.length co73 : Value).ownBlock)) (by (with_reducible repeat (first | apply Kd.R_alloc | apply Kd.R_drewN | apply Kd.R_drew)); exact HO_8.out) hg hat); have n2_ := Aside0.mk (Kd.R_after (ok := (fun k_ => some k_ ≠ (.slice Ao41 t7002.length co41 : Value).ownBlock ∧ some k_ ≠ (.slice Ao60 t7003.length co60 : Value).ownBlock)) (by (with_reducible repeat (first | apply Kd.R_alloc | apply Kd.R_drewN | apply Kd.R_drew)); exact HO_10.out) hg hat); have n3_ := Aside0.mk (hb); have n4_ := Aside0.mk (ho); clear HO_7; clear HO_8; clear HO_10; clear HB; clear HO7045; have HO_7 := n0_; have HO_8 := n1_; have HO_10 := n2_; have HB := n3_; have HO7048 := n4_; clear n0_ n1_ n2_ n3_ n4_; clear ho hb hg hat)); try go_wp2_with (first | ((with_reducible refine gate_dst (N := 256) rfl ?_); (try (refine gate_guard (by rfl) ?_; dsimp only)); refine Kd.R_lit k36 _ 36 ?hg (N := 256) ?hd (xs := ([] : List (S36))) (inner := []) (ok := fun _ => True) (okp := fun _ => True) ?hr ?hp (fun _ hk => hk) trivial (Below.refl _ _) (Nat.le_refl _) (by simp) ?_; (case hd => rfl); (case hg => rfl); (case hr => first | (go_simp; done) | (go_simp; rfl)); (case hp => exact (Reps.none _ _)); intro v7038 w74 ho75 hb hg_ hnew_; clear hg_ hnew_; (first | rw [← Ny7037.out] at ho75 | (simp only [Int.reduceToNat] at ho75; rw [← Ny7037.out] at ho75)); have n0_ := Aside0.mk (Kd.R_elder' (by (with_reducible repeat (first | apply Kd.R_alloc | apply Kd.R_drewN | apply Kd.R_drew)); exact HO_7.out) (Kd.R_base ho75) hb); have n1_ := Aside0.mk (Kd.R_elder' (by (with_reducible repeat (first | apply Kd.R_alloc | apply Kd.R_drewN | apply Kd.R_drew)); exact HO_8.out) (Kd.R_base ho75) hb); have n2_ := Aside0.mk (Kd.R_elder' (by (with_reducible repeat (first | apply Kd.R_alloc | apply Kd.R_drewN | apply Kd.R_drew)); exact HO_10.out) (Kd.R_base ho75) hb); have n3_ := Aside0.mk (Kd.R_lower (Kd.R_new' (Kd.R_new' (Kd.R_new' ho75 (Kd.R_lt (by (with_reducible repeat (first | apply Kd.R_alloc | apply Kd.R_drewN | apply Kd.R_drew)); exact HO_7.out))) (Kd.R_lt (by (with_reducible repeat (first | apply Kd.R_alloc | apply Kd.R_drewN | apply Kd.R_drew)); exact HO_8.out))) (Kd.R_lt (by (with_reducible repeat (first | apply Kd.R_alloc | apply Kd.R_drewN | apply Kd.R_drew)); exact HO_10.out))) (below_size (by repeat (first | (with_reducible first | exact HB.out | apply below_alloc | apply pw_below_drewN | apply below_drew1) | exact HB.out)))); have n4_ := Aside0.mk (below_step (by repeat (first | (with_reducible first | exact HB.out | apply below_alloc | apply pw_below_drewN | apply below_drew1) | exact HB.out)) hb); clear HO_7; clear HO_8; clear HO_10; clear HB; have HO_7 := n0_; have HO_8 := n1_; have HO_10 := n2_; have HO7039 := n3_; have HB := n4_; clear n0_ n1_ n2_ n3_ n4_; clear hb ho75) | ((with_reducible refine gate_builtin (b := .append) (xs := #[.tmp 256, .tmp 257]) rfl ?_); (try (refine gate_guard (by rfl) ?_; dsimp only)); at_builtin; refine Kd.R_append_rows k36 (w0 := w) w.heap.size rfl (.tmp 256) (.tmp 257) 25 36 (.agg #[(.int .i64 0), (.int .i64 0)]) 16 rfl Try.underlying25 info36 rfl (by decide) (by omega) v7038 y7037 t7002 _ _ _ (fun k_ => some k_ ≠ (.slice Ao41 t7002.length co41 : Value).ownBlock ∧ some k_ ≠ (.slice Ao60 t7003.length co60 : Value).ownBlock ∧ some k_ ≠ (.slice Ao73 t7010.length co73 : Value).ownBlock) (fun _ => False) rfl rfl ?aO ?aR (fun _ _ h => h) (fun _ h => h.elim) ?aF ?aB ?aS ?aL ?_; (case aR => repeat (first | exact (Kd.R_reads' HO_7.out).2.2 | (with_reducible refine Kd.C_alloc ?_ _) | (with_reducible refine Kd.C_drewN ?_ _) | (with_reducible refine Kd.C_drew ?_))); (case aB => exact (by repeat (first | (with_reducible first | exact HB.out | apply below_alloc | apply pw_below_drewN | apply below_drew1) | exact HB.out))); (case aF => exact (fun k_ hk => ⟨Kd.fresh' (Kd.R_lt (by (with_reducible repeat (first | apply Kd.R_alloc | apply Kd.R_drewN | apply Kd.R_drew)); exact HO_7.out)) k_ hk, Kd.fresh' (Kd.R_lt (by (with_reducible repeat (first | apply Kd.R_alloc | apply Kd.R_drewN | apply Kd.R_drew)); exact HO_8.out)) k_ hk, Kd.fresh' (Kd.R_lt (by (with_reducible repeat (first | apply Kd.R_alloc | apply Kd.R_drewN | apply Kd.R_drew)); exact HO_10.out)) k_ hk⟩)); (case aO => exact (by (with_reducible repeat (first | apply Kd.R_alloc | apply Kd.R_drewN | apply Kd.R_drew)); exact Kd.R_mono HO7039.out (fun _ hk => ⟨hk.1.1.2, ⟨hk.1.2, hk.2⟩⟩))); (case aS => exact (below_size (by repeat (first | (with_reducible first | exact HB.out | apply below_alloc | apply pw_below_drewN | apply below_drew1) | exact HB.out)))); (case aL => have := LMc70.out; omega); intro v7041 w76 ho hb hg hat; rw [← Ny7040.out] at ho; have n0_ := Aside0.mk (Kd.R_after (ok := (fun k_ => some k_ ≠ (.slice Ao60 t7003.length co60 : Value).ownBlock ∧ some k_ ≠ (.slice Ao73 t7010.length co73 : Value).ownBlock)) (by (with_reducible repeat (first | apply Kd.R_alloc | apply Kd.R_drewN | apply Kd.R_drew)); exact HO_7.out) hg hat); have n1_ := Aside0.mk (Kd.R_after (ok := (fun k_ => some k_ ≠ (.slice Ao41 t7002.length co41 : Value).ownBlock ∧ some k_ ≠ (.slice Ao73 t7010.length co73 : Value).ownBlock)) (by (with_reducible repeat (first | apply Kd.R_alloc | apply Kd.R_drewN | apply Kd.R_drew)); exact HO_8.out) hg hat); have n2_ := Aside0.mk (Kd.R_after (ok := (fun k_ => some k_ ≠ (.slice Ao41 t7002.length co41 : Value).ownBlock ∧ some k_ ≠ (.slice Ao60 t7003.length co60 : Value).ownBlock)) (by (with_reducible repeat (first | apply Kd.R_alloc | apply Kd.R_drewN | apply Kd.R_drew)); exact HO_10.out) hg hat); have n3_ := Aside0.mk (hb); have n4_ := Aside0.mk (ho); clear HO_7; clear HO_8; clear HO_10; clear HB; clear HO7039; have HO_7 := n0_; have HO_8 := n1_; have HO_10 := n2_; have HB := n3_; have HO7042 := n4_; clear n0_ n1_ n2_ n3_ n4_; clear ho hb hg hat) | ((with_reducible refine gate_builtin (b := .append) (xs := #[.tmp 258, .tmp 259]) rfl ?_); (try (refine gate_guard (by rfl) ?_; dsimp only)); at_builtin; refine Kd.R_append_rows k36 (w0 := w) w.heap.size rfl (.tmp 258) (.tmp 259) 25 36 (.agg #[(.int .i64 0), (.int .i64 0)]) 16 rfl Try.underlying25 info36 rfl (by decide) (by omega) v7041 y7040 t7003 _ _ _ (fun k_ => some k_ ≠ (.slice Ao41 t7002.length co41 : Value).ownBlock ∧ some k_ ≠ (.slice Ao60 t7003.length co60 : Value).ownBlock ∧ some k_ ≠ (.slice Ao73 t7010.length co73 : Value).ownBlock) (fun _ => False) rfl rfl ?aO ?aR (fun _ _ h => h) (fun _ h => h.elim) ?aF ?aB ?aS ?aL ?_; (case aR => repeat (first | exact (Kd.R_reads' HO_8.out).2.2 | (with_reducible refine Kd.C_alloc ?_ _) | (with_reducible refine Kd.C_drewN ?_ _) | (with_reducible refine Kd.C_drew ?_))); (case aB => exact (by repeat (first | (with_reducible first | exact HB.out | apply below_alloc | apply pw_below_drewN | apply below_drew1) | exact HB.out))); (case aF => exact (fun k_ hk => ⟨Kd.fresh' (Kd.R_lt (by (with_reducible repeat (first | apply Kd.R_alloc | apply Kd.R_drewN | apply Kd.R_drew)); exact HO_7.out)) k_ hk, Kd.fresh' (Kd.R_lt (by (with_reducible repeat (first | apply Kd.R_alloc | apply Kd.R_drewN | apply Kd.R_drew)); exact HO_8.out)) k_ hk, Kd.fresh' (Kd.R_lt (by (with_reducible repeat (first | apply Kd.R_alloc | apply Kd.R_drewN | apply Kd.R_drew)); exact HO_10.out)) k_ hk⟩)); (case aO => exact (by (with_reducible repeat (first | apply Kd.R_alloc | apply Kd.R_drewN | apply Kd.R_drew)); exact HO7042.out)); (case aS => exact (below_size (by repeat (first | (with_reducible first | exact HB.out | apply below_alloc | apply pw_below_drewN | apply below_drew1) | exact HB.out)))); (case aL => have := LMc71.out; omega); intro v7044 w77 ho hb hg hat; rw [← Ny7043.out] at ho; have n0_ := Aside0.mk (Kd.R_after (ok := (fun k_ => some k_ ≠ (.slice Ao60 t7003.length co60 : Value).ownBlock ∧ some k_ ≠ (.slice Ao73 t7010.length co73 : Value).ownBlock)) (by (with_reducible repeat (first | apply Kd.R_alloc | apply Kd.R_drewN | apply Kd.R_drew)); exact HO_7.out) hg hat); have n1_ := Aside0.mk (Kd.R_after (ok := (fun k_ => some k_ ≠ (.slice Ao41 t7002.length co41 : Value).ownBlock ∧ some k_ ≠ (.slice Ao73 t7010.length co73 : Value).ownBlock)) (by (with_reducible repeat (first | apply Kd.R_alloc | apply Kd.R_drewN | apply Kd.R_drew)); exact HO_8.out) hg hat); have n2_ := Aside0.mk (Kd.R_after (ok := (fun k_ => some k_ ≠ (.slice Ao41 t7002.length co41 : Value).ownBlock ∧ some k_ ≠ (.slice Ao60 t7003.length co60 : Value).ownBlock)) (by (with_reducible repeat (first | apply Kd.R_alloc | apply Kd.R_drewN | apply Kd.R_drew)); exact HO_10.out) hg hat); have n3_ := Aside0.mk (hb); have n4_ := Aside0.mk (ho); clear HO_7; clear HO_8; clear HO_10; clear HB; clear HO7042; have HO_7 := n0_; have HO_8 := n1_; have HO_10 := n2_; have HB := n3_; have HO7045 := n4_; clear n0_ n1_ n2_ n3_ n4_; clear ho hb hg hat) | ((with_reducible refine gate_builtin (b := .append) (xs := #[.tmp 260, .tmp 261]) rfl ?_); (try (refine gate_guard (by rfl) ?_; dsimp only)); at_builtin; refine Kd.R_append_rows k36 (w0 := w) w.heap.size rfl (.tmp 260) (.tmp 261) 25 36 (.agg #[(.int .i64 0), (.int .i64 0)]) 16 rfl Try.underlying25 info36 rfl (by decide) (by omega) v7044 y7043 t7010 _ _ _ (fun k_ => some k_ ≠ (.slice Ao41 t7002.length co41 : Value).ownBlock ∧ some k_ ≠ (.slice Ao60 t7003.length co60 : Value).ownBlock ∧ some k_ ≠ (.slice Ao73 t7010.length co73 : Value).ownBlock) (fun _ => False) rfl rfl ?aO ?aR (fun _ _ h => h) (fun _ h => h.elim) ?aF ?aB ?aS ?aL ?_; (case aR => repeat (first | exact (Kd.R_reads' HO_10.out).2.2 | (with_reducible refine Kd.C_alloc ?_ _) | (with_reducible refine Kd.C_drewN ?_ _) | (with_reducible refine Kd.C_drew ?_))); (case aB => exact (by repeat (first | (with_reducible first | exact HB.out | apply below_alloc | apply pw_below_drewN | apply below_drew1) | exact HB.out))); (case aF => exact (fun k_ hk => ⟨Kd.fresh' (Kd.R_lt (by (with_reducible repeat (first | apply Kd.R_alloc | apply Kd.R_drewN | apply Kd.R_drew)); exact HO_7.out)) k_ hk, Kd.fresh' (Kd.R_lt (by (with_reducible repeat (first | apply Kd.R_alloc | apply Kd.R_drewN | apply Kd.R_drew)); exact HO_8.out)) k_ hk, Kd.fresh' (Kd.R_lt (by (with_reducible repeat (first | apply Kd.R_alloc | apply Kd.R_drewN | apply Kd.R_drew)); exact HO_10.out)) k_ hk⟩)); (case aO => exact (by (with_reducible repeat (first | apply Kd.R_alloc | apply Kd.R_drewN | apply Kd.R_drew)); exact HO7045.out)); (case aS => exact (below_size (by repeat (first | (with_reducible first | exact HB.out | apply below_alloc | apply pw_below_drewN | apply below_drew1) | exact HB.out)))); (case aL => have := LMc72.out; omega); intro v7047 w78 ho hb hg hat; rw [← Ny7046.out] at ho; have n0_ := Aside0.mk (Kd.R_after (ok := (fun k_ => some k_ ≠ (.slice Ao60 t7003.length co60 : Value).ownBlock ∧ some k_ ≠ (.slice Ao73 t7010.length co73 : Value).ownBlock)) (by (with_reducible repeat (first | apply Kd.R_alloc | apply Kd.R_drewN | apply Kd.R_drew)); exact HO_7.out) hg hat); have n1_ := Aside0.mk (Kd.R_after (ok := (fun k_ => some k_ ≠ (.slice Ao41 t7002.length co41 : Value).ownBlock ∧ some k_ ≠ (.slice Ao73 t7010.length co73 : Value).ownBlock)) (by (with_reducible repeat (first | apply Kd.R_alloc | apply Kd.R_drewN | apply Kd.R_drew)); exact HO_8.out) hg hat); have n2_ := Aside0.mk (Kd.R_after (ok := (fun k_ => some k_ ≠ (.slice Ao41 t7002.length co41 : Value).ownBlock ∧ some k_ ≠ (.slice Ao60 t7003.length co60 : Value).ownBlock)) (by (with_reducible repeat (first | apply Kd.R_alloc | apply Kd.R_drewN | apply Kd.R_drew)); exact HO_10.out) hg hat); have n3_ := Aside0.mk (hb); have n4_ := Aside0.mk (ho); clear HO_7; clear HO_8; clear HO_10; clear HB; clear HO7045; have HO_7 := n0_; have HO_8 := n1_; have HO_10 := n2_; have HB := n3_; have HO7048 := n4_; clear n0_ n1_ n2_ n3_ n4_; clear ho hb hg hat)))
                                            go_loopg [19, 20] k6 (fun kq v19 v20 w' => ∃ (x19_7 : Int) (x20_7 : Int), v19 = .int .i64 x19_7 ∧ v20 = .int .i64 x20_7 ∧ Aside0 (papermilllaw34_ReelCovers.l3 kq x12_19 x13_6 y7046 x19_7 x20_7 = some r) ∧ Aside0 (kq ≤ k6) ∧ Aside0 (Kd.R k36 36 w' w.heap.size (fun _ => True) v7047 y7046) ∧ Aside0 (Below w.heap.size w w'))
                                            case atStart => exact ⟨(0), (0), (by first | rfl | (simp; done) | (simp [*]; done)), (by first | rfl | (simp; done) | (simp [*]; done)), H', ⟨Nat.le_refl _⟩, ⟨by (with_reducible repeat (first | apply Kd.R_alloc | apply Kd.R_drewN | apply Kd.R_drew)); exact Kd.R_mono HO7048.out (fun _ hk => trivial)⟩, ⟨by repeat (first | (with_reducible first | exact HB.out | apply below_alloc | apply pw_below_drewN | apply below_drew1) | exact HB.out)⟩⟩
                                            case round => as_aux_lemma =>
                                              clear H'
                                              try clear c1
                                              try clear c2
                                              try clear p2
                                              try clear c3
                                              try clear c4
                                              try clear c5
                                              try clear c5b0
                                              try clear c5b1
                                              try clear c6
                                              try clear p6
                                              try clear c7
                                              try clear p7
                                              try clear q7
                                              try clear hx7
                                              try clear c10
                                              try clear c10b0
                                              try clear c10b1
                                              try clear c15
                                              try clear c15b0
                                              try clear c15b1
                                              try clear c19
                                              try clear c21
                                              try clear c21b0
                                              try clear c21b1
                                              try clear c23
                                              try clear c23b0
                                              try clear c24
                                              try clear c24b0
                                              try clear c25
                                              try clear c25b0
                                              try clear c26
                                              try clear c26b0
                                              try clear c27
                                              try clear c27b0
                                              try clear c29
                                              try clear c29b0
                                              try clear c31
                                              try clear c31b0
                                              try clear c33
                                              try clear c33b0
                                              try clear c35
                                              try clear c35b0
                                              try clear c36
                                              try clear c36b0
                                              try clear c37
                                              try clear c37b0
                                              try clear c42
                                              try clear c42b0
                                              try clear c43
                                              try clear c43b0
                                              try clear c44
                                              try clear c44b0
                                              try clear c46
                                              try clear c46b0
                                              try clear c48
                                              try clear c48b0
                                              try clear c50
                                              try clear c50b0
                                              try clear c52
                                              try clear c52b0
                                              try clear c54
                                              try clear c54b0
                                              try clear c55
                                              try clear c55b0
                                              try clear c56
                                              try clear c56b0
                                              try clear c61
                                              try clear c61b0
                                              try clear c62
                                              try clear c62b0
                                              try clear c63
                                              try clear c63b0
                                              try clear p64
                                              try clear c65
                                              try clear c65b0
                                              try clear c67
                                              try clear c67b0
                                              try clear c70
                                              try clear p70
                                              try clear q70
                                              try clear hx70
                                              try clear c71
                                              try clear c72
                                              try clear hx7014_0
                                              try clear hx7014_1
                                              try clear hx7014_2
                                              try clear hx7014_3
                                              try clear hx7014_4
                                              try clear hx7015_0
                                              try clear hx7015_1
                                              try clear hx7016_0
                                              try clear hx7016_1
                                              try clear hx7017_0
                                              try clear hx7017_1
                                              try clear hx7018_0
                                              try clear hx7018_1
                                              try clear hx7019_0
                                              try clear hx7019_1
                                              try clear hx7020_0
                                              try clear hx7020_1
                                              try clear hx7021_0
                                              try clear hx7021_1
                                              try clear hx7022_0
                                              try clear hx7022_1
                                              try clear hx7023_0
                                              try clear hx7023_1
                                              try clear hx7024_0
                                              try clear hx7024_1
                                              try clear hx7025_0
                                              try clear hx7025_1
                                              try clear hx7026_0
                                              try clear hx7026_1
                                              try clear hx7027_0
                                              try clear hx7027_1
                                              try clear hx7028_0
                                              try clear hx7028_1
                                              try clear hx7029_0
                                              try clear hx7029_1
                                              try clear hx7030_0
                                              try clear hx7030_1
                                              try clear hx7031_0
                                              try clear hx7031_1
                                              try clear hx7032_0
                                              try clear hx7032_1
                                              try clear hx7033_0
                                              try clear hx7033_1
                                              try clear hx7034_0
                                              try clear hx7034_1
                                              try clear hx7035_0
                                              try clear hx7035_1
                                              try clear hx7036_0
                                              try clear hx7036_1
                                              try clear p2
                                              try clear p6
                                              try clear p7
                                              try clear p7014
                                              try clear p7015
                                              try clear p7016
                                              try clear p7017
                                              try clear p7018
                                              try clear p7019
                                              try clear p7020
                                              try clear p7021
                                              try clear p7022
                                              try clear p7023
                                              try clear p7024
                                              try clear p7025
                                              try clear p7026
                                              try clear p7027
                                              try clear p7028
                                              try clear p7029
                                              try clear p7030
                                              try clear p7031
                                              try clear p7032
                                              try clear p7033
                                              try clear p7034
                                              try clear p7035
                                              try clear p7036
                                              try clear q7
                                              try clear q7014
                                              try clear q7015
                                              try clear q7016
                                              try clear q7017
                                              try clear q7018
                                              try clear q7019
                                              try clear q7020
                                              try clear q7021
                                              try clear q7022
                                              try clear q7023
                                              try clear q7024
                                              try clear q7025
                                              try clear q7026
                                              try clear q7027
                                              try clear q7028
                                              try clear q7029
                                              try clear q7030
                                              try clear q7031
                                              try clear q7032
                                              try clear q7033
                                              try clear q7034
                                              try clear q7035
                                              try clear q7036
                                              obtain ⟨x19_7, x20_7, rfl, rfl, HA, HK7, HO_18, HB⟩ := hrel
                                              cases gk with
                                              | zero => exact absurd HA.out (by simp [papermilllaw34_ReelCovers.l3])
                                              | succ k7 =>
                                                have H := HA.out
                                                clear HA
                                                simp only [papermilllaw34_ReelCovers.l3] at H
                                                by_cases c79 : x20_7 < (y7046.length : Int)
                                                · rw [if_pos c79] at H
                                                  have c79b0 : decide (x20_7 < (y7046.length : Int)) = true := decide_eq_true c79
                                                  clear c79
                                                  have H' := Aside0.mk H
                                                  clear H
                                                  obtain ⟨Ao80, co80, eo80⟩ := Kd.R_slice HO_18.out
                                                  subst eo80
                                                  go_wp2
                                                  repeat (go_quiet (fail); try go_wp2)
                                                  go_loopg [21] k7 (fun kq v21 w' => ∃ (x21_8 : Int), v21 = .int .i64 x21_8 ∧ Aside0 (papermilllaw34_ReelCovers.l4 kq x12_19 x13_6 y7046 x19_7 x20_7 x21_8 = some r) ∧ Aside0 (kq ≤ k7) ∧ Aside0 (Kd.R k36 36 w' w.heap.size (fun _ => True) (.slice Ao80 y7046.length co80) y7046) ∧ Aside0 (Below w.heap.size w w'))
                                                  case atStart => exact ⟨(0), (by first | rfl | (simp; done) | (simp [*]; done)), H', ⟨Nat.le_refl _⟩, ⟨by (with_reducible repeat (first | apply Kd.R_alloc | apply Kd.R_drewN | apply Kd.R_drew)); exact HO_18.out⟩, ⟨by repeat (first | (with_reducible first | exact HB.out | apply below_alloc | apply pw_below_drewN | apply below_drew1) | exact HB.out)⟩⟩
                                                  case round => as_aux_lemma =>
                                                    clear H'
                                                    try clear c1
                                                    try clear c2
                                                    try clear p2
                                                    try clear c3
                                                    try clear c4
                                                    try clear c5
                                                    try clear c5b0
                                                    try clear c5b1
                                                    try clear c6
                                                    try clear p6
                                                    try clear c7
                                                    try clear p7
                                                    try clear q7
                                                    try clear hx7
                                                    try clear c10
                                                    try clear c10b0
                                                    try clear c10b1
                                                    try clear c15
                                                    try clear c15b0
                                                    try clear c15b1
                                                    try clear c19
                                                    try clear c21
                                                    try clear c21b0
                                                    try clear c21b1
                                                    try clear c23
                                                    try clear c23b0
                                                    try clear c24
                                                    try clear c24b0
                                                    try clear c25
                                                    try clear c25b0
                                                    try clear c26
                                                    try clear c26b0
                                                    try clear c27
                                                    try clear c27b0
                                                    try clear c29
                                                    try clear c29b0
                                                    try clear c31
                                                    try clear c31b0
                                                    try clear c33
                                                    try clear c33b0
                                                    try clear c35
                                                    try clear c35b0
                                                    try clear c36
                                                    try clear c36b0
                                                    try clear c37
                                                    try clear c37b0
                                                    try clear c42
                                                    try clear c42b0
                                                    try clear c43
                                                    try clear c43b0
                                                    try clear c44
                                                    try clear c44b0
                                                    try clear c46
                                                    try clear c46b0
                                                    try clear c48
                                                    try clear c48b0
                                                    try clear c50
                                                    try clear c50b0
                                                    try clear c52
                                                    try clear c52b0
                                                    try clear c54
                                                    try clear c54b0
                                                    try clear c55
                                                    try clear c55b0
                                                    try clear c56
                                                    try clear c56b0
                                                    try clear c61
                                                    try clear c61b0
                                                    try clear c62
                                                    try clear c62b0
                                                    try clear c63
                                                    try clear c63b0
                                                    try clear p64
                                                    try clear c65
                                                    try clear c65b0
                                                    try clear c67
                                                    try clear c67b0
                                                    try clear c70
                                                    try clear p70
                                                    try clear q70
                                                    try clear hx70
                                                    try clear c71
                                                    try clear c72
                                                    try clear c79
                                                    try clear c79b0
                                                    try clear hx7014_0
                                                    try clear hx7014_1
                                                    try clear hx7014_2
                                                    try clear hx7014_3
                                                    try clear hx7014_4
                                                    try clear hx7015_0
                                                    try clear hx7015_1
                                                    try clear hx7016_0
                                                    try clear hx7016_1
                                                    try clear hx7017_0
                                                    try clear hx7017_1
                                                    try clear hx7018_0
                                                    try clear hx7018_1
                                                    try clear hx7019_0
                                                    try clear hx7019_1
                                                    try clear hx7020_0
                                                    try clear hx7020_1
                                                    try clear hx7021_0
                                                    try clear hx7021_1
                                                    try clear hx7022_0
                                                    try clear hx7022_1
                                                    try clear hx7023_0
                                                    try clear hx7023_1
                                                    try clear hx7024_0
                                                    try clear hx7024_1
                                                    try clear hx7025_0
                                                    try clear hx7025_1
                                                    try clear hx7026_0
                                                    try clear hx7026_1
                                                    try clear hx7027_0
                                                    try clear hx7027_1
                                                    try clear hx7028_0
                                                    try clear hx7028_1
                                                    try clear hx7029_0
                                                    try clear hx7029_1
                                                    try clear hx7030_0
                                                    try clear hx7030_1
                                                    try clear hx7031_0
                                                    try clear hx7031_1
                                                    try clear hx7032_0
                                                    try clear hx7032_1
                                                    try clear hx7033_0
                                                    try clear hx7033_1
                                                    try clear hx7034_0
                                                    try clear hx7034_1
                                                    try clear hx7035_0
                                                    try clear hx7035_1
                                                    try clear hx7036_0
                                                    try clear hx7036_1
                                                    try clear p2
                                                    try clear p6
                                                    try clear p64
                                                    try clear p7
                                                    try clear p70
                                                    try clear p7014
                                                    try clear p7015
                                                    try clear p7016
                                                    try clear p7017
                                                    try clear p7018
                                                    try clear p7019
                                                    try clear p7020
                                                    try clear p7021
                                                    try clear p7022
                                                    try clear p7023
                                                    try clear p7024
                                                    try clear p7025
                                                    try clear p7026
                                                    try clear p7027
                                                    try clear p7028
                                                    try clear p7029
                                                    try clear p7030
                                                    try clear p7031
                                                    try clear p7032
                                                    try clear p7033
                                                    try clear p7034
                                                    try clear p7035
                                                    try clear p7036
                                                    try clear q7
                                                    try clear q70
                                                    try clear q7014
                                                    try clear q7015
                                                    try clear q7016
                                                    try clear q7017
                                                    try clear q7018
                                                    try clear q7019
                                                    try clear q7020
                                                    try clear q7021
                                                    try clear q7022
                                                    try clear q7023
                                                    try clear q7024
                                                    try clear q7025
                                                    try clear q7026
                                                    try clear q7027
                                                    try clear q7028
                                                    try clear q7029
                                                    try clear q7030
                                                    try clear q7031
                                                    try clear q7032
                                                    try clear q7033
                                                    try clear q7034
                                                    try clear q7035
                                                    try clear q7036
                                                    obtain ⟨x21_8, rfl, HA, HK8, HO_18, HB⟩ := hrel
                                                    cases gk with
                                                    | zero => exact absurd HA.out (by simp [papermilllaw34_ReelCovers.l4])
                                                    | succ k8 =>
                                                      have H := HA.out
                                                      clear HA
                                                      simp only [papermilllaw34_ReelCovers.l4] at H
                                                      by_cases c81 : x21_8 < x20_7
                                                      · rw [if_pos c81] at H
                                                        have c81b0 : decide (x21_8 < x20_7) = true := decide_eq_true c81
                                                        clear c81
                                                        by_cases c82 : 0 ≤ x20_7
                                                        · rw [if_pos c82] at H
                                                          have c82b0 : decide (0 ≤ x20_7) = true := decide_eq_true c82
                                                          clear c82
                                                          by_cases c83 : x20_7 < (y7046.length : Int)
                                                          · rw [if_pos c83] at H
                                                            have c83b0 : decide (x20_7 < (y7046.length : Int)) = true := decide_eq_true c83
                                                            clear c83
                                                            by_cases c84 : 0 ≤ x21_8
                                                            · rw [if_pos c84] at H
                                                              have c84b0 : decide (0 ≤ x21_8) = true := decide_eq_true c84
                                                              clear c84
                                                              by_cases c85 : x21_8 < (y7046.length : Int)
                                                              · rw [if_pos c85] at H
                                                                have c85b0 : decide (x21_8 < (y7046.length : Int)) = true := decide_eq_true c85
                                                                clear c85
                                                                by_cases c86 : ((rd_T36 y7046 x20_7).f0) < ((rd_T36 y7046 x21_8).f1)
                                                                · rw [if_pos c86] at H
                                                                  have c86b0 : decide (((rd_T36 y7046 x20_7).f0) < ((rd_T36 y7046 x21_8).f1)) = true := decide_eq_true c86
                                                                  clear c86
                                                                  by_cases c87 : ((rd_T36 y7046 x21_8).f0) < ((rd_T36 y7046 x20_7).f1)
                                                                  · rw [if_pos c87] at H
                                                                    have c87b0 : decide (((rd_T36 y7046 x21_8).f0) < ((rd_T36 y7046 x20_7).f1)) = true := decide_eq_true c87
                                                                    clear c87
                                                                    obtain rfl := Option.some.inj H
                                                                    have p7050 : 0 ≤ (x20_7 : Int) := of_decide_eq_true (by first | (with_reducible assumption) | assumption)
                                                                    have q7050 : x20_7 < (y7046.length : Int) := of_decide_eq_true (by first | (with_reducible assumption) | assumption)
                                                                    obtain ⟨ad7050, e7050, hx7050_0, hx7050_1⟩ := at_T36 (Kd.R_reads' HO_18.out).2.2 x20_7 p7050 q7050
                                                                    cases e7050
                                                                    replace p7050 := eq_true p7050
                                                                    replace q7050 := eq_true q7050
                                                                    have p7051 : 0 ≤ (x21_8 : Int) := of_decide_eq_true (by first | (with_reducible assumption) | assumption)
                                                                    have q7051 : x21_8 < (y7046.length : Int) := of_decide_eq_true (by first | (with_reducible assumption) | assumption)
                                                                    obtain ⟨ad7051, e7051, hx7051_0, hx7051_1⟩ := at_T36 (Kd.R_reads' HO_18.out).2.2 x21_8 p7051 q7051
                                                                    obtain rfl : ad7050 = ad7051 := (by injection e7051)
                                                                    replace p7051 := eq_true p7051
                                                                    replace q7051 := eq_true q7051
                                                                    have p7052 : 0 ≤ (x21_8 : Int) := of_decide_eq_true (by first | (with_reducible assumption) | assumption)
                                                                    have q7052 : x21_8 < (y7046.length : Int) := of_decide_eq_true (by first | (with_reducible assumption) | assumption)
                                                                    obtain ⟨ad7052, e7052, hx7052_0, hx7052_1⟩ := at_T36 (Kd.R_reads' HO_18.out).2.2 x21_8 p7052 q7052
                                                                    obtain rfl : ad7050 = ad7052 := (by injection e7052)
                                                                    replace p7052 := eq_true p7052
                                                                    replace q7052 := eq_true q7052
                                                                    have p7053 : 0 ≤ (x20_7 : Int) := of_decide_eq_true (by first | (with_reducible assumption) | assumption)
                                                                    have q7053 : x20_7 < (y7046.length : Int) := of_decide_eq_true (by first | (with_reducible assumption) | assumption)
                                                                    obtain ⟨ad7053, e7053, hx7053_0, hx7053_1⟩ := at_T36 (Kd.R_reads' HO_18.out).2.2 x20_7 p7053 q7053
                                                                    obtain rfl : ad7050 = ad7053 := (by injection e7053)
                                                                    replace p7053 := eq_true p7053
                                                                    replace q7053 := eq_true q7053
                                                                    go_wp2
                                                                    repeat (go_quiet (fail); try go_wp2)
                                                                    go_ret
                                                                    exact ⟨by first | rfl | (simp [errW_none, errW_some] <;> rfl) | (simp [*, errW_none, errW_some] <;> rfl), by repeat (first | (with_reducible first | exact HB.out | apply below_alloc | apply pw_below_drewN | apply below_drew1) | exact HB.out)⟩
                                                                  · rw [if_neg c87] at H
                                                                    have c87b0 : decide (((rd_T36 y7046 x21_8).f0) < ((rd_T36 y7046 x20_7).f1)) = false := decide_eq_false c87
                                                                    clear c87
                                                                    have H' := Aside0.mk H
                                                                    clear H
                                                                    have p7050 : 0 ≤ (x20_7 : Int) := of_decide_eq_true (by first | (with_reducible assumption) | assumption)
                                                                    have q7050 : x20_7 < (y7046.length : Int) := of_decide_eq_true (by first | (with_reducible assumption) | assumption)
                                                                    obtain ⟨ad7050, e7050, hx7050_0, hx7050_1⟩ := at_T36 (Kd.R_reads' HO_18.out).2.2 x20_7 p7050 q7050
                                                                    cases e7050
                                                                    replace p7050 := eq_true p7050
                                                                    replace q7050 := eq_true q7050
                                                                    have p7051 : 0 ≤ (x21_8 : Int) := of_decide_eq_true (by first | (with_reducible assumption) | assumption)
                                                                    have q7051 : x21_8 < (y7046.length : Int) := of_decide_eq_true (by first | (with_reducible assumption) | assumption)
                                                                    obtain ⟨ad7051, e7051, hx7051_0, hx7051_1⟩ := at_T36 (Kd.R_reads' HO_18.out).2.2 x21_8 p7051 q7051
                                                                    obtain rfl : ad7050 = ad7051 := (by injection e7051)
                                                                    replace p7051 := eq_true p7051
                                                                    replace q7051 := eq_true q7051
                                                                    have p7052 : 0 ≤ (x21_8 : Int) := of_decide_eq_true (by first | (with_reducible assumption) | assumption)
                                                                    have q7052 : x21_8 < (y7046.length : Int) := of_decide_eq_true (by first | (with_reducible assumption) | assumption)
                                                                    obtain ⟨ad7052, e7052, hx7052_0, hx7052_1⟩ := at_T36 (Kd.R_reads' HO_18.out).2.2 x21_8 p7052 q7052
                                                                    obtain rfl : ad7050 = ad7052 := (by injection e7052)
                                                                    replace p7052 := eq_true p7052
                                                                    replace q7052 := eq_true q7052
                                                                    have p7053 : 0 ≤ (x20_7 : Int) := of_decide_eq_true (by first | (with_reducible assumption) | assumption)
                                                                    have q7053 : x20_7 < (y7046.length : Int) := of_decide_eq_true (by first | (with_reducible assumption) | assumption)
                                                                    obtain ⟨ad7053, e7053, hx7053_0, hx7053_1⟩ := at_T36 (Kd.R_reads' HO_18.out).2.2 x20_7 p7053 q7053
                                                                    obtain rfl : ad7050 = ad7053 := (by injection e7053)
                                                                    replace p7053 := eq_true p7053
                                                                    replace q7053 := eq_true q7053
                                                                    go_wp2
                                                                    repeat (go_quiet (fail); try go_wp2)
                                                                    go_roundg k8
                                                                    case measure => have := HJ3.out; have := HJ11.out; have := HJ19.out; have := HK4.out; have := HK5.out; have := HK6.out; have := HK7.out; have := HK8.out; omega
                                                                    case rel => exact ⟨(wrap64 (x21_8 + 1)), (by first | rfl | (simp; done) | (simp [*]; done)), H', ⟨by have := HJ3.out; have := HJ11.out; have := HJ19.out; have := HK4.out; have := HK5.out; have := HK6.out; have := HK7.out; have := HK8.out; omega⟩, ⟨by (with_reducible repeat (first | apply Kd.R_alloc | apply Kd.R_drewN | apply Kd.R_drew)); exact HO_18.out⟩, ⟨by repeat (first | (with_reducible first | exact HB.out | apply below_alloc | apply pw_below_drewN | apply below_drew1) | exact HB.out)⟩⟩
                                                                · rw [if_neg c86] at H
                                                                  have c86b0 : decide (((rd_T36 y7046 x20_7).f0) < ((rd_T36 y7046 x21_8).f1)) = false := decide_eq_false c86
                                                                  clear c86
                                                                  have H' := Aside0.mk H
                                                                  clear H
                                                                  have p7050 : 0 ≤ (x20_7 : Int) := of_decide_eq_true (by first | (with_reducible assumption) | assumption)
                                                                  have q7050 : x20_7 < (y7046.length : Int) := of_decide_eq_true (by first | (with_reducible assumption) | assumption)
                                                                  obtain ⟨ad7050, e7050, hx7050_0, hx7050_1⟩ := at_T36 (Kd.R_reads' HO_18.out).2.2 x20_7 p7050 q7050
                                                                  cases e7050
                                                                  replace p7050 := eq_true p7050
                                                                  replace q7050 := eq_true q7050
                                                                  have p7051 : 0 ≤ (x21_8 : Int) := of_decide_eq_true (by first | (with_reducible assumption) | assumption)
                                                                  have q7051 : x21_8 < (y7046.length : Int) := of_decide_eq_true (by first | (with_reducible assumption) | assumption)
                                                                  obtain ⟨ad7051, e7051, hx7051_0, hx7051_1⟩ := at_T36 (Kd.R_reads' HO_18.out).2.2 x21_8 p7051 q7051
                                                                  obtain rfl : ad7050 = ad7051 := (by injection e7051)
                                                                  replace p7051 := eq_true p7051
                                                                  replace q7051 := eq_true q7051
                                                                  go_wp2
                                                                  repeat (go_quiet (fail); try go_wp2)
                                                                  go_roundg k8
                                                                  case measure => have := HJ3.out; have := HJ11.out; have := HJ19.out; have := HK4.out; have := HK5.out; have := HK6.out; have := HK7.out; have := HK8.out; omega
                                                                  case rel => exact ⟨(wrap64 (x21_8 + 1)), (by first | rfl | (simp; done) | (simp [*]; done)), H', ⟨by have := HJ3.out; have := HJ11.out; have := HJ19.out; have := HK4.out; have := HK5.out; have := HK6.out; have := HK7.out; have := HK8.out; omega⟩, ⟨by (with_reducible repeat (first | apply Kd.R_alloc | apply Kd.R_drewN | apply Kd.R_drew)); exact HO_18.out⟩, ⟨by repeat (first | (with_reducible first | exact HB.out | apply below_alloc | apply pw_below_drewN | apply below_drew1) | exact HB.out)⟩⟩
                                                              · rw [if_neg c85] at H
                                                                exact absurd H (by simp)
                                                            · rw [if_neg c84] at H
                                                              exact absurd H (by simp)
                                                          · rw [if_neg c83] at H
                                                            exact absurd H (by simp)
                                                        · rw [if_neg c82] at H
                                                          exact absurd H (by simp)
                                                      · rw [if_neg c81] at H
                                                        have c81b0 : decide (x21_8 < x20_7) = false := decide_eq_false c81
                                                        clear c81
                                                        by_cases c88 : 0 ≤ x20_7
                                                        · rw [if_pos c88] at H
                                                          have c88b0 : decide (0 ≤ x20_7) = true := decide_eq_true c88
                                                          clear c88
                                                          by_cases c89 : x20_7 < (y7046.length : Int)
                                                          · rw [if_pos c89] at H
                                                            have c89b0 : decide (x20_7 < (y7046.length : Int)) = true := decide_eq_true c89
                                                            clear c89
                                                            have H' := Aside0.mk H
                                                            clear H
                                                            have p7054 : 0 ≤ (x20_7 : Int) := of_decide_eq_true (by first | (with_reducible assumption) | assumption)
                                                            have q7054 : x20_7 < (y7046.length : Int) := of_decide_eq_true (by first | (with_reducible assumption) | assumption)
                                                            obtain ⟨ad7054, e7054, hx7054_0, hx7054_1⟩ := at_T36 (Kd.R_reads' HO_18.out).2.2 x20_7 p7054 q7054
                                                            cases e7054
                                                            replace p7054 := eq_true p7054
                                                            replace q7054 := eq_true q7054
                                                            have p7055 : 0 ≤ (x20_7 : Int) := of_decide_eq_true (by first | (with_reducible assumption) | assumption)
                                                            have q7055 : x20_7 < (y7046.length : Int) := of_decide_eq_true (by first | (with_reducible assumption) | assumption)
                                                            obtain ⟨ad7055, e7055, hx7055_0, hx7055_1⟩ := at_T36 (Kd.R_reads' HO_18.out).2.2 x20_7 p7055 q7055
                                                            obtain rfl : ad7054 = ad7055 := (by injection e7055)
                                                            replace p7055 := eq_true p7055
                                                            replace q7055 := eq_true q7055
                                                            go_wp2
                                                            repeat (go_quiet (fail); try go_wp2)
                                                            go_roundg k8
                                                            case measure => have := HJ3.out; have := HJ11.out; have := HJ19.out; have := HK4.out; have := HK5.out; have := HK6.out; have := HK7.out; have := HK8.out; omega
                                                            case rel => exact ⟨(wrap64 ((wrap64 (x19_7 + ((rd_T36 y7046 x20_7).f1))) - ((rd_T36 y7046 x20_7).f0))), (wrap64 (x20_7 + 1)), (by first | rfl | (simp; done) | (simp [*]; done)), (by first | rfl | (simp; done) | (simp [*]; done)), H', ⟨by have := HJ3.out; have := HJ11.out; have := HJ19.out; have := HK4.out; have := HK5.out; have := HK6.out; have := HK7.out; have := HK8.out; omega⟩, ⟨by (with_reducible repeat (first | apply Kd.R_alloc | apply Kd.R_drewN | apply Kd.R_drew)); exact HO_18.out⟩, ⟨by repeat (first | (with_reducible first | exact HB.out | apply below_alloc | apply pw_below_drewN | apply below_drew1) | exact HB.out)⟩⟩
                                                          · rw [if_neg c89] at H
                                                            exact absurd H (by simp)
                                                        · rw [if_neg c88] at H
                                                          exact absurd H (by simp)
                                                · rw [if_neg c79] at H
                                                  have c79b0 : decide (x20_7 < (y7046.length : Int)) = false := decide_eq_false c79
                                                  clear c79
                                                  by_cases c90 : x13_6 = x12_19
                                                  · rw [if_pos c90] at H
                                                    have c90b0 : (x13_6 == x12_19) = true := beq_iff_eq.mpr c90
                                                    have c90b1 : (x13_6 != x12_19) = false := bne_eq_false_iff_eq.mpr c90
                                                    clear c90
                                                    by_cases c91 : x19_7 = x12_19
                                                    · rw [if_pos c91] at H
                                                      have c91b0 : (x19_7 == x12_19) = true := beq_iff_eq.mpr c91
                                                      have c91b1 : (x19_7 != x12_19) = false := bne_eq_false_iff_eq.mpr c91
                                                      clear c91
                                                      replace H := Option.bind_eq_some_iff.mp H
                                                      obtain ⟨t7049, A920, H⟩ := H
                                                      replace H : (some t7049) = some r := H
                                                      have A92 := Aside0.mk A920
                                                      clear A920
                                                      obtain rfl := Option.some.inj H
                                                      obtain ⟨Ao93, co93, eo93⟩ := Kd.R_slice HO_18.out
                                                      subst eo93
                                                      go_wp2_with (first | (go_at_call 12; (with_reducible refine (papermilllaw34_awake.calls  t7049 _ A92.out).mono ?_); rintro e w94 ⟨rfl, hb⟩; have n0_ := Aside0.mk (Kd.R_below (by (with_reducible repeat (first | apply Kd.R_alloc | apply Kd.R_drewN | apply Kd.R_drew)); exact HO_18.out) hb); have n1_ := Aside0.mk (below_step (by repeat (first | (with_reducible first | exact HB.out | apply below_alloc | apply pw_below_drewN | apply below_drew1) | exact HB.out)) hb); clear HO_18; clear HB; have HO_18 := n0_; have HB := n1_; clear n0_ n1_; (try clear hb); (try clear hb2); (try clear hk); (try clear hi)))
                                                      repeat (go_quiet (first | (go_at_call 12; (with_reducible refine (papermilllaw34_awake.calls  t7049 _ A92.out).mono ?_); rintro e w94 ⟨rfl, hb⟩; have n0_ := Aside0.mk (Kd.R_below (by (with_reducible repeat (first | apply Kd.R_alloc | apply Kd.R_drewN | apply Kd.R_drew)); exact HO_18.out) hb); have n1_ := Aside0.mk (below_step (by repeat (first | (with_reducible first | exact HB.out | apply below_alloc | apply pw_below_drewN | apply below_drew1) | exact HB.out)) hb); clear HO_18; clear HB; have HO_18 := n0_; have HB := n1_; clear n0_ n1_; (try clear hb); (try clear hb2); (try clear hk); (try clear hi))); try go_wp2_with (first | (go_at_call 12; (with_reducible refine (papermilllaw34_awake.calls  t7049 _ A92.out).mono ?_); rintro e w94 ⟨rfl, hb⟩; have n0_ := Aside0.mk (Kd.R_below (by (with_reducible repeat (first | apply Kd.R_alloc | apply Kd.R_drewN | apply Kd.R_drew)); exact HO_18.out) hb); have n1_ := Aside0.mk (below_step (by repeat (first | (with_reducible first | exact HB.out | apply below_alloc | apply pw_below_drewN | apply below_drew1) | exact HB.out)) hb); clear HO_18; clear HB; have HO_18 := n0_; have HB := n1_; clear n0_ n1_; (try clear hb); (try clear hb2); (try clear hk); (try clear hi))))
                                                      go_ret
                                                      exact ⟨by first | rfl | (simp [errW_none, errW_some] <;> rfl) | (simp [*, errW_none, errW_some] <;> rfl), by repeat (first | (with_reducible first | exact HB.out | apply below_alloc | apply pw_below_drewN | apply below_drew1) | exact HB.out)⟩
                                                    · rw [if_neg c91] at H
                                                      have c91b0 : (x19_7 == x12_19) = false := beq_eq_false_iff_ne.mpr c91
                                                      have c91b1 : (x19_7 != x12_19) = true := bne_iff_ne.mpr c91
                                                      obtain rfl := Option.some.inj H
                                                      obtain ⟨Ao95, co95, eo95⟩ := Kd.R_slice HO_18.out
                                                      subst eo95
                                                      go_wp2
                                                      repeat (go_quiet (fail); try go_wp2)
                                                      go_ret
                                                      exact ⟨by first | rfl | (simp [errW_none, errW_some] <;> rfl) | (simp [*, errW_none, errW_some] <;> rfl), by repeat (first | (with_reducible first | exact HB.out | apply below_alloc | apply pw_below_drewN | apply below_drew1) | exact HB.out)⟩
                                                  · rw [if_neg c90] at H
                                                    have c90b0 : (x13_6 == x12_19) = false := beq_eq_false_iff_ne.mpr c90
                                                    have c90b1 : (x13_6 != x12_19) = true := bne_iff_ne.mpr c90
                                                    obtain rfl := Option.some.inj H
                                                    obtain ⟨Ao96, co96, eo96⟩ := Kd.R_slice HO_18.out
                                                    subst eo96
                                                    go_wp2
                                                    repeat (go_quiet (fail); try go_wp2)
                                                    go_ret
                                                    exact ⟨by first | rfl | (simp [errW_none, errW_some] <;> rfl) | (simp [*, errW_none, errW_some] <;> rfl), by repeat (first | (with_reducible first | exact HB.out | apply below_alloc | apply pw_below_drewN | apply below_drew1) | exact HB.out)⟩
                                          · rw [if_neg c72] at H
                                            exact absurd H (by simp)
                                        · rw [if_neg c71] at H
                                          exact absurd H (by simp)
                                      · rw [if_neg c70] at H
                                        exact absurd H (by simp)
        · rw [if_neg c10] at H
          have c10b0 : (t7004 == 0) = false := beq_eq_false_iff_ne.mpr c10
          have c10b1 : (t7004 != 0) = true := bne_iff_ne.mpr c10
          by_cases c97 : (t7002.length : Int) = 0
          · rw [if_pos c97] at H
            have c97b0 : ((t7002.length : Int) == 0) = true := beq_iff_eq.mpr c97
            have c97b1 : ((t7002.length : Int) != 0) = false := bne_eq_false_iff_eq.mpr c97
            clear c97
            by_cases c98 : (t7003.length : Int) = 0
            · rw [if_pos c98] at H
              have c98b0 : ((t7003.length : Int) == 0) = true := beq_iff_eq.mpr c98
              have c98b1 : ((t7003.length : Int) != 0) = false := bne_eq_false_iff_eq.mpr c98
              clear c98
              replace H := Option.bind_eq_some_iff.mp H
              obtain ⟨t7009, A990, H⟩ := H
              replace H : (some t7009) = some r := H
              have A99 := Aside0.mk A990
              clear A990
              obtain rfl := Option.some.inj H
              go_wp2_with (first | (go_at_call 18; (with_reducible refine (reel_Cut.calls kj3 _ _ l0 _ _ l1 a2 t7002 t7003 t7004 _ ?side1 ?side2 ?side3 ?side4 A9.out).mono ?_); (case side1 => repeat (first | exact (Kd.C_below HR0.out HB.out) | (with_reducible refine Kd.C_alloc ?_ _) | (with_reducible refine Kd.C_drewN ?_ _) | (with_reducible refine Kd.C_drew ?_))); (case side2 => exact HC0.out); (case side3 => repeat (first | exact (Kd.C_below HR1.out HB.out) | (with_reducible refine Kd.C_alloc ?_ _) | (with_reducible refine Kd.C_drewN ?_ _) | (with_reducible refine Kd.C_drew ?_))); (case side4 => exact HC1.out); rintro e w100 ⟨v7005, v7007, rfl, ho0, ho1, hb⟩; have n0_ := Aside0.mk (Kd.R_lower ho0 (below_size (by repeat (first | (with_reducible first | exact HB.out | apply below_alloc | apply pw_below_drewN | apply below_drew1) | exact HB.out)))); have n1_ := Aside0.mk (Kd.R_lower ho1 (below_size (by repeat (first | (with_reducible first | exact HB.out | apply below_alloc | apply pw_below_drewN | apply below_drew1) | exact HB.out)))); have n2_ := Aside0.mk (below_step (by repeat (first | (with_reducible first | exact HB.out | apply below_alloc | apply pw_below_drewN | apply below_drew1) | exact HB.out)) hb); clear HB; have HO7006 := n0_; have HO7008 := n1_; have HB := n2_; clear n0_ n1_ n2_; (try clear hb); (try clear hb2); (try clear hk); (try clear hi); (try clear ho0); (try clear ho1); obtain ⟨Ao101, co101, eo101⟩ := Kd.R_slice HO7006.out; subst eo101; obtain ⟨Ao102, co102, eo102⟩ := Kd.R_slice HO7008.out; subst eo102) | (go_at_call 12; (with_reducible refine (papermilllaw34_awake.calls  t7009 _ A99.out).mono ?_); rintro e w103 ⟨rfl, hb⟩; have n0_ := Aside0.mk (Kd.R_below (by (with_reducible repeat (first | apply Kd.R_alloc | apply Kd.R_drewN | apply Kd.R_drew)); exact HO7006.out) hb); have n1_ := Aside0.mk (Kd.R_below (by (with_reducible repeat (first | apply Kd.R_alloc | apply Kd.R_drewN | apply Kd.R_drew)); exact HO7008.out) hb); have n2_ := Aside0.mk (below_step (by repeat (first | (with_reducible first | exact HB.out | apply below_alloc | apply pw_below_drewN | apply below_drew1) | exact HB.out)) hb); clear HO7006; clear HO7008; clear HB; have HO7006 := n0_; have HO7008 := n1_; have HB := n2_; clear n0_ n1_ n2_; (try clear hb); (try clear hb2); (try clear hk); (try clear hi)))
              repeat (go_quiet (first | (go_at_call 18; (with_reducible refine (reel_Cut.calls kj3 _ _ l0 _ _ l1 a2 t7002 t7003 t7004 _ ?side1 ?side2 ?side3 ?side4 A9.out).mono ?_); (case side1 => repeat (first | exact (Kd.C_below HR0.out HB.out) | (with_reducible refine Kd.C_alloc ?_ _) | (with_reducible refine Kd.C_drewN ?_ _) | (with_reducible refine Kd.C_drew ?_))); (case side2 => exact HC0.out); (case side3 => repeat (first | exact (Kd.C_below HR1.out HB.out) | (with_reducible refine Kd.C_alloc ?_ _) | (with_reducible refine Kd.C_drewN ?_ _) | (with_reducible refine Kd.C_drew ?_))); (case side4 => exact HC1.out); rintro e w100 ⟨v7005, v7007, rfl, ho0, ho1, hb⟩; have n0_ := Aside0.mk (Kd.R_lower ho0 (below_size (by repeat (first | (with_reducible first | exact HB.out | apply below_alloc | apply pw_below_drewN | apply below_drew1) | exact HB.out)))); have n1_ := Aside0.mk (Kd.R_lower ho1 (below_size (by repeat (first | (with_reducible first | exact HB.out | apply below_alloc | apply pw_below_drewN | apply below_drew1) | exact HB.out)))); have n2_ := Aside0.mk (below_step (by repeat (first | (with_reducible first | exact HB.out | apply below_alloc | apply pw_below_drewN | apply below_drew1) | exact HB.out)) hb); clear HB; have HO7006 := n0_; have HO7008 := n1_; have HB := n2_; clear n0_ n1_ n2_; (try clear hb); (try clear hb2); (try clear hk); (try clear hi); (try clear ho0); (try clear ho1); obtain ⟨Ao101, co101, eo101⟩ := Kd.R_slice HO7006.out; subst eo101; obtain ⟨Ao102, co102, eo102⟩ := Kd.R_slice HO7008.out; subst eo102) | (go_at_call 12; (with_reducible refine (papermilllaw34_awake.calls  t7009 _ A99.out).mono ?_); rintro e w103 ⟨rfl, hb⟩; have n0_ := Aside0.mk (Kd.R_below (by (with_reducible repeat (first | apply Kd.R_alloc | apply Kd.R_drewN | apply Kd.R_drew)); exact HO7006.out) hb); have n1_ := Aside0.mk (Kd.R_below (by (with_reducible repeat (first | apply Kd.R_alloc | apply Kd.R_drewN | apply Kd.R_drew)); exact HO7008.out) hb); have n2_ := Aside0.mk (below_step (by repeat (first | (with_reducible first | exact HB.out | apply below_alloc | apply pw_below_drewN | apply below_drew1) | exact HB.out)) hb); clear HO7006; clear HO7008; clear HB; have HO7006 := n0_; have HO7008 := n1_; have HB := n2_; clear n0_ n1_ n2_; (try clear hb); (try clear hb2); (try clear hk); (try clear hi))); try go_wp2_with (first | (go_at_call 18; (with_reducible refine (reel_Cut.calls kj3 _ _ l0 _ _ l1 a2 t7002 t7003 t7004 _ ?side1 ?side2 ?side3 ?side4 A9.out).mono ?_); (case side1 => repeat (first | exact (Kd.C_below HR0.out HB.out) | (with_reducible refine Kd.C_alloc ?_ _) | (with_reducible refine Kd.C_drewN ?_ _) | (with_reducible refine Kd.C_drew ?_))); (case side2 => exact HC0.out); (case side3 => repeat (first | exact (Kd.C_below HR1.out HB.out) | (with_reducible refine Kd.C_alloc ?_ _) | (with_reducible refine Kd.C_drewN ?_ _) | (with_reducible refine Kd.C_drew ?_))); (case side4 => exact HC1.out); rintro e w100 ⟨v7005, v7007, rfl, ho0, ho1, hb⟩; have n0_ := Aside0.mk (Kd.R_lower ho0 (below_size (by repeat (first | (with_reducible first | exact HB.out | apply below_alloc | apply pw_below_drewN | apply below_drew1) | exact HB.out)))); have n1_ := Aside0.mk (Kd.R_lower ho1 (below_size (by repeat (first | (with_reducible first | exact HB.out | apply below_alloc | apply pw_below_drewN | apply below_drew1) | exact HB.out)))); have n2_ := Aside0.mk (below_step (by repeat (first | (with_reducible first | exact HB.out | apply below_alloc | apply pw_below_drewN | apply below_drew1) | exact HB.out)) hb); clear HB; have HO7006 := n0_; have HO7008 := n1_; have HB := n2_; clear n0_ n1_ n2_; (try clear hb); (try clear hb2); (try clear hk); (try clear hi); (try clear ho0); (try clear ho1); obtain ⟨Ao101, co101, eo101⟩ := Kd.R_slice HO7006.out; subst eo101; obtain ⟨Ao102, co102, eo102⟩ := Kd.R_slice HO7008.out; subst eo102) | (go_at_call 12; (with_reducible refine (papermilllaw34_awake.calls  t7009 _ A99.out).mono ?_); rintro e w103 ⟨rfl, hb⟩; have n0_ := Aside0.mk (Kd.R_below (by (with_reducible repeat (first | apply Kd.R_alloc | apply Kd.R_drewN | apply Kd.R_drew)); exact HO7006.out) hb); have n1_ := Aside0.mk (Kd.R_below (by (with_reducible repeat (first | apply Kd.R_alloc | apply Kd.R_drewN | apply Kd.R_drew)); exact HO7008.out) hb); have n2_ := Aside0.mk (below_step (by repeat (first | (with_reducible first | exact HB.out | apply below_alloc | apply pw_below_drewN | apply below_drew1) | exact HB.out)) hb); clear HO7006; clear HO7008; clear HB; have HO7006 := n0_; have HO7008 := n1_; have HB := n2_; clear n0_ n1_ n2_; (try clear hb); (try clear hb2); (try clear hk); (try clear hi))))
              go_ret
              exact ⟨by first | rfl | (simp [errW_none, errW_some] <;> rfl) | (simp [*, errW_none, errW_some] <;> rfl), by repeat (first | (with_reducible first | exact HB.out | apply below_alloc | apply pw_below_drewN | apply below_drew1) | exact HB.out)⟩
            · rw [if_neg c98] at H
              have c98b0 : ((t7003.length : Int) == 0) = false := beq_eq_false_iff_ne.mpr c98
              have c98b1 : ((t7003.length : Int) != 0) = true := bne_iff_ne.mpr c98
              have c98b2 : ¬ (t7003 = []) := fun h_ => c98 (by rw [h_]; rfl)
              obtain rfl := Option.some.inj H
              go_wp2_with (first | (go_at_call 18; (with_reducible refine (reel_Cut.calls kj3 _ _ l0 _ _ l1 a2 t7002 t7003 t7004 _ ?side1 ?side2 ?side3 ?side4 A9.out).mono ?_); (case side1 => repeat (first | exact (Kd.C_below HR0.out HB.out) | (with_reducible refine Kd.C_alloc ?_ _) | (with_reducible refine Kd.C_drewN ?_ _) | (with_reducible refine Kd.C_drew ?_))); (case side2 => exact HC0.out); (case side3 => repeat (first | exact (Kd.C_below HR1.out HB.out) | (with_reducible refine Kd.C_alloc ?_ _) | (with_reducible refine Kd.C_drewN ?_ _) | (with_reducible refine Kd.C_drew ?_))); (case side4 => exact HC1.out); rintro e w104 ⟨v7005, v7007, rfl, ho0, ho1, hb⟩; have n0_ := Aside0.mk (Kd.R_lower ho0 (below_size (by repeat (first | (with_reducible first | exact HB.out | apply below_alloc | apply pw_below_drewN | apply below_drew1) | exact HB.out)))); have n1_ := Aside0.mk (Kd.R_lower ho1 (below_size (by repeat (first | (with_reducible first | exact HB.out | apply below_alloc | apply pw_below_drewN | apply below_drew1) | exact HB.out)))); have n2_ := Aside0.mk (below_step (by repeat (first | (with_reducible first | exact HB.out | apply below_alloc | apply pw_below_drewN | apply below_drew1) | exact HB.out)) hb); clear HB; have HO7006 := n0_; have HO7008 := n1_; have HB := n2_; clear n0_ n1_ n2_; (try clear hb); (try clear hb2); (try clear hk); (try clear hi); (try clear ho0); (try clear ho1); obtain ⟨Ao105, co105, eo105⟩ := Kd.R_slice HO7006.out; subst eo105; obtain ⟨Ao106, co106, eo106⟩ := Kd.R_slice HO7008.out; subst eo106))
              repeat (go_quiet (first | (go_at_call 18; (with_reducible refine (reel_Cut.calls kj3 _ _ l0 _ _ l1 a2 t7002 t7003 t7004 _ ?side1 ?side2 ?side3 ?side4 A9.out).mono ?_); (case side1 => repeat (first | exact (Kd.C_below HR0.out HB.out) | (with_reducible refine Kd.C_alloc ?_ _) | (with_reducible refine Kd.C_drewN ?_ _) | (with_reducible refine Kd.C_drew ?_))); (case side2 => exact HC0.out); (case side3 => repeat (first | exact (Kd.C_below HR1.out HB.out) | (with_reducible refine Kd.C_alloc ?_ _) | (with_reducible refine Kd.C_drewN ?_ _) | (with_reducible refine Kd.C_drew ?_))); (case side4 => exact HC1.out); rintro e w104 ⟨v7005, v7007, rfl, ho0, ho1, hb⟩; have n0_ := Aside0.mk (Kd.R_lower ho0 (below_size (by repeat (first | (with_reducible first | exact HB.out | apply below_alloc | apply pw_below_drewN | apply below_drew1) | exact HB.out)))); have n1_ := Aside0.mk (Kd.R_lower ho1 (below_size (by repeat (first | (with_reducible first | exact HB.out | apply below_alloc | apply pw_below_drewN | apply below_drew1) | exact HB.out)))); have n2_ := Aside0.mk (below_step (by repeat (first | (with_reducible first | exact HB.out | apply below_alloc | apply pw_below_drewN | apply below_drew1) | exact HB.out)) hb); clear HB; have HO7006 := n0_; have HO7008 := n1_; have HB := n2_; clear n0_ n1_ n2_; (try clear hb); (try clear hb2); (try clear hk); (try clear hi); (try clear ho0); (try clear ho1); obtain ⟨Ao105, co105, eo105⟩ := Kd.R_slice HO7006.out; subst eo105; obtain ⟨Ao106, co106, eo106⟩ := Kd.R_slice HO7008.out; subst eo106)); try go_wp2_with (first | (go_at_call 18; (with_reducible refine (reel_Cut.calls kj3 _ _ l0 _ _ l1 a2 t7002 t7003 t7004 _ ?side1 ?side2 ?side3 ?side4 A9.out).mono ?_); (case side1 => repeat (first | exact (Kd.C_below HR0.out HB.out) | (with_reducible refine Kd.C_alloc ?_ _) | (with_reducible refine Kd.C_drewN ?_ _) | (with_reducible refine Kd.C_drew ?_))); (case side2 => exact HC0.out); (case side3 => repeat (first | exact (Kd.C_below HR1.out HB.out) | (with_reducible refine Kd.C_alloc ?_ _) | (with_reducible refine Kd.C_drewN ?_ _) | (with_reducible refine Kd.C_drew ?_))); (case side4 => exact HC1.out); rintro e w104 ⟨v7005, v7007, rfl, ho0, ho1, hb⟩; have n0_ := Aside0.mk (Kd.R_lower ho0 (below_size (by repeat (first | (with_reducible first | exact HB.out | apply below_alloc | apply pw_below_drewN | apply below_drew1) | exact HB.out)))); have n1_ := Aside0.mk (Kd.R_lower ho1 (below_size (by repeat (first | (with_reducible first | exact HB.out | apply below_alloc | apply pw_below_drewN | apply below_drew1) | exact HB.out)))); have n2_ := Aside0.mk (below_step (by repeat (first | (with_reducible first | exact HB.out | apply below_alloc | apply pw_below_drewN | apply below_drew1) | exact HB.out)) hb); clear HB; have HO7006 := n0_; have HO7008 := n1_; have HB := n2_; clear n0_ n1_ n2_; (try clear hb); (try clear hb2); (try clear hk); (try clear hi); (try clear ho0); (try clear ho1); obtain ⟨Ao105, co105, eo105⟩ := Kd.R_slice HO7006.out; subst eo105; obtain ⟨Ao106, co106, eo106⟩ := Kd.R_slice HO7008.out; subst eo106)))
              go_ret
              exact ⟨by first | rfl | (simp [errW_none, errW_some] <;> rfl) | (simp [*, errW_none, errW_some] <;> rfl), by repeat (first | (with_reducible first | exact HB.out | apply below_alloc | apply pw_below_drewN | apply below_drew1) | exact HB.out)⟩
          · rw [if_neg c97] at H
            have c97b0 : ((t7002.length : Int) == 0) = false := beq_eq_false_iff_ne.mpr c97
            have c97b1 : ((t7002.length : Int) != 0) = true := bne_iff_ne.mpr c97
            have c97b2 : ¬ (t7002 = []) := fun h_ => c97 (by rw [h_]; rfl)
            obtain rfl := Option.some.inj H
            go_wp2_with (first | (go_at_call 18; (with_reducible refine (reel_Cut.calls kj3 _ _ l0 _ _ l1 a2 t7002 t7003 t7004 _ ?side1 ?side2 ?side3 ?side4 A9.out).mono ?_); (case side1 => repeat (first | exact (Kd.C_below HR0.out HB.out) | (with_reducible refine Kd.C_alloc ?_ _) | (with_reducible refine Kd.C_drewN ?_ _) | (with_reducible refine Kd.C_drew ?_))); (case side2 => exact HC0.out); (case side3 => repeat (first | exact (Kd.C_below HR1.out HB.out) | (with_reducible refine Kd.C_alloc ?_ _) | (with_reducible refine Kd.C_drewN ?_ _) | (with_reducible refine Kd.C_drew ?_))); (case side4 => exact HC1.out); rintro e w107 ⟨v7005, v7007, rfl, ho0, ho1, hb⟩; have n0_ := Aside0.mk (Kd.R_lower ho0 (below_size (by repeat (first | (with_reducible first | exact HB.out | apply below_alloc | apply pw_below_drewN | apply below_drew1) | exact HB.out)))); have n1_ := Aside0.mk (Kd.R_lower ho1 (below_size (by repeat (first | (with_reducible first | exact HB.out | apply below_alloc | apply pw_below_drewN | apply below_drew1) | exact HB.out)))); have n2_ := Aside0.mk (below_step (by repeat (first | (with_reducible first | exact HB.out | apply below_alloc | apply pw_below_drewN | apply below_drew1) | exact HB.out)) hb); clear HB; have HO7006 := n0_; have HO7008 := n1_; have HB := n2_; clear n0_ n1_ n2_; (try clear hb); (try clear hb2); (try clear hk); (try clear hi); (try clear ho0); (try clear ho1); obtain ⟨Ao108, co108, eo108⟩ := Kd.R_slice HO7006.out; subst eo108))
            repeat (go_quiet (first | (go_at_call 18; (with_reducible refine (reel_Cut.calls kj3 _ _ l0 _ _ l1 a2 t7002 t7003 t7004 _ ?side1 ?side2 ?side3 ?side4 A9.out).mono ?_); (case side1 => repeat (first | exact (Kd.C_below HR0.out HB.out) | (with_reducible refine Kd.C_alloc ?_ _) | (with_reducible refine Kd.C_drewN ?_ _) | (with_reducible refine Kd.C_drew ?_))); (case side2 => exact HC0.out); (case side3 => repeat (first | exact (Kd.C_below HR1.out HB.out) | (with_reducible refine Kd.C_alloc ?_ _) | (with_reducible refine Kd.C_drewN ?_ _) | (with_reducible refine Kd.C_drew ?_))); (case side4 => exact HC1.out); rintro e w107 ⟨v7005, v7007, rfl, ho0, ho1, hb⟩; have n0_ := Aside0.mk (Kd.R_lower ho0 (below_size (by repeat (first | (with_reducible first | exact HB.out | apply below_alloc | apply pw_below_drewN | apply below_drew1) | exact HB.out)))); have n1_ := Aside0.mk (Kd.R_lower ho1 (below_size (by repeat (first | (with_reducible first | exact HB.out | apply below_alloc | apply pw_below_drewN | apply below_drew1) | exact HB.out)))); have n2_ := Aside0.mk (below_step (by repeat (first | (with_reducible first | exact HB.out | apply below_alloc | apply pw_below_drewN | apply below_drew1) | exact HB.out)) hb); clear HB; have HO7006 := n0_; have HO7008 := n1_; have HB := n2_; clear n0_ n1_ n2_; (try clear hb); (try clear hb2); (try clear hk); (try clear hi); (try clear ho0); (try clear ho1); obtain ⟨Ao108, co108, eo108⟩ := Kd.R_slice HO7006.out; subst eo108)); try go_wp2_with (first | (go_at_call 18; (with_reducible refine (reel_Cut.calls kj3 _ _ l0 _ _ l1 a2 t7002 t7003 t7004 _ ?side1 ?side2 ?side3 ?side4 A9.out).mono ?_); (case side1 => repeat (first | exact (Kd.C_below HR0.out HB.out) | (with_reducible refine Kd.C_alloc ?_ _) | (with_reducible refine Kd.C_drewN ?_ _) | (with_reducible refine Kd.C_drew ?_))); (case side2 => exact HC0.out); (case side3 => repeat (first | exact (Kd.C_below HR1.out HB.out) | (with_reducible refine Kd.C_alloc ?_ _) | (with_reducible refine Kd.C_drewN ?_ _) | (with_reducible refine Kd.C_drew ?_))); (case side4 => exact HC1.out); rintro e w107 ⟨v7005, v7007, rfl, ho0, ho1, hb⟩; have n0_ := Aside0.mk (Kd.R_lower ho0 (below_size (by repeat (first | (with_reducible first | exact HB.out | apply below_alloc | apply pw_below_drewN | apply below_drew1) | exact HB.out)))); have n1_ := Aside0.mk (Kd.R_lower ho1 (below_size (by repeat (first | (with_reducible first | exact HB.out | apply below_alloc | apply pw_below_drewN | apply below_drew1) | exact HB.out)))); have n2_ := Aside0.mk (below_step (by repeat (first | (with_reducible first | exact HB.out | apply below_alloc | apply pw_below_drewN | apply below_drew1) | exact HB.out)) hb); clear HB; have HO7006 := n0_; have HO7008 := n1_; have HB := n2_; clear n0_ n1_ n2_; (try clear hb); (try clear hb2); (try clear hk); (try clear hi); (try clear ho0); (try clear ho1); obtain ⟨Ao108, co108, eo108⟩ := Kd.R_slice HO7006.out; subst eo108)))
            go_ret
            exact ⟨by first | rfl | (simp [errW_none, errW_some] <;> rfl) | (simp [*, errW_none, errW_some] <;> rfl), by repeat (first | (with_reducible first | exact HB.out | apply below_alloc | apply pw_below_drewN | apply below_drew1) | exact HB.out)⟩

end Go.Proofs.Ytfdfpdiemeomiaa.G
