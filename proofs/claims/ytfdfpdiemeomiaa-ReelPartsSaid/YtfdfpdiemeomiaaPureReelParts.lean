import Derived.Test.YtfdfpdiemeomiaaGxpapermilllaw34ReelParts
import Derived.Test.YtfdfpdiemeomiaaGhOpen
import Derived.Test.YtfdfpdiemeomiaaPureBase
namespace Go.Proofs.Ytfdfpdiemeomiaa.G
open Go.RowKit Go.Proofs.YtfdfpdiemeomiaaW.PrintWords Go.Proofs.YtfdfpdiemeomiaaW.PrintLast Go.Proofs.YtfdfpdiemeomiaaW.PrintMore
set_option linter.unusedVariables false
set_option linter.unusedSimpArgs false
theorem endOf_le {l : List S44} (h : checkOf l = 0) : endOf l ≤ 17179869184 := by
  unfold endOf
  split
  · omega
  · rename_i h0
    have hf : firstErr l = 0 := by
      unfold checkOf at h
      split at h
      · cases h
      · split at h
        · assumption
        · contradiction
    have hm : rd_T44 l ((l.length - 1 : Nat) : Int) ∈ l := by rw [rd44 l _ (by omega)]; exact List.getElem_mem _
    have := first_all hf _ hm
    unfold secErr at this
    split at this
    · cases this
    · omega
/-- what Parts answers -/
def partsAns (l : List S44) (a b : Int) : List S44 × Int := if checkOf l = 0 then (if a < 0 ∨ a > b ∨ b > endOf l then ([], 1) else (partsOf a b l, 0)) else ([], checkOf l)
theorem parts_ends (l : List S44) (a b : Int) : Ends (fun k => reel_Parts.f k l a b) (partsAns l a b) := by
  unfold reel_Parts.f partsAns
  refine Ends.bind (check_ends l) ?_
  by_cases h1 : checkOf l = 0
  · simp only [if_pos h1]
    by_cases h2 : a < 0 ∨ a > b ∨ b > endOf l
    · simp only [if_pos h2]; exact Ends.ret _
    · simp only [if_neg h2]; exact Ends.ret _
  · simp only [if_neg h1]; exact Ends.ret _
theorem refparts_ends (l : List S44) (a b : Int) : Ends (fun k => papermillref34_Parts.f k l a b) (partsAns l a b) := by
  unfold papermillref34_Parts.f partsAns
  refine Ends.bind (ref_ends l) ?_
  by_cases h1 : checkOf l = 0
  · have he := endOf_le h1
    simp only [if_pos h1]
    by_cases h2 : a < 0 ∨ a > b ∨ b > endOf l
    · have h3 : a < 0 ∨ a > b ∨ b > 17179869184 ∨ b > endOf l := by omega
      simp only [if_pos h2, if_pos h3]; exact Ends.ret _
    · have h3 : ¬ (a < 0 ∨ a > b ∨ b > 17179869184 ∨ b > endOf l) := by omega
      simp only [if_neg h2, if_neg h3]; exact Ends.ret _
  · simp only [if_neg h1]; exact Ends.ret _
theorem partsAns_len (l : List S44) (a b : Int) : (partsAns l a b).1.length ≤ 512 := by
  unfold partsAns
  split
  · rename_i h
    have := partsOf_len a b l
    have hl : l.length ≤ 512 := by
      unfold checkOf at h
      split at h
      · cases h
      · omega
    split
    · simp
    · show (partsOf a b l).length ≤ 512; omega
  · simp
/-- what Grade answers -/
def gradeAns (l : List S44) (a b : Int) : Int × Bool × Int := if (partsAns l a b).2 = 0 then (if (partsAns l a b).1.length = 0 then (-1, false, 0) else ((gradeOf (partsAns l a b).1).1, (gradeOf (partsAns l a b).1).2, 0)) else (0, false, (partsAns l a b).2)
theorem grade_ends (l : List S44) (a b : Int) : Ends (fun k => reel_Grade.f k l a b) (gradeAns l a b) := by
  unfold reel_Grade.f gradeAns
  refine Ends.bind (parts_ends l a b) ?_
  by_cases h1 : (partsAns l a b).2 = 0
  · simp only [if_pos h1]
    by_cases h2 : (partsAns l a b).1.length = 0
    · simp only [if_pos h2]; exact Ends.ret _
    · simp only [if_neg h2]; exact Ends.ret _
  · simp only [if_neg h1]; exact Ends.ret _
theorem grade_l0 (p : List S44) (hp : p.length ≤ 512) : ∀ (d i : Nat) (g : Int) (b : Bool), p.length - i = d → i ≤ p.length → Ends (fun k => papermillref34_Grade.l0 k p g b (i : Int)) (((p.drop i).foldl (gradeStep (rd_T44 p 0).f3) (g, b)).1, ((p.drop i).foldl (gradeStep (rd_T44 p 0).f3) (g, b)).2, 0) := by
  intro d
  induction d with
  | zero =>
    intro i g b hd hi
    rw [List.drop_of_length_le (by omega)]
    refine Ends.succ ?_
    simp only [papermillref34_Grade.l0]
    exact Ends.neg (by omega) (Ends.ret _)
  | succ d ih =>
    intro i g b hd hi
    rw [drop44 p i (by omega), List.foldl_cons]
    refine Ends.succ ?_
    simp only [papermillref34_Grade.l0, wrap_nat i (by omega)]
    refine Ends.pos (by omega) (Ends.pos (by omega) (Ends.pos (by omega) ?_))
    have := ih (i + 1) (gradeStep (rd_T44 p 0).f3 (g, b) (rd_T44 p i)).1 (gradeStep (rd_T44 p 0).f3 (g, b) (rd_T44 p i)).2 (by omega) (by omega)
    by_cases h1 : (rd_T44 p i).f3 = (rd_T44 p 0).f3
    · refine Ends.pos h1 ?_
      by_cases h2 : b = true
      · refine Ends.pos h2 ?_
        subst h2
        simpa [gradeStep, h1] using this
      · have h3 : b = false := by simpa using h2
        refine Ends.neg h2 ?_
        subst h3
        simpa [gradeStep, h1] using this
    · refine Ends.neg h1 ?_
      by_cases h2 : b = true
      · refine Ends.pos h2 ?_
        subst h2
        simpa [gradeStep, h1] using this
      · have h3 : b = false := by simpa using h2
        refine Ends.neg h2 ?_
        subst h3
        simpa [gradeStep, h1] using this
theorem refgrade_ends (l : List S44) (a b : Int) : Ends (fun k => papermillref34_Grade.f k l a b) (gradeAns l a b) := by
  unfold papermillref34_Grade.f gradeAns
  refine Ends.bind (refparts_ends l a b) ?_
  by_cases h1 : (partsAns l a b).2 = 0
  · rw [if_pos h1]; refine Ends.pos h1 ?_
    by_cases h2 : (partsAns l a b).1.length = 0
    · simp only [if_pos h2]; exact Ends.pos (by omega) (Ends.ret _)
    · simp only [if_neg h2]
      refine Ends.neg (by omega) (Ends.pos (by omega) ?_)
      have := grade_l0 (partsAns l a b).1 (partsAns_len l a b) (partsAns l a b).1.length 0 (rd_T44 (partsAns l a b).1 0).f3 true rfl (Nat.zero_le _)
      simpa [gradeOf] using this
  · simp only [if_neg h1]; exact Ends.ret _
theorem same44_l0 (l : List S44) (hl : l.length < 4000000000000000000) : ∀ (d i : Nat), l.length - i = d → i ≤ l.length → Ends (fun k => papermillref34_Same.l0 k l l (i : Int)) true := by
  intro d
  induction d with
  | zero =>
    intro i hd hi
    refine Ends.succ ?_
    simp only [papermillref34_Same.l0]
    exact Ends.neg (by omega) (Ends.ret _)
  | succ d ih =>
    intro i hd hi
    refine Ends.succ ?_
    simp only [papermillref34_Same.l0, wrap_nat i (by omega)]
    exact Ends.pos (by omega) (Ends.pos (by omega) (Ends.pos (by omega) (Ends.neg (by simp) (ih (i + 1) (by omega) (by omega)))))
theorem same44 (l : List S44) (hl : l.length < 4000000000000000000) : Ends (fun k => papermillref34_Same.f k l l) true := by
  unfold papermillref34_Same.f
  exact Ends.pos (by trivial) (same44_l0 l hl l.length 0 rfl (Nat.zero_le _))
theorem ReelParts : ∀ (l0 : List (S44)) (a1_0 : Int) (a1_1 : Int), (l0.length ≤ maxLen ∧ ∀ x ∈ l0, wf_44 x) → (Lit.int .i64 a1_0).wf = true → (Lit.int .i64 a1_1).wf = true → ∃ k, papermilllaw34_ReelParts.f k l0 a1_0 a1_1 = some true := by
  intro l0 a1_0 a1_1 _ _ _
  have hl := partsAns_len l0 a1_0 a1_1
  refine Ends.get ?_
  unfold papermilllaw34_ReelParts.f papermilllaw34_great.f
  simp only [Option.bind_some, decide_eq_true_eq]
  by_cases h : (l0.length : Int) > 600
  · exact Ends.pos h (Ends.ret _)
  · refine Ends.neg h (Ends.bind (parts_ends _ _ _) (Ends.bind (refparts_ends _ _ _) (Ends.bind (grade_ends _ _ _) (Ends.bind (refgrade_ends _ _ _) (Ends.bind (same44 _ (by omega)) (Ends.pos (by trivial) (Ends.pos (by trivial) (Ends.pos (by trivial) (Ends.pos (by simp) (Ends.pos (by trivial) ?_))))))))))
    exact Ends.ret _
end Go.Proofs.Ytfdfpdiemeomiaa.G
