import Derived.Test.YtnfcpcgbdoiiiaaM3
import Derived.Test.YtnfcpcgbdoiiiaaM4
namespace Go.Proofs.Ytnfcpcgbdoiiiaa.G
open Go.RowKit Go.Proofs.YtnfcpcgbdoiiiaaW.PrintWords Go.Proofs.YtnfcpcgbdoiiiaaW.PrintLast Go.Proofs.YtnfcpcgbdoiiiaaW.PrintMore
set_option linter.unusedVariables false
set_option linter.unusedSimpArgs false
theorem rhas_l0 (l : List S50) (x : Int) (hl : l.length < 1000000) : ∀ (d i : Nat), l.length - i = d → i ≤ l.length → Ends (fun k => papermillref04_Has.l0 k l x (i : Int)) (hasOf (l.drop i) x) := by
  intro d
  induction d with
  | zero =>
    intro i hd hi
    rw [List.drop_of_length_le (by omega)]
    refine Ends.succ ?_
    simp only [papermillref04_Has.l0]
    exact Ends.neg (by omega) (Ends.ret _)
  | succ d ih =>
    intro i hd hi
    have := ih (i + 1) (by omega) (by omega)
    rw [drop36 l i (by omega)]
    refine Ends.succ ?_
    simp only [papermillref04_Has.l0, wrap_nat i (by omega)]
    refine Ends.pos (by omega) (Ends.pos (by omega) ?_)
    by_cases h1 : (rd_T50 l i).f0 ≤ x
    · refine Ends.pos h1 ?_
      by_cases h2 : x < (rd_T50 l i).f1
      · refine Ends.pos h2 ?_
        simpa [hasOf, h1, h2] using Ends.ret true
      · refine Ends.neg h2 ?_
        simpa [hasOf, h1, h2] using this
    · refine Ends.neg h1 ?_
      simpa [hasOf, h1] using this
theorem rhas_ends (l : List S50) (x : Int) (hl : l.length < 1000000) : Ends (fun k => papermillref04_Has.f k l x) (hasOf l x) := by
  simpa [papermillref04_Has.f] using rhas_l0 l x hl l.length 0 rfl (Nat.zero_le _)
theorem both_zero {a b : List S50} {w : Int} (h : (bothOf a b w).2 = 0) : check04 a = 0 ∧ check04 b = 0 ∧ (bothOf a b w).1 = combOf a b w := by
  unfold bothOf at h ⊢
  by_cases h1 : check04 a = 0
  · rw [if_pos h1] at h ⊢
    by_cases h2 : check04 b = 0
    · rw [if_pos h2] at h ⊢
      by_cases h3 : (combOf a b w).length > 256
      · rw [if_pos h3] at h; exact absurd h (by decide)
      · rw [if_neg h3]; exact ⟨h1, h2, rfl⟩
    · rw [if_neg h2] at h; exact absurd h h2
  · rw [if_neg h1] at h; exact absurd h h1
theorem both_fits {a b : List S50} {w : Int} (h : (bothOf a b w).2 = 0) : (bothOf a b w).1.length ≤ 256 := by
  unfold bothOf at h ⊢
  by_cases h1 : check04 a = 0
  · rw [if_pos h1] at h ⊢
    by_cases h2 : check04 b = 0
    · rw [if_pos h2] at h ⊢
      by_cases h3 : (combOf a b w).length > 256
      · rw [if_pos h3] at h; exact absurd h (by decide)
      · rw [if_neg h3]; show (combOf a b w).length ≤ 256; omega
    · rw [if_neg h2] at h; exact absurd h h2
  · rw [if_neg h1] at h; exact absurd h h1
/-- who is in what two lists come to -/
theorem both_has {a b : List S50} {w : Int} (hw : w = 0 ∨ w = 1 ∨ w = 2) (h : (bothOf a b w).2 = 0) (x : Int) : hasOf (bothOf a b w).1 x = wayOf w (hasOf a x) (hasOf b x) := by
  obtain ⟨h1, h2, e⟩ := both_zero h
  obtain ⟨_, v1⟩ := good04 h1
  obtain ⟨_, v2⟩ := good04 h2
  rw [e]
  have := (comb_ok a b w hw (-1) (fun s hs => hs.elim (fun h => ⟨by have := v1 s h; omega, (v1 s h).2.1⟩) (fun h => ⟨by have := v2 s h; omega, (v2 s h).2.1⟩))).2 x
  rw [← hasOf_iff] at this
  unfold keeps at this
  unfold wayOf
  cases hs : skips w (hasOf a x) (hasOf b x) <;> cases hh : hasOf (combOf a b w) x <;> simp_all
end Go.Proofs.Ytnfcpcgbdoiiiaa.G
