import Derived.Test.YtjkakgkiikjdmaaQ4
import Derived.Test.YtjkakgkiikjdmaaK5
namespace Go.Proofs.Ytjkakgkiikjdmaa.G
open Go.RowKit Go.Proofs.YtjkakgkiikjdmaaW.PrintWords Go.Proofs.YtjkakgkiikjdmaaW.PrintLast Go.Proofs.YtjkakgkiikjdmaaW.PrintMore
set_option linter.unusedVariables false
set_option linter.unusedSimpArgs false
theorem total_l0 (l : List S49) (hl : l.length ≤ 1000) (hv : ∀ s ∈ l, 0 ≤ s.f0 ∧ s.f0 ≤ s.f1 ∧ s.f1 ≤ 17179869184) : ∀ (d i : Nat) (n : Int), l.length - i = d → i ≤ l.length → 0 ≤ n → n ≤ i * 17179869184 → Ends (fun k => span_Total.l0 k n l (l.length : Int) (i : Int)) (n + tot (l.drop i), 0) := by
 intro d
 induction d with
 | zero =>
  intro i n hd hi h0 h1
  refine Ends.succ ?_
  simp only [span_Total.l0]
  rw [List.drop_of_length_le (by omega)]
  exact Ends.neg (by omega) ((Ends.ret _).congr (by simp [tot]))
 | succ d ih =>
  intro i n hd hi h0 h1
  refine Ends.succ ?_
  have hx := hv (rd_T49 l (i : Int)) (by rw [rd36 l i (by omega)]; exact List.getElem_mem _)
  rw [drop36 l i (by omega), tot_cons]
  simp only [span_Total.l0, wrap_nat i (by omega)]
  generalize rd_T49 l (i : Int) = s at *
  have e1 : wrap64 (s.f1 - s.f0) = s.f1 - s.f0 := by unfold wrap64; omega
  have e2 : wrap64 (n + (s.f1 - s.f0)) = n + (s.f1 - s.f0) := by unfold wrap64; omega
  simp only [e1, e2]
  exact Ends.pos (by omega) (Ends.pos (by omega) (Ends.pos (by omega) ((ih (i + 1) (n + (s.f1 - s.f0)) (by omega) (by omega) (by omega) (by omega)).congr (by rw [Int.add_assoc]))))
theorem total_ends (l : List S49) : Ends (fun k => span_Total.f k l) (totalOf l) := by
 unfold span_Total.f totalOf
 refine Ends.bind (scheck_ends l) ?_
 by_cases h0 : check04 l = 0
 ·rw [if_pos h0]
  obtain ⟨g0, v0⟩ := good04 h0
  have n0 := joinOf_len l (-1) (fun s hs => by have := v0 s hs; omega)
  have b0 := joinOf_bound l (-1) 17179869184 (fun s hs => by have := v0 s hs; omega)
  have e0 : span_joined.f l = some (joinOf l) := by unfold span_joined.f; rw [if_pos (okSpans_good h0)]
  simp only [e0, Option.bind_some]
  exact Ends.pos h0 ((total_l0 (joinOf l) (by omega) (fun s hs => by have := b0 s hs; omega) _ 0 0 rfl (by omega) (by omega) (by omega)).congr (by simp))
 ·rw [if_neg h0]
  exact Ends.neg h0 (Ends.ret _)
end Go.Proofs.Ytjkakgkiikjdmaa.G

namespace Go.Proofs.Ytjkakgkiikjdmaa.G
open Go.RowKit Go.Proofs.YtjkakgkiikjdmaaW.PrintWords Go.Proofs.YtjkakgkiikjdmaaW.PrintLast Go.Proofs.YtjkakgkiikjdmaaW.PrintMore
set_option linter.unusedVariables false
set_option linter.unusedSimpArgs false
theorem common_ends (a b : List S49) : Ends (fun k => span_Common.f k a b) (bothOf a b 1) := by
 unfold span_Common.f span_sets_Common.f
 exact Ends.bind (sets_ends span_Common_1.f (fun p q => p && q) (fun p q => by cases p <;> rfl) a b true 1 (.inr (.inl rfl)) (fun x => by rw [wayOf_1])) (Ends.ret _)
end Go.Proofs.Ytjkakgkiikjdmaa.G
