/- The law IsoParts: whatever it is handed, it returns true, and what it is handed reads as before. No conditions. -/
import Derived.Test.YtcnkmdonbpgjiaaQ7
import Derived.Test.YtcnkmdonbpgjiaaQ5
import Derived.Test.YtcnkmdonbpgjiaaRows
import Derived.WalkKit
import Derived.ProofKit
import Derived.OpenShut
import Derived.ShutString
import Derived.ChangeOld
import Derived.Below
import Derived.SizedLaws
namespace Go.Proofs.Ytcnkmdonbpgjiaa.G
open Go.RowKit Go.Proofs.YtcnkmdonbpgjiaaW.PrintWords Go.Proofs.YtcnkmdonbpgjiaaW.PrintLast Go.Proofs.YtcnkmdonbpgjiaaW.PrintMore
set_option linter.unusedVariables false
set_option linter.unusedSimpArgs false
theorem parts_rev (l : List S32) : (revOf l).1.length ≤ 256 := by
  unfold revOf
  split
  · rename_i h
    have := rev_few h
    have := (check13_zero h).1
    dsimp only
    omega
  · simp
theorem parts_part (l : List S32) (a b : Int) : (partOf13 l a b).1.length ≤ 256 := by
  unfold partOf13
  split
  · rename_i h
    split
    · simp
    · have h1 := (check13_zero h).1
      have h2 := part_len l a b
      rw [part_fold l h a b] at h2
      dsimp only
      omega
  · simp
theorem parts_join (a b : List S32) : (joinOf13 a b).1.length ≤ 256 := by
  unfold joinOf13
  split
  · split
    · split
      · simp
      · split
        · simp
        · dsimp only; omega
    · simp
  · simp
theorem parts_j0 (a b : List S32) (s t : Int) (z : Bool) : Ends (fun k => papermilllaw13_IsoParts.j0 k a b z s t) true := by
  refine Ends.succ ?_
  simp only [papermilllaw13_IsoParts.j0, papermilllaw13_awake.f, iso_Part.f, iso_Join.f, iso_Reverse.f, Option.bind_some]
  cases z with
  | true => exact Ends.pos rfl (Ends.ret _)
  | false =>
    have h1 := parts_part a s t
    have h2 := parts_join a b
    have h3 := parts_rev a
    exact Ends.neg (by simp) (Ends.bind (rpart_ends a s t) (Ends.bind (rjoin_ends a b) (Ends.bind (rrev_ends a) (Ends.bind (rsame13_ends _ (by omega)) (Ends.pos (by simp) (Ends.pos (by simp) (Ends.bind (rsame13_ends _ (by omega)) (Ends.pos (by simp) (Ends.pos (by simp) (Ends.bind (rsame13_ends _ (by omega)) (Ends.pos (by simp) (Ends.pos (by simp) (Ends.ret _)))))))))))))
theorem IsoParts : ∀ (l0 : List (S32)) (l1 : List (S32)) (a2_0 : Int) (a2_1 : Int), (l0.length ≤ maxLen ∧ ∀ x ∈ l0, wf_32 x) → (l1.length ≤ maxLen ∧ ∀ x ∈ l1, wf_32 x) → (Lit.int .i64 a2_0).wf = true → (Lit.int .i64 a2_1).wf = true → ∃ k, papermilllaw13_IsoParts.f k l0 l1 a2_0 a2_1 = some true := by
  intro a b s t
  intros
  suffices h : Ends (fun j => papermilllaw13_IsoParts.f j a b s t) true from h.get
  unfold papermilllaw13_IsoParts.f
  simp only [papermilllaw13_great.f, Option.bind_some]
  by_cases hg : (a.length : Int) > 300
  · exact Ends.pos (by simpa using hg) (parts_j0 a b s t true)
  · exact Ends.neg (by simpa using hg) (parts_j0 a b s t _)
end Go.Proofs.Ytcnkmdonbpgjiaa.G

namespace Go.Proofs.Ytcnkmdonbpgjiaa.isoParts
open Go.ChangeShapes Go.WideShapes Go.ChangeAt Go.RowKit Go.Proofs.YtcnkmdonbpgjiaaW.PrintWords Go.Proofs.YtcnkmdonbpgjiaaW.PrintLast Go.Proofs.Ytcnkmdonbpgjiaa.G
open Go.ChangeMaps (open_string shut_string)
set_option linter.unusedVariables false
set_option linter.unusedSimpArgs false
theorem own : ownKnob Try.prog.godebug = none := by kernel_rfl
theorem laidOut : laidOutB Try.prog = true := by kernel_rfl
set_option maxRecDepth 100000 in
theorem lifted (os : Os) (started : os.Started) (H : Type) (enc : TypeId × Value → H) :
    ReturnsInHanded {} Try.checked os 9 .any (Rows.isoPartsSpec.pre6 enc Try.prog Try.f9 Rows.isoPartsRow.domain false) (Rows.isoPartsSpec.post enc Try.prog Try.f9 false true false false) := by
  refine returnsInHanded_of_change_sized (C := Try.checked) own started (by kernel_rfl) Try.func9
    (ChangeSpec.witness6 (enc := enc) (C := Try.checked) false ⟨#[], #[.slice none 0 0, .slice none 0 0, .agg #[.int .i64 0, .int .i64 0]], []⟩ 8 (by kernel_rfl) (by kernel_rfl) (by kernel_rfl) (by kernel_rfl)) ?_
  intro W base args ds gs before hval0 hW hcnd hsz0 _
  have hval : ∀ (j : Nat) t v, Try.f9.params[j]? = some t → args[j]? = some v → Value.okWide Try.prog W .any base t v := hval0
  have hW' := hW
  obtain ⟨p, q, hA0, hV, rfl, hfz, hnd⟩ := hW
  have hA : DataW.TrodAll enc Try.prog W 0 (fun _ => true) true Try.f9.params.toList args.toList ds p := hA0
  rw [Try.params9] at hA hval
  obtain ⟨v0, vs0, d0, ds0, p0, q0, hargs, rfl, rfl, h0, r0⟩ := trodAll_cons hA
  obtain ⟨v1, vs1, d1, ds1, p1, q1, rfl, rfl, rfl, h1, r1⟩ := trodAll_cons r0
  obtain ⟨v2, vs2, d2, ds2, p2, q2, rfl, rfl, rfl, h2, r2⟩ := trodAll_cons r1
  obtain ⟨rfl, rfl, rfl⟩ := trodAll_nil r2
  obtain rfl : args = #[v0, v1, v2] := by cases args; simp_all
  obtain ⟨rfl, rfl⟩ := trodVars_none hV
  have k0 := h0
  have lt0 : ∀ x ∈ p0, x.block < W.heap.size := by obtain ⟨m, hm⟩ := k0; exact DataW.trod_lt m _ _ _ hm
  obtain ⟨a0, len0, cap0, rfl⟩ := okWide_slice Try.underlying22 (hval 0 22 v0 rfl rfl)
  obtain ⟨l0, ⟨A0, c0, hcs0, hlc0, hC0⟩, hw0⟩ : ∃ l, ((Kd.slice 32 k32)).K W l [.slice a0 len0 cap0] ∧ (l.length ≤ maxLen ∧ ∀ x ∈ l, wf_32 x) := by
    obtain ⟨fuel, hf⟩ := k0
    exact (Opens.slice Try.underlying22 (by kernel_rfl) opens_32) enc W fuel _ _ hf
  simp only [List.cons.injEq, and_true, Value.slice.injEq] at hcs0
  obtain ⟨rfl, rfl, rfl⟩ := hcs0
  have k1 := h1
  have lt1 : ∀ x ∈ p1, x.block < W.heap.size := by obtain ⟨m, hm⟩ := k1; exact DataW.trod_lt m _ _ _ hm
  obtain ⟨a1, len1, cap1, rfl⟩ := okWide_slice Try.underlying22 (hval 1 22 v1 rfl rfl)
  obtain ⟨l1, ⟨A1, c1, hcs1, hlc1, hC1⟩, hw1⟩ : ∃ l, ((Kd.slice 32 k32)).K W l [.slice a1 len1 cap1] ∧ (l.length ≤ maxLen ∧ ∀ x ∈ l, wf_32 x) := by
    obtain ⟨fuel, hf⟩ := k1
    exact (Opens.slice Try.underlying22 (by kernel_rfl) opens_32) enc W fuel _ _ hf
  simp only [List.cons.injEq, and_true, Value.slice.injEq] at hcs1
  obtain ⟨rfl, rfl, rfl⟩ := hcs1
  have k2 := h2
  have lt2 : ∀ x ∈ p2, x.block < W.heap.size := by obtain ⟨m, hm⟩ := k2; exact DataW.trod_lt m _ _ _ hm
  obtain ⟨cs2, rfl, _⟩ := okWide_struct Try.underlying37 (hval 2 37 v2 rfl rfl)
  obtain ⟨x2, hK2, hw2⟩ : ∃ x : S37, k37.K W x (Value.agg cs2).cells.toList ∧ wf_37 x := by
    obtain ⟨fuel, hf⟩ := k2
    exact opens_37 enc W fuel _ _ hf
  obtain ⟨a2_0, a2_1⟩ := x2
  have hcs2 := k37_open hK2
  obtain rfl : cs2 = #[.int .i64 a2_0, .int .i64 a2_1] := by obtain ⟨cs⟩ := cs2; simpa [Value.cells] using hcs2
  clear hA0 hval0 hsz0
  obtain ⟨k, hk⟩ := IsoParts l0 l1 a2_0 a2_1 hw0 hw1 hw2.1 hw2.2
  refine (papermilllaw13_IsoParts.calls k _ _ l0 _ _ l1 a2_0 a2_1 true W hC0 hlc0 hC1 hlc1 hk).mono fun e W' he => ?_
  obtain ⟨he, bel⟩ := he
  subst he
  exact ⟨_, rfl, _, _, _, [], _, [], hW', trodAll_mk1 (shut_bool Try.underlying4 _), (trodAll_cons_mk (Below.trod laidOut (by kernel_rfl) (of_decide_eq_true (by kernel_rfl)) k0 bel lt0) (trodAll_cons_mk (Below.trod laidOut (by kernel_rfl) (of_decide_eq_true (by kernel_rfl)) k1 bel lt1) (trodAll_cons_mk (Below.trod laidOut (by kernel_rfl) (of_decide_eq_true (by kernel_rfl)) k2 bel lt2) trodAll_mk0))), rfl, bel.frame _, fun h => by cases h⟩
theorem over : Rows.isoPartsRow.holds Try.pinned (OpenSpec.ofChange Rows.isoPartsSpec) :=
  OpenClaim.holds_of_wide 9 Try.f9 rfl rfl rfl rfl rfl rfl rfl ⟨rfl, rfl, rfl, rfl, rfl⟩ rfl rfl rfl rfl rfl (by kernel_rfl) Try.func9 (by kernel_rfl)
    (of_decide_eq_true (by kernel_rfl)) (by unfold Func.isWrapper; first | (rw [if_pos (by decide +kernel)]; kernel_rfl) | (rw [if_neg (by decide +kernel)]; exact ⟨rfl, rfl⟩))
    (fun os started H enc _ => lifted os started H enc)
theorem proved : Rows.IsoPartsSaid := over
#print axioms proved
end Go.Proofs.Ytcnkmdonbpgjiaa.isoParts
namespace Go.Proofs.Ytcnkmdonbpgjiaa
theorem isoParts_holds : Rows.IsoPartsSaid := isoParts.proved
end Go.Proofs.Ytcnkmdonbpgjiaa
