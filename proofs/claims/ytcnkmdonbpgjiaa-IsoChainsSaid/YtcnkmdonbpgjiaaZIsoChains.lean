/- The law IsoChains: whatever it is handed, it returns true, and what it is handed reads as before. No conditions. -/
import Derived.Test.YtcnkmdonbpgjiaaC6
import Derived.Test.YtcnkmdonbpgjiaaQ5
import Derived.Test.YtcnkmdonbpgjiaaRows
import Derived.WalkKit
import Derived.ProofKit
import Derived.OpenShut
import Derived.ShutString
import Derived.ChangeOld
import Derived.Below
import Derived.SizedLaws
namespace Go.Proofs.Ytcnkmdonbpgjiaa.G
open Go.RowKit Go.Proofs.YtcnkmdonbpgjiaaW.PrintWords Go.Proofs.YtcnkmdonbpgjiaaW.PrintLast Go.Proofs.YtcnkmdonbpgjiaaW.PrintMore
set_option linter.unusedVariables false
set_option linter.unusedSimpArgs false
theorem chains_j2 (u : List S32) (e : Int) (hu : u.length ≤ 1000000) (he : e = 0 ∨ e = 8) : Ends (fun k => papermilllaw13_IsoChains.j2 k u e u e (e == 8)) true := by
  refine Ends.succ ?_
  simp only [papermilllaw13_IsoChains.j2, papermilllaw13_awake.f, Option.bind_some]
  rcases he with rfl | rfl
  · exact Ends.neg (by decide) (Ends.pos (by simp) (Ends.pos (by simp) (Ends.bind (rsame13_ends u hu) (Ends.pos (by simp) (Ends.ret _)))))
  · exact Ends.pos (by decide) (Ends.ret _)
theorem comp_len (a b : List S32) : (compOf13 a b).1.length ≤ 256 := by
  unfold compOf13
  split
  · split
    · split
      · simp
      · split
        · simp
        · dsimp only; omega
    · simp
  · simp
theorem chains_j0 (a b c : List S32) (z : Bool) : Ends (fun k => papermilllaw13_IsoChains.j0 k a b c z) true := by
  refine Ends.succ ?_
  simp only [papermilllaw13_IsoChains.j0, papermilllaw13_awake.f, iso_Compose.f, Option.bind_some]
  cases z with
  | true => exact Ends.pos (by simp) (Ends.ret _)
  | false =>
    refine Ends.neg (by simp) ?_
    have skip : Ends (fun k => papermilllaw13_IsoChains.j1 k a c (compOf13 a b).1 (compOf13 b c).1 true) true := by
      refine Ends.succ ?_
      simp only [papermilllaw13_IsoChains.j1, papermilllaw13_awake.f, Option.bind_some]
      exact Ends.pos (by simp) (Ends.ret _)
    by_cases hx : (compOf13 a b).2 = 0
    · refine Ends.pos hx ?_
      by_cases hy : (compOf13 b c).2 = 0
      · obtain ⟨h1, h2⟩ := cmp_assoc hx hy
        have hb : ((compOf13 b c).2 != 0) = false := by simpa using hy
        rw [hb]
        refine Ends.succ ?_
        simp only [papermilllaw13_IsoChains.j1, iso_Compose.f, papermilllaw13_awake.f, Option.bind_some, h1]
        refine Ends.neg (by simp) ?_
        have hl := comp_len a (compOf13 b c).1
        have hj := chains_j2 (compOf13 a (compOf13 b c).1).1 (compOf13 a (compOf13 b c).1).2 (by omega) h2
        by_cases h8 : (compOf13 a (compOf13 b c).1).2 = 8
        · refine Ends.pos h8 ?_
          have e8 : ((compOf13 a (compOf13 b c).1).2 == 8) = true := by simpa using h8
          rw [e8] at hj
          exact hj
        · exact Ends.neg h8 hj
      · have hb : ((compOf13 b c).2 != 0) = true := by simpa using hy
        rw [hb]
        exact skip
    · exact Ends.neg hx skip
theorem IsoChains : ∀ (l0 : List (S32)) (l1 : List (S32)) (l2 : List (S32)), (l0.length ≤ maxLen ∧ ∀ x ∈ l0, wf_32 x) → (l1.length ≤ maxLen ∧ ∀ x ∈ l1, wf_32 x) → (l2.length ≤ maxLen ∧ ∀ x ∈ l2, wf_32 x) → ∃ k, papermilllaw13_IsoChains.f k l0 l1 l2 = some true := by
  intro a b c _ _ _
  suffices h : Ends (fun j => papermilllaw13_IsoChains.f j a b c) true from h.get
  unfold papermilllaw13_IsoChains.f
  by_cases h1 : (a.length : Int) > 20
  · exact Ends.pos h1 (chains_j0 a b c true)
  · refine Ends.neg h1 ?_
    by_cases h2 : (b.length : Int) > 20
    · exact Ends.pos h2 (chains_j0 a b c true)
    · exact Ends.neg h2 (chains_j0 a b c _)
end Go.Proofs.Ytcnkmdonbpgjiaa.G

namespace Go.Proofs.Ytcnkmdonbpgjiaa.isoChains
open Go.ChangeShapes Go.WideShapes Go.ChangeAt Go.RowKit Go.Proofs.YtcnkmdonbpgjiaaW.PrintWords Go.Proofs.YtcnkmdonbpgjiaaW.PrintLast Go.Proofs.Ytcnkmdonbpgjiaa.G
open Go.ChangeMaps (open_string shut_string)
set_option linter.unusedVariables false
set_option linter.unusedSimpArgs false
theorem own : ownKnob Try.prog.godebug = none := by kernel_rfl
theorem laidOut : laidOutB Try.prog = true := by kernel_rfl
set_option maxRecDepth 100000 in
theorem lifted (os : Os) (started : os.Started) (H : Type) (enc : TypeId × Value → H) :
    ReturnsInHanded {} Try.checked os 6 .any (Rows.isoChainsSpec.pre6 enc Try.prog Try.f6 Rows.isoChainsRow.domain false) (Rows.isoChainsSpec.post enc Try.prog Try.f6 false true false false) := by
  refine returnsInHanded_of_change_sized (C := Try.checked) own started (by kernel_rfl) Try.func6
    (ChangeSpec.witness6 (enc := enc) (C := Try.checked) false ⟨#[], #[.slice none 0 0, .slice none 0 0, .slice none 0 0], []⟩ 8 (by kernel_rfl) (by kernel_rfl) (by kernel_rfl) (by kernel_rfl)) ?_
  intro W base args ds gs before hval0 hW hcnd hsz0 _
  have hval : ∀ (j : Nat) t v, Try.f6.params[j]? = some t → args[j]? = some v → Value.okWide Try.prog W .any base t v := hval0
  have hW' := hW
  obtain ⟨p, q, hA0, hV, rfl, hfz, hnd⟩ := hW
  have hA : DataW.TrodAll enc Try.prog W 0 (fun _ => true) true Try.f6.params.toList args.toList ds p := hA0
  rw [Try.params6] at hA hval
  obtain ⟨v0, vs0, d0, ds0, p0, q0, hargs, rfl, rfl, h0, r0⟩ := trodAll_cons hA
  obtain ⟨v1, vs1, d1, ds1, p1, q1, rfl, rfl, rfl, h1, r1⟩ := trodAll_cons r0
  obtain ⟨v2, vs2, d2, ds2, p2, q2, rfl, rfl, rfl, h2, r2⟩ := trodAll_cons r1
  obtain ⟨rfl, rfl, rfl⟩ := trodAll_nil r2
  obtain rfl : args = #[v0, v1, v2] := by cases args; simp_all
  obtain ⟨rfl, rfl⟩ := trodVars_none hV
  have k0 := h0
  have lt0 : ∀ x ∈ p0, x.block < W.heap.size := by obtain ⟨m, hm⟩ := k0; exact DataW.trod_lt m _ _ _ hm
  obtain ⟨a0, len0, cap0, rfl⟩ := okWide_slice Try.underlying22 (hval 0 22 v0 rfl rfl)
  obtain ⟨l0, ⟨A0, c0, hcs0, hlc0, hC0⟩, hw0⟩ : ∃ l, ((Kd.slice 32 k32)).K W l [.slice a0 len0 cap0] ∧ (l.length ≤ maxLen ∧ ∀ x ∈ l, wf_32 x) := by
    obtain ⟨fuel, hf⟩ := k0
    exact (Opens.slice Try.underlying22 (by kernel_rfl) opens_32) enc W fuel _ _ hf
  simp only [List.cons.injEq, and_true, Value.slice.injEq] at hcs0
  obtain ⟨rfl, rfl, rfl⟩ := hcs0
  have k1 := h1
  have lt1 : ∀ x ∈ p1, x.block < W.heap.size := by obtain ⟨m, hm⟩ := k1; exact DataW.trod_lt m _ _ _ hm
  obtain ⟨a1, len1, cap1, rfl⟩ := okWide_slice Try.underlying22 (hval 1 22 v1 rfl rfl)
  obtain ⟨l1, ⟨A1, c1, hcs1, hlc1, hC1⟩, hw1⟩ : ∃ l, ((Kd.slice 32 k32)).K W l [.slice a1 len1 cap1] ∧ (l.length ≤ maxLen ∧ ∀ x ∈ l, wf_32 x) := by
    obtain ⟨fuel, hf⟩ := k1
    exact (Opens.slice Try.underlying22 (by kernel_rfl) opens_32) enc W fuel _ _ hf
  simp only [List.cons.injEq, and_true, Value.slice.injEq] at hcs1
  obtain ⟨rfl, rfl, rfl⟩ := hcs1
  have k2 := h2
  have lt2 : ∀ x ∈ p2, x.block < W.heap.size := by obtain ⟨m, hm⟩ := k2; exact DataW.trod_lt m _ _ _ hm
  obtain ⟨a2, len2, cap2, rfl⟩ := okWide_slice Try.underlying22 (hval 2 22 v2 rfl rfl)
  obtain ⟨l2, ⟨A2, c2, hcs2, hlc2, hC2⟩, hw2⟩ : ∃ l, ((Kd.slice 32 k32)).K W l [.slice a2 len2 cap2] ∧ (l.length ≤ maxLen ∧ ∀ x ∈ l, wf_32 x) := by
    obtain ⟨fuel, hf⟩ := k2
    exact (Opens.slice Try.underlying22 (by kernel_rfl) opens_32) enc W fuel _ _ hf
  simp only [List.cons.injEq, and_true, Value.slice.injEq] at hcs2
  obtain ⟨rfl, rfl, rfl⟩ := hcs2
  clear hA0 hval0 hsz0
  obtain ⟨k, hk⟩ := IsoChains l0 l1 l2 hw0 hw1 hw2
  refine (papermilllaw13_IsoChains.calls k _ _ l0 _ _ l1 _ _ l2 true W hC0 hlc0 hC1 hlc1 hC2 hlc2 hk).mono fun e W' he => ?_
  obtain ⟨he, bel⟩ := he
  subst he
  exact ⟨_, rfl, _, _, _, [], _, [], hW', trodAll_mk1 (shut_bool Try.underlying4 _), (trodAll_cons_mk (Below.trod laidOut (by kernel_rfl) (of_decide_eq_true (by kernel_rfl)) k0 bel lt0) (trodAll_cons_mk (Below.trod laidOut (by kernel_rfl) (of_decide_eq_true (by kernel_rfl)) k1 bel lt1) (trodAll_cons_mk (Below.trod laidOut (by kernel_rfl) (of_decide_eq_true (by kernel_rfl)) k2 bel lt2) trodAll_mk0))), rfl, bel.frame _, fun h => by cases h⟩
theorem over : Rows.isoChainsRow.holds Try.pinned (OpenSpec.ofChange Rows.isoChainsSpec) :=
  OpenClaim.holds_of_wide 6 Try.f6 rfl rfl rfl rfl rfl rfl rfl ⟨rfl, rfl, rfl, rfl, rfl⟩ rfl rfl rfl rfl rfl (by kernel_rfl) Try.func6 (by kernel_rfl)
    (of_decide_eq_true (by kernel_rfl)) (by unfold Func.isWrapper; first | (rw [if_pos (by decide +kernel)]; kernel_rfl) | (rw [if_neg (by decide +kernel)]; exact ⟨rfl, rfl⟩))
    (fun os started H enc _ => lifted os started H enc)
theorem proved : Rows.IsoChainsSaid := over
#print axioms proved
end Go.Proofs.Ytcnkmdonbpgjiaa.isoChains
namespace Go.Proofs.Ytcnkmdonbpgjiaa
theorem isoChains_holds : Rows.IsoChainsSaid := isoChains.proved
end Go.Proofs.Ytcnkmdonbpgjiaa
