/- The law RewindCulls: whatever it is handed, it returns true, and what it is handed reads as before. No conditions. -/
import Derived.Test.YtalpegglbfobiaaC7
import Derived.Test.YtalpegglbfobiaaQ4
import Derived.Test.YtalpegglbfobiaaQ5
import Derived.Test.YtalpegglbfobiaaC8
import Derived.Test.YtalpegglbfobiaaRows
import Derived.WalkKit
import Derived.ProofKit
import Derived.OpenShut
import Derived.ShutString
import Derived.ChangeOld
import Derived.Below
import Derived.SizedLaws
namespace Go.Proofs.Ytalpegglbfobiaa.G
open Go.RowKit Go.Proofs.YtalpegglbfobiaaW.PrintWords Go.Proofs.YtalpegglbfobiaaW.PrintLast Go.Proofs.YtalpegglbfobiaaW.PrintMore
set_option linter.unusedVariables false
set_option linter.unusedSimpArgs false
theorem rcull_ends (n : Int) (bad : List S55) (least : Int) : Ends (fun k => papermillref41_Cull.f k n bad least) (cullOf n bad least) := by
 unfold papermillref41_Cull.f cullOf
 refine Ends.bind (rkeep_ends n bad least) ?_
 by_cases h : (keepOf n bad least).2 = 0
 ·rw [if_pos h]
  refine Ends.pos h ?_
  by_cases h0 : (keepOf n bad least).1 = []
  ·rw [if_pos h0]
   exact Ends.pos (by rw [h0]; rfl) (Ends.ret _)
  ·rw [if_neg h0]
   refine Ends.neg (fun e => h0 (List.length_eq_zero_iff.1 (by omega))) (Ends.bind ((rruns_ends _).congr (runs_kept n bad least h)) ?_)
   exact Ends.pos rfl (Ends.bind (rrev_ends _) (Ends.ret _))
 ·rw [if_neg h]
  exact Ends.neg h (Ends.ret _)
theorem revOf_len (l : List S44) : (revOf l).1.length ≤ 256 := by
 unfold revOf
 by_cases h : check13 l = 0
 ·rw [if_pos h]
  have := rev_few h
  have := (check13_zero h).1
  dsimp only
  omega
 ·rw [if_neg h]; simp
theorem cullOf_len (n : Int) (bad : List S55) (least : Int) : (cullOf n bad least).1.length ≤ 256 := by
 unfold cullOf
 split
 ·split
  ·simp
  ·exact revOf_len _
 ·simp
theorem RewindCulls : ∀ (a0 : Int) (l1 : List (S55)) (a2 : Int), (Lit.int .i64 a0).wf = true → (l1.length ≤ maxLen ∧ ∀ x ∈ l1, wf_55 x) → (Lit.int .i64 a2).wf = true → ∃ k, papermilllaw41_RewindCulls.f k a0 l1 a2 = some true := by
 intro n bad least _ _ _
 suffices h : Ends (fun k => papermilllaw41_RewindCulls.f k n bad least) true from h.get
 unfold papermilllaw41_RewindCulls.f
 simp only [papermilllaw41_awake.f, Option.bind_some]
 by_cases h : (bad.length : Int) > 300
 ·exact Ends.pos h (Ends.ret _)
 ·refine Ends.neg h (Ends.bind (cull_ends n bad least) (Ends.bind (rcull_ends n bad least) (Ends.bind (rsameM_ends _ (by have := cullOf_len n bad least; omega)) ?_)))
  exact Ends.pos rfl (Ends.pos rfl (Ends.ret _))
end Go.Proofs.Ytalpegglbfobiaa.G

namespace Go.Proofs.Ytalpegglbfobiaa.rewindCulls
open Go.ChangeShapes Go.WideShapes Go.ChangeAt Go.RowKit Go.Proofs.YtalpegglbfobiaaW.PrintWords Go.Proofs.YtalpegglbfobiaaW.PrintLast Go.Proofs.Ytalpegglbfobiaa.G
open Go.ChangeMaps (open_string shut_string)
set_option linter.unusedVariables false
set_option linter.unusedSimpArgs false
theorem own : ownKnob Try.prog.godebug = none := by kernel_rfl
theorem laidOut : laidOutB Try.prog = true := by kernel_rfl
set_option maxRecDepth 100000 in
theorem lifted (os : Os) (started : os.Started) (H : Type) (enc : TypeId × Value → H) :
  ReturnsInHanded {} Try.checked os 4 .any (Rows.rewindCullsSpec.pre6 enc Try.prog Try.f4 Rows.rewindCullsRow.domain false) (Rows.rewindCullsSpec.post enc Try.prog Try.f4 false true false false) := by
 refine returnsInHanded_of_change_sized (C := Try.checked) own started (by kernel_rfl) Try.func4
  (ChangeSpec.witness6 (enc := enc) (C := Try.checked) false ⟨#[], #[.int .i64 0, .slice none 0 0, .int .i64 0], []⟩ 8 (by kernel_rfl) (by kernel_rfl) (by kernel_rfl) (by kernel_rfl)) ?_
 intro W base args ds gs before hval0 hW hcnd hsz0 _
 have hval : ∀ (j : Nat) t v, Try.f4.params[j]? = some t → args[j]? = some v → Value.okWide Try.prog W .any base t v := hval0
 have hW' := hW
 obtain ⟨p, q, hA0, hV, rfl, hfz, hnd⟩ := hW
 have hA : DataW.TrodAll enc Try.prog W 0 (fun _ => true) true Try.f4.params.toList args.toList ds p := hA0
 rw [Try.params4] at hA hval
 obtain ⟨v0, vs0, d0, ds0, p0, q0, hargs, rfl, rfl, h0, r0⟩ := trodAll_cons hA
 obtain ⟨v1, vs1, d1, ds1, p1, q1, rfl, rfl, rfl, h1, r1⟩ := trodAll_cons r0
 obtain ⟨v2, vs2, d2, ds2, p2, q2, rfl, rfl, rfl, h2, r2⟩ := trodAll_cons r1
 obtain ⟨rfl, rfl, rfl⟩ := trodAll_nil r2
 obtain rfl : args = #[v0, v1, v2] := by cases args; simp_all
 obtain ⟨rfl, rfl⟩ := trodVars_none hV
 have k0 := h0
 have lt0 : ∀ x ∈ p0, x.block < W.heap.size := by obtain ⟨m, hm⟩ := k0; exact DataW.trod_lt m _ _ _ hm
 obtain ⟨a0, rfl, rfl, rfl, hw0⟩ := open_int Try.underlying3 (hval 0 3 v0 rfl rfl) h0
 have k1 := h1
 have lt1 : ∀ x ∈ p1, x.block < W.heap.size := by obtain ⟨m, hm⟩ := k1; exact DataW.trod_lt m _ _ _ hm
 obtain ⟨a1, len1, cap1, rfl⟩ := okWide_slice Try.underlying29 (hval 1 29 v1 rfl rfl)
 obtain ⟨l1, ⟨A1, c1, hcs1, hlc1, hC1⟩, hw1⟩ : ∃ l, ((Kd.slice 55 k55)).K W l [.slice a1 len1 cap1] ∧ (l.length ≤ maxLen ∧ ∀ x ∈ l, wf_55 x) := by
  obtain ⟨fuel, hf⟩ := k1
  exact (Opens.slice Try.underlying29 (by kernel_rfl) opens_55) enc W fuel _ _ hf
 simp only [List.cons.injEq, and_true, Value.slice.injEq] at hcs1
 obtain ⟨rfl, rfl, rfl⟩ := hcs1
 have k2 := h2
 have lt2 : ∀ x ∈ p2, x.block < W.heap.size := by obtain ⟨m, hm⟩ := k2; exact DataW.trod_lt m _ _ _ hm
 obtain ⟨a2, rfl, rfl, rfl, hw2⟩ := open_int Try.underlying3 (hval 2 3 v2 rfl rfl) h2
 clear hA0 hval0 hsz0
 obtain ⟨k, hk⟩ := RewindCulls a0 l1 a2 hw0 hw1 hw2
 refine (papermilllaw41_RewindCulls.calls k a0 _ _ l1 a2 true W hC1 hlc1 hk).mono fun e W' he => ?_
 obtain ⟨he, bel⟩ := he
 subst he
 exact ⟨_, rfl, _, _, _, [], _, [], hW', trodAll_mk1 (shut_bool Try.underlying4 _), (trodAll_cons_mk (Below.trod laidOut (by kernel_rfl) (of_decide_eq_true (by kernel_rfl)) k0 bel lt0) (trodAll_cons_mk (Below.trod laidOut (by kernel_rfl) (of_decide_eq_true (by kernel_rfl)) k1 bel lt1) (trodAll_cons_mk (Below.trod laidOut (by kernel_rfl) (of_decide_eq_true (by kernel_rfl)) k2 bel lt2) trodAll_mk0))), rfl, bel.frame _, fun h => by cases h⟩
theorem over : Rows.rewindCullsRow.holds Try.pinned (OpenSpec.ofChange Rows.rewindCullsSpec) :=
 OpenClaim.holds_of_wide 4 Try.f4 rfl rfl rfl rfl rfl rfl rfl ⟨rfl, rfl, rfl, rfl, rfl⟩ rfl rfl rfl rfl rfl (by kernel_rfl) Try.func4 (by kernel_rfl)
  (of_decide_eq_true (by kernel_rfl)) (by unfold Func.isWrapper; first | (rw [if_pos (by decide +kernel)]; kernel_rfl) | (rw [if_neg (by decide +kernel)]; exact ⟨rfl, rfl⟩))
  (fun os started H enc _ => lifted os started H enc)
theorem proved : Rows.RewindCullsSaid := over
#print axioms proved
end Go.Proofs.Ytalpegglbfobiaa.rewindCulls
namespace Go.Proofs.Ytalpegglbfobiaa
theorem rewindCulls_holds : Rows.RewindCullsSaid := rewindCulls.proved
end Go.Proofs.Ytalpegglbfobiaa
