/- The law RewindTwice: whatever it is handed, it returns true, and what it is handed reads as before. No conditions. -/
import Derived.Test.YtalpegglbfobiaaT6
import Derived.Test.YtalpegglbfobiaaQ4
import Derived.Test.YtalpegglbfobiaaQ5
import Derived.Test.YtalpegglbfobiaaRows
import Derived.WalkKit
import Derived.ProofKit
import Derived.OpenShut
import Derived.ShutString
import Derived.ChangeOld
import Derived.Below
import Derived.SizedLaws
namespace Go.Proofs.Ytalpegglbfobiaa.G
open Go.RowKit Go.Proofs.YtalpegglbfobiaaW.PrintWords Go.Proofs.YtalpegglbfobiaaW.PrintLast Go.Proofs.YtalpegglbfobiaaW.PrintMore
set_option linter.unusedVariables false
set_option linter.unusedSimpArgs false
theorem twice_j2 (n x : Int) (h : long n) (z : Bool) (hz : z = false → 0 ≤ x ∧ x < n) : Ends (fun k => papermilllaw41_RewindTwice.j2 k n x [backR (n - 1) n] z) true := by
 refine Ends.succ ?_
 simp only [papermilllaw41_RewindTwice.j2, papermilllaw41_awake.f, Option.bind_some]
 cases z with
 | true => exact Ends.pos rfl (Ends.ret _)
 | false =>
  obtain ⟨h0, h1⟩ := hz rfl
  have hl := h
  unfold long at hl
  have hc := back_check (n - 1) n h (by omega) (by omega)
  refine Ends.neg (by simp) (Ends.bind (rat_ends _ hc x h0 (by rw [back_tot]; exact h1)) ?_)
  rw [back_at (n - 1) n x h (by omega) (by omega) h0 h1]
  have hw : wrap64 (wrap64 (n - 1) - x) = n - 1 - x := by unfold wrap64; omega
  rw [hw]
  exact Ends.pos rfl (Ends.pos rfl (Ends.ret _))
theorem twice_j0 (n x : Int) (z : Bool) (hz : z = false → long n) : Ends (fun k => papermilllaw41_RewindTwice.j0 k n x z) true := by
 refine Ends.succ ?_
 simp only [papermilllaw41_RewindTwice.j0, papermilllaw41_awake.f, Option.bind_some, whole_is]
 cases z with
 | true => exact Ends.pos rfl (Ends.ret _)
 | false =>
  have h := hz rfl
  have hl := h
  unfold long at hl
  have hc := back_check (n - 1) n h (by omega) (by omega)
  have ew : wholeOf n = ([backR (n - 1) n], 0) := by unfold wholeOf; rw [if_pos h]
  rw [ew]
  refine Ends.neg (by simp) (Ends.bind ((after_ends _).congr (after_twice n h)) ?_)
  refine Ends.pos rfl (Ends.pos rfl (Ends.bind (rsameM_ends _ (by simp)) (Ends.pos rfl (Ends.bind ((rcheck_ends _).congr hc) (Ends.succ ?_)))))
  simp only [papermilllaw41_RewindTwice.j1]
  refine Ends.neg (by simp) ?_
  by_cases hx : x < 0
  ·exact Ends.pos hx (twice_j2 n x h true (by simp))
  ·exact Ends.neg hx (twice_j2 n x h _ (fun hh => by have := of_decide_eq_false hh; omega))
theorem RewindTwice : ∀ (a0 : Int) (a1 : Int), (Lit.int .i64 a0).wf = true → (Lit.int .i64 a1).wf = true → ∃ k, papermilllaw41_RewindTwice.f k a0 a1 = some true := by
 intro n x _ _
 suffices h : Ends (fun k => papermilllaw41_RewindTwice.f k n x) true from h.get
 unfold papermilllaw41_RewindTwice.f
 by_cases h1 : n < 1
 ·exact Ends.pos h1 (twice_j0 n x true (by simp))
 ·exact Ends.neg h1 (twice_j0 n x _ (fun hh => by have := of_decide_eq_false hh; unfold long; omega))
end Go.Proofs.Ytalpegglbfobiaa.G

namespace Go.Proofs.Ytalpegglbfobiaa.rewindTwice
open Go.ChangeShapes Go.WideShapes Go.ChangeAt Go.RowKit Go.Proofs.YtalpegglbfobiaaW.PrintWords Go.Proofs.YtalpegglbfobiaaW.PrintLast Go.Proofs.Ytalpegglbfobiaa.G
open Go.ChangeMaps (open_string shut_string)
set_option linter.unusedVariables false
set_option linter.unusedSimpArgs false
theorem own : ownKnob Try.prog.godebug = none := by kernel_rfl
theorem laidOut : laidOutB Try.prog = true := by kernel_rfl
set_option maxRecDepth 100000 in
theorem lifted (os : Os) (started : os.Started) (H : Type) (enc : TypeId × Value → H) :
  ReturnsInHanded {} Try.checked os 8 .any (Rows.rewindTwiceSpec.pre6 enc Try.prog Try.f8 Rows.rewindTwiceRow.domain false) (Rows.rewindTwiceSpec.post enc Try.prog Try.f8 false true false false) := by
 refine returnsInHanded_of_change_sized (C := Try.checked) own started (by kernel_rfl) Try.func8
  (ChangeSpec.witness6 (enc := enc) (C := Try.checked) false ⟨#[], #[.int .i64 0, .int .i64 0], []⟩ 8 (by kernel_rfl) (by kernel_rfl) (by kernel_rfl) (by kernel_rfl)) ?_
 intro W base args ds gs before hval0 hW hcnd hsz0 _
 have hval : ∀ (j : Nat) t v, Try.f8.params[j]? = some t → args[j]? = some v → Value.okWide Try.prog W .any base t v := hval0
 have hW' := hW
 obtain ⟨p, q, hA0, hV, rfl, hfz, hnd⟩ := hW
 have hA : DataW.TrodAll enc Try.prog W 0 (fun _ => true) true Try.f8.params.toList args.toList ds p := hA0
 rw [Try.params8] at hA hval
 obtain ⟨v0, vs0, d0, ds0, p0, q0, hargs, rfl, rfl, h0, r0⟩ := trodAll_cons hA
 obtain ⟨v1, vs1, d1, ds1, p1, q1, rfl, rfl, rfl, h1, r1⟩ := trodAll_cons r0
 obtain ⟨rfl, rfl, rfl⟩ := trodAll_nil r1
 obtain rfl : args = #[v0, v1] := by cases args; simp_all
 obtain ⟨rfl, rfl⟩ := trodVars_none hV
 have k0 := h0
 have lt0 : ∀ x ∈ p0, x.block < W.heap.size := by obtain ⟨m, hm⟩ := k0; exact DataW.trod_lt m _ _ _ hm
 obtain ⟨a0, rfl, rfl, rfl, hw0⟩ := open_int Try.underlying3 (hval 0 3 v0 rfl rfl) h0
 have k1 := h1
 have lt1 : ∀ x ∈ p1, x.block < W.heap.size := by obtain ⟨m, hm⟩ := k1; exact DataW.trod_lt m _ _ _ hm
 obtain ⟨a1, rfl, rfl, rfl, hw1⟩ := open_int Try.underlying3 (hval 1 3 v1 rfl rfl) h1
 clear hA0 hval0 hsz0
 obtain ⟨k, hk⟩ := RewindTwice a0 a1 hw0 hw1
 refine (papermilllaw41_RewindTwice.calls k a0 a1 true W  hk).mono fun e W' he => ?_
 obtain ⟨he, bel⟩ := he
 subst he
 exact ⟨_, rfl, _, _, _, [], _, [], hW', trodAll_mk1 (shut_bool Try.underlying4 _), (trodAll_cons_mk (Below.trod laidOut (by kernel_rfl) (of_decide_eq_true (by kernel_rfl)) k0 bel lt0) (trodAll_cons_mk (Below.trod laidOut (by kernel_rfl) (of_decide_eq_true (by kernel_rfl)) k1 bel lt1) trodAll_mk0)), rfl, bel.frame _, fun h => by cases h⟩
theorem over : Rows.rewindTwiceRow.holds Try.pinned (OpenSpec.ofChange Rows.rewindTwiceSpec) :=
 OpenClaim.holds_of_wide 8 Try.f8 rfl rfl rfl rfl rfl rfl rfl ⟨rfl, rfl, rfl, rfl, rfl⟩ rfl rfl rfl rfl rfl (by kernel_rfl) Try.func8 (by kernel_rfl)
  (of_decide_eq_true (by kernel_rfl)) (by unfold Func.isWrapper; first | (rw [if_pos (by decide +kernel)]; kernel_rfl) | (rw [if_neg (by decide +kernel)]; exact ⟨rfl, rfl⟩))
  (fun os started H enc _ => lifted os started H enc)
theorem proved : Rows.RewindTwiceSaid := over
#print axioms proved
end Go.Proofs.Ytalpegglbfobiaa.rewindTwice
namespace Go.Proofs.Ytalpegglbfobiaa
theorem rewindTwice_holds : Rows.RewindTwiceSaid := rewindTwice.proved
end Go.Proofs.Ytalpegglbfobiaa
