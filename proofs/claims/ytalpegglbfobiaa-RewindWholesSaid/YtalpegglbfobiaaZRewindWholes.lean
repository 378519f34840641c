/- The law RewindWholes: whatever it is handed, it returns true, and what it is handed reads as before. No conditions. -/
import Derived.Test.YtalpegglbfobiaaW6
import Derived.Test.YtalpegglbfobiaaQ4
import Derived.Test.YtalpegglbfobiaaQ5
import Derived.Test.YtalpegglbfobiaaRows
import Derived.WalkKit
import Derived.ProofKit
import Derived.OpenShut
import Derived.ShutString
import Derived.ChangeOld
import Derived.Below
import Derived.SizedLaws
namespace Go.Proofs.Ytalpegglbfobiaa.G
open Go.RowKit Go.Proofs.YtalpegglbfobiaaW.PrintWords Go.Proofs.YtalpegglbfobiaaW.PrintLast Go.Proofs.YtalpegglbfobiaaW.PrintMore
set_option linter.unusedVariables false
set_option linter.unusedSimpArgs false
theorem whole_len (n : Int) : (wholeOf n).1.length ≤ 1000000 := by unfold wholeOf; split <;> simp
theorem RewindWholes : ∀ (a0 : Int), (Lit.int .i64 a0).wf = true → ∃ k, papermilllaw41_RewindWholes.f k a0 = some true := by
 intro n _
 suffices h : Ends (fun k => papermilllaw41_RewindWholes.f k n) true from h.get
 unfold papermilllaw41_RewindWholes.f
 simp only [whole_is, rwhole_is, papermilllaw41_awake.f, Option.bind_some]
 exact Ends.bind (rsameM_ends _ (whole_len n)) (Ends.pos (by first | trivial | rfl) (Ends.pos (by first | trivial | rfl) (Ends.ret _)))
end Go.Proofs.Ytalpegglbfobiaa.G

namespace Go.Proofs.Ytalpegglbfobiaa.rewindWholes
open Go.ChangeShapes Go.WideShapes Go.ChangeAt Go.RowKit Go.Proofs.YtalpegglbfobiaaW.PrintWords Go.Proofs.YtalpegglbfobiaaW.PrintLast Go.Proofs.Ytalpegglbfobiaa.G
open Go.ChangeMaps (open_string shut_string)
set_option linter.unusedVariables false
set_option linter.unusedSimpArgs false
theorem own : ownKnob Try.prog.godebug = none := by kernel_rfl
theorem laidOut : laidOutB Try.prog = true := by kernel_rfl
set_option maxRecDepth 100000 in
theorem lifted (os : Os) (started : os.Started) (H : Type) (enc : TypeId × Value → H) :
  ReturnsInHanded {} Try.checked os 3 .any (Rows.rewindWholesSpec.pre6 enc Try.prog Try.f3 Rows.rewindWholesRow.domain false) (Rows.rewindWholesSpec.post enc Try.prog Try.f3 false true false false) := by
 refine returnsInHanded_of_change_sized (C := Try.checked) own started (by kernel_rfl) Try.func3
  (ChangeSpec.witness6 (enc := enc) (C := Try.checked) false ⟨#[], #[.int .i64 0], []⟩ 8 (by kernel_rfl) (by kernel_rfl) (by kernel_rfl) (by kernel_rfl)) ?_
 intro W base args ds gs before hval0 hW hcnd hsz0 _
 have hval : ∀ (j : Nat) t v, Try.f3.params[j]? = some t → args[j]? = some v → Value.okWide Try.prog W .any base t v := hval0
 have hW' := hW
 obtain ⟨p, q, hA0, hV, rfl, hfz, hnd⟩ := hW
 have hA : DataW.TrodAll enc Try.prog W 0 (fun _ => true) true Try.f3.params.toList args.toList ds p := hA0
 rw [Try.params3] at hA hval
 obtain ⟨v0, vs0, d0, ds0, p0, q0, hargs, rfl, rfl, h0, r0⟩ := trodAll_cons hA
 obtain ⟨rfl, rfl, rfl⟩ := trodAll_nil r0
 obtain rfl : args = #[v0] := by cases args; simp_all
 obtain ⟨rfl, rfl⟩ := trodVars_none hV
 have k0 := h0
 have lt0 : ∀ x ∈ p0, x.block < W.heap.size := by obtain ⟨m, hm⟩ := k0; exact DataW.trod_lt m _ _ _ hm
 obtain ⟨a0, rfl, rfl, rfl, hw0⟩ := open_int Try.underlying3 (hval 0 3 v0 rfl rfl) h0
 clear hA0 hval0 hsz0
 obtain ⟨k, hk⟩ := RewindWholes a0 hw0
 refine (papermilllaw41_RewindWholes.calls k a0 true W  hk).mono fun e W' he => ?_
 obtain ⟨he, bel⟩ := he
 subst he
 exact ⟨_, rfl, _, _, _, [], _, [], hW', trodAll_mk1 (shut_bool Try.underlying4 _), (trodAll_cons_mk (Below.trod laidOut (by kernel_rfl) (of_decide_eq_true (by kernel_rfl)) k0 bel lt0) trodAll_mk0), rfl, bel.frame _, fun h => by cases h⟩
theorem over : Rows.rewindWholesRow.holds Try.pinned (OpenSpec.ofChange Rows.rewindWholesSpec) :=
 OpenClaim.holds_of_wide 3 Try.f3 rfl rfl rfl rfl rfl rfl rfl ⟨rfl, rfl, rfl, rfl, rfl⟩ rfl rfl rfl rfl rfl (by kernel_rfl) Try.func3 (by kernel_rfl)
  (of_decide_eq_true (by kernel_rfl)) (by unfold Func.isWrapper; first | (rw [if_pos (by decide +kernel)]; kernel_rfl) | (rw [if_neg (by decide +kernel)]; exact ⟨rfl, rfl⟩))
  (fun os started H enc _ => lifted os started H enc)
theorem proved : Rows.RewindWholesSaid := over
#print axioms proved
end Go.Proofs.Ytalpegglbfobiaa.rewindWholes
namespace Go.Proofs.Ytalpegglbfobiaa
theorem rewindWholes_holds : Rows.RewindWholesSaid := rewindWholes.proved
end Go.Proofs.Ytalpegglbfobiaa
