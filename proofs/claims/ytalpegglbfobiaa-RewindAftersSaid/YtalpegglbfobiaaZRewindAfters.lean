/- The law RewindAfters: whatever it is handed, it returns true, and what it is handed reads as before. No conditions. -/
import Derived.Test.YtalpegglbfobiaaF7
import Derived.Test.YtalpegglbfobiaaQ4
import Derived.Test.YtalpegglbfobiaaQ5
import Derived.Test.YtalpegglbfobiaaRows
import Derived.WalkKit
import Derived.ProofKit
import Derived.OpenShut
import Derived.ShutString
import Derived.ChangeOld
import Derived.Below
import Derived.SizedLaws
namespace Go.Proofs.Ytalpegglbfobiaa.G
open Go.RowKit Go.Proofs.YtalpegglbfobiaaW.PrintWords Go.Proofs.YtalpegglbfobiaaW.PrintLast Go.Proofs.YtalpegglbfobiaaW.PrintMore
set_option linter.unusedVariables false
set_option linter.unusedSimpArgs false
theorem few_l0 (l : List (List S44)) (hl : l.length ≤ 1000) : ∀ (d i : Nat), l.length - i = d → i ≤ l.length → ∃ b, Ends (fun k => papermilllaw41_few.l0 k l (i : Int)) b := by
 intro d
 induction d with
 | zero =>
  intro i hd hi
  refine ⟨true, Ends.succ ?_⟩
  simp only [papermilllaw41_few.l0]
  exact Ends.neg (by omega) (Ends.ret _)
 | succ d ih =>
  intro i hd hi
  obtain ⟨b, hb⟩ := ih (i + 1) (by omega) (by omega)
  by_cases h1 : ((rd_L6 l (i : Int)).length : Int) > 40
  ·by_cases h2 : ((rd_L6 l (i : Int)).length : Int) ≤ 256
   ·refine ⟨false, Ends.succ ?_⟩
    simp only [papermilllaw41_few.l0, wrap_nat i (by omega)]
    exact Ends.pos (by omega) (Ends.pos (by omega) (Ends.pos h1 (Ends.pos h2 (Ends.ret _))))
   ·by_cases h3 : ((rd_L6 l (i : Int)).length : Int) > 300
    ·refine ⟨false, Ends.succ ?_⟩
     simp only [papermilllaw41_few.l0, wrap_nat i (by omega)]
     exact Ends.pos (by omega) (Ends.pos (by omega) (Ends.pos h1 (Ends.neg h2 (Ends.pos h3 (Ends.ret _)))))
    ·refine ⟨b, Ends.succ ?_⟩
     simp only [papermilllaw41_few.l0, wrap_nat i (by omega)]
     exact Ends.pos (by omega) (Ends.pos (by omega) (Ends.pos h1 (Ends.neg h2 (Ends.neg h3 hb))))
  ·refine ⟨b, Ends.succ ?_⟩
   simp only [papermilllaw41_few.l0, wrap_nat i (by omega)]
   exact Ends.pos (by omega) (Ends.pos (by omega) (Ends.neg h1 (Ends.neg (by omega) hb)))
theorem few_ends (l : List (List S44)) : ∃ b, Ends (fun k => papermilllaw41_few.f k l) b := by
 unfold papermilllaw41_few.f
 by_cases h : (l.length : Int) > 20
 ·exact ⟨false, Ends.pos h (Ends.ret _)⟩
 ·obtain ⟨b, hb⟩ := few_l0 l (by omega) _ 0 rfl (by omega)
  exact ⟨b, Ends.neg h hb⟩
theorem RewindAfters : ∀ (l0 : List (List (S44))), (l0.length ≤ maxLen ∧ ∀ x ∈ l0, (x.length ≤ maxLen ∧ ∀ y ∈ x, wf_44 y)) → ∃ k, papermilllaw41_RewindAfters.f k l0 = some true := by
 intro l _
 suffices h : Ends (fun k => papermilllaw41_RewindAfters.f k l) true from h.get
 unfold papermilllaw41_RewindAfters.f
 simp only [papermilllaw41_awake.f, Option.bind_some]
 obtain ⟨b, hb⟩ := few_ends l
 refine Ends.bind hb ?_
 cases b with
 | false => exact Ends.neg (by simp) (Ends.ret _)
 | true =>
  have hl := afterOf_len l
  exact Ends.pos rfl (Ends.bind (after_ends l) (Ends.bind (rafter_ends l) (Ends.bind (rsameM_ends _ (by omega)) (Ends.pos rfl (Ends.pos rfl (Ends.ret _))))))
end Go.Proofs.Ytalpegglbfobiaa.G

namespace Go.Proofs.Ytalpegglbfobiaa.rewindAfters
open Go.ChangeShapes Go.WideShapes Go.ChangeAt Go.RowKit Go.Proofs.YtalpegglbfobiaaW.PrintWords Go.Proofs.YtalpegglbfobiaaW.PrintLast Go.Proofs.Ytalpegglbfobiaa.G
open Go.ChangeMaps (open_string shut_string)
set_option linter.unusedVariables false
set_option linter.unusedSimpArgs false
theorem own : ownKnob Try.prog.godebug = none := by kernel_rfl
theorem laidOut : laidOutB Try.prog = true := by kernel_rfl
set_option maxRecDepth 100000 in
theorem lifted (os : Os) (started : os.Started) (H : Type) (enc : TypeId × Value → H) :
  ReturnsInHanded {} Try.checked os 6 .any (Rows.rewindAftersSpec.pre6 enc Try.prog Try.f6 Rows.rewindAftersRow.domain false) (Rows.rewindAftersSpec.post enc Try.prog Try.f6 false true false false) := by
 refine returnsInHanded_of_change_sized (C := Try.checked) own started (by kernel_rfl) Try.func6
  (ChangeSpec.witness6 (enc := enc) (C := Try.checked) false ⟨#[], #[.slice none 0 0], []⟩ 8 (by kernel_rfl) (by kernel_rfl) (by kernel_rfl) (by kernel_rfl)) ?_
 intro W base args ds gs before hval0 hW hcnd hsz0 _
 have hval : ∀ (j : Nat) t v, Try.f6.params[j]? = some t → args[j]? = some v → Value.okWide Try.prog W .any base t v := hval0
 have hW' := hW
 obtain ⟨p, q, hA0, hV, rfl, hfz, hnd⟩ := hW
 have hA : DataW.TrodAll enc Try.prog W 0 (fun _ => true) true Try.f6.params.toList args.toList ds p := hA0
 rw [Try.params6] at hA hval
 obtain ⟨v0, vs0, d0, ds0, p0, q0, hargs, rfl, rfl, h0, r0⟩ := trodAll_cons hA
 obtain ⟨rfl, rfl, rfl⟩ := trodAll_nil r0
 obtain rfl : args = #[v0] := by cases args; simp_all
 obtain ⟨rfl, rfl⟩ := trodVars_none hV
 have k0 := h0
 have lt0 : ∀ x ∈ p0, x.block < W.heap.size := by obtain ⟨m, hm⟩ := k0; exact DataW.trod_lt m _ _ _ hm
 obtain ⟨a0, len0, cap0, rfl⟩ := okWide_slice Try.underlying33 (hval 0 33 v0 rfl rfl)
 obtain ⟨l0, ⟨A0, c0, hcs0, hlc0, hC0⟩, hw0⟩ : ∃ l, ((Kd.slice 22 (Kd.slice 44 k44))).K W l [.slice a0 len0 cap0] ∧ (l.length ≤ maxLen ∧ ∀ x ∈ l, (x.length ≤ maxLen ∧ ∀ y ∈ x, wf_44 y)) := by
  obtain ⟨fuel, hf⟩ := k0
  exact (Opens.slice Try.underlying33 (by kernel_rfl) (Opens.slice Try.underlying22 (by kernel_rfl) opens_44)) enc W fuel _ _ hf
 simp only [List.cons.injEq, and_true, Value.slice.injEq] at hcs0
 obtain ⟨rfl, rfl, rfl⟩ := hcs0
 clear hA0 hval0 hsz0
 obtain ⟨k, hk⟩ := RewindAfters l0 hw0
 refine (papermilllaw41_RewindAfters.calls k _ _ l0 true W hC0 hlc0 hk).mono fun e W' he => ?_
 obtain ⟨he, bel⟩ := he
 subst he
 exact ⟨_, rfl, _, _, _, [], _, [], hW', trodAll_mk1 (shut_bool Try.underlying4 _), (trodAll_cons_mk (Below.trod laidOut (by kernel_rfl) (of_decide_eq_true (by kernel_rfl)) k0 bel lt0) trodAll_mk0), rfl, bel.frame _, fun h => by cases h⟩
theorem over : Rows.rewindAftersRow.holds Try.pinned (OpenSpec.ofChange Rows.rewindAftersSpec) :=
 OpenClaim.holds_of_wide 6 Try.f6 rfl rfl rfl rfl rfl rfl rfl ⟨rfl, rfl, rfl, rfl, rfl⟩ rfl rfl rfl rfl rfl (by kernel_rfl) Try.func6 (by kernel_rfl)
  (of_decide_eq_true (by kernel_rfl)) (by unfold Func.isWrapper; first | (rw [if_pos (by decide +kernel)]; kernel_rfl) | (rw [if_neg (by decide +kernel)]; exact ⟨rfl, rfl⟩))
  (fun os started H enc _ => lifted os started H enc)
theorem proved : Rows.RewindAftersSaid := over
#print axioms proved
end Go.Proofs.Ytalpegglbfobiaa.rewindAfters
namespace Go.Proofs.Ytalpegglbfobiaa
theorem rewindAfters_holds : Rows.RewindAftersSaid := rewindAfters.proved
end Go.Proofs.Ytalpegglbfobiaa
