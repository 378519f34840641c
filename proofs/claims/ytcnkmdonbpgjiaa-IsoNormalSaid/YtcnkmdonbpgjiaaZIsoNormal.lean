/- The law IsoNormal: whatever it is handed, it returns true, and what it is handed reads as before. No conditions. -/
import Derived.Test.YtcnkmdonbpgjiaaN6
import Derived.Test.YtcnkmdonbpgjiaaQ5
import Derived.Test.YtcnkmdonbpgjiaaRows
import Derived.WalkKit
import Derived.ProofKit
import Derived.OpenShut
import Derived.ShutString
import Derived.ChangeOld
import Derived.Below
import Derived.SizedLaws
namespace Go.Proofs.Ytcnkmdonbpgjiaa.G
open Go.RowKit Go.Proofs.YtcnkmdonbpgjiaaW.PrintWords Go.Proofs.YtcnkmdonbpgjiaaW.PrintLast Go.Proofs.YtcnkmdonbpgjiaaW.PrintMore
set_option linter.unusedVariables false
set_option linter.unusedSimpArgs false
theorem norm_l0 (l : List S32) (x : Int) (n : List S32) (hn : n.length ≤ 1000000) (hok : ∀ t ∈ n, okR t) (hat : atOf13 n x = atOf13 l x) : ∀ (d i : Nat), n.length - i = d → i ≤ n.length → Ends (fun k => papermilllaw13_IsoNormal.l0 k l x n (i : Int)) true := by
  intro d
  induction d with
  | zero =>
    intro i hd hi
    refine Ends.succ ?_
    simp only [papermilllaw13_IsoNormal.l0, papermilllaw13_at.f, iso_At.f, papermilllaw13_awake.f, Option.bind_some, hat]
    refine Ends.neg (by omega) ?_
    by_cases h : (atOf13 l x).2 = 0
    · simp only [if_pos h, Option.bind_some]
      exact Ends.pos (by simp) (Ends.ret _)
    · simp only [if_neg h, Option.bind_some]
      exact Ends.pos (by simp) (Ends.ret _)
  | succ d ih =>
    intro i hd hi
    refine Ends.succ ?_
    have hmem : rd_T32 n (i : Int) ∈ n := by rw [rdR n i (by omega)]; exact List.getElem_mem _
    have ho := hok _ hmem
    simp only [papermilllaw13_IsoNormal.l0, wrap_nat i (by omega)]
    generalize rd_T32 n (i : Int) = t at *
    have hi1 := ih (i + 1) (by omega) (by omega)
    refine Ends.pos (by omega) (Ends.pos (by omega) ?_)
    by_cases h1 : t.f1 = 1
    · exact Ends.pos h1 (Ends.neg (by rw [ho.2 h1]; simp) hi1)
    · exact Ends.neg h1 hi1
theorem IsoNormal : ∀ (l0 : List (S32)) (a1 : Int), (l0.length ≤ maxLen ∧ ∀ x ∈ l0, wf_32 x) → (Lit.int .i64 a1).wf = true → ∃ k, papermilllaw13_IsoNormal.f k l0 a1 = some true := by
  intro l x _ _
  suffices h : Ends (fun j => papermilllaw13_IsoNormal.f j l x) true from h.get
  unfold papermilllaw13_IsoNormal.f
  simp only [papermilllaw13_awake.f, papermilllaw13_great.f, iso_Norm.f, iso_Reverse.f, Option.bind_some]
  by_cases hg : (l.length : Int) > 300
  · exact Ends.pos (by simpa using hg) (Ends.ret _)
  refine Ends.neg (by simpa using hg) ?_
  by_cases h : check13 l = 0
  · have e1 : normOf l = (nrm (sem l), 0) := by unfold normOf; rw [if_pos h]
    have e2 : revOf l = (nrm (sem l).reverse, 0) := by unfold revOf; rw [if_pos h]
    have e3 : revOf (nrm (sem l).reverse) = (nrm (sem l), 0) := by unfold revOf; rw [if_pos (rev_fair h), sem_nrm, List.reverse_reverse]
    have hfew := nrm_few h
    have hl := (check13_zero h).1
    simp only [e1, normOf_nrm h, e2, e3]
    refine Ends.pos (by simp) (Ends.pos (by simp) (Ends.pos (by simp) (Ends.pos (by simp) (Ends.bind (rsame13_ends _ (by omega)) (Ends.pos (by simp) (Ends.bind (rsame13_ends _ (by omega)) (Ends.pos (by simp) ?_)))))))
    have hd : decide (((nrm (sem l)).length : Int) > (l.length : Int)) = false := decide_eq_false (by omega)
    rw [hd]
    refine Ends.succ ?_
    simp only [papermilllaw13_IsoNormal.j0]
    exact Ends.neg (by simp) (norm_l0 l x _ (by omega) (nrm_ok _) (at_nrm h x) _ 0 rfl (by omega))
  · have e1 : normOf l = ([], check13 l) := by unfold normOf; rw [if_neg h]
    simp only [e1]
    exact Ends.neg h (Ends.pos (by simp) (Ends.ret _))
end Go.Proofs.Ytcnkmdonbpgjiaa.G

namespace Go.Proofs.Ytcnkmdonbpgjiaa.isoNormal
open Go.ChangeShapes Go.WideShapes Go.ChangeAt Go.RowKit Go.Proofs.YtcnkmdonbpgjiaaW.PrintWords Go.Proofs.YtcnkmdonbpgjiaaW.PrintLast Go.Proofs.Ytcnkmdonbpgjiaa.G
open Go.ChangeMaps (open_string shut_string)
set_option linter.unusedVariables false
set_option linter.unusedSimpArgs false
theorem own : ownKnob Try.prog.godebug = none := by kernel_rfl
theorem laidOut : laidOutB Try.prog = true := by kernel_rfl
set_option maxRecDepth 100000 in
theorem lifted (os : Os) (started : os.Started) (H : Type) (enc : TypeId × Value → H) :
    ReturnsInHanded {} Try.checked os 5 .any (Rows.isoNormalSpec.pre6 enc Try.prog Try.f5 Rows.isoNormalRow.domain false) (Rows.isoNormalSpec.post enc Try.prog Try.f5 false true false false) := by
  refine returnsInHanded_of_change_sized (C := Try.checked) own started (by kernel_rfl) Try.func5
    (ChangeSpec.witness6 (enc := enc) (C := Try.checked) false ⟨#[], #[.slice none 0 0, .int .i64 0], []⟩ 8 (by kernel_rfl) (by kernel_rfl) (by kernel_rfl) (by kernel_rfl)) ?_
  intro W base args ds gs before hval0 hW hcnd hsz0 _
  have hval : ∀ (j : Nat) t v, Try.f5.params[j]? = some t → args[j]? = some v → Value.okWide Try.prog W .any base t v := hval0
  have hW' := hW
  obtain ⟨p, q, hA0, hV, rfl, hfz, hnd⟩ := hW
  have hA : DataW.TrodAll enc Try.prog W 0 (fun _ => true) true Try.f5.params.toList args.toList ds p := hA0
  rw [Try.params5] at hA hval
  obtain ⟨v0, vs0, d0, ds0, p0, q0, hargs, rfl, rfl, h0, r0⟩ := trodAll_cons hA
  obtain ⟨v1, vs1, d1, ds1, p1, q1, rfl, rfl, rfl, h1, r1⟩ := trodAll_cons r0
  obtain ⟨rfl, rfl, rfl⟩ := trodAll_nil r1
  obtain rfl : args = #[v0, v1] := by cases args; simp_all
  obtain ⟨rfl, rfl⟩ := trodVars_none hV
  have k0 := h0
  have lt0 : ∀ x ∈ p0, x.block < W.heap.size := by obtain ⟨m, hm⟩ := k0; exact DataW.trod_lt m _ _ _ hm
  obtain ⟨a0, len0, cap0, rfl⟩ := okWide_slice Try.underlying22 (hval 0 22 v0 rfl rfl)
  obtain ⟨l0, ⟨A0, c0, hcs0, hlc0, hC0⟩, hw0⟩ : ∃ l, ((Kd.slice 32 k32)).K W l [.slice a0 len0 cap0] ∧ (l.length ≤ maxLen ∧ ∀ x ∈ l, wf_32 x) := by
    obtain ⟨fuel, hf⟩ := k0
    exact (Opens.slice Try.underlying22 (by kernel_rfl) opens_32) enc W fuel _ _ hf
  simp only [List.cons.injEq, and_true, Value.slice.injEq] at hcs0
  obtain ⟨rfl, rfl, rfl⟩ := hcs0
  have k1 := h1
  have lt1 : ∀ x ∈ p1, x.block < W.heap.size := by obtain ⟨m, hm⟩ := k1; exact DataW.trod_lt m _ _ _ hm
  obtain ⟨a1, rfl, rfl, rfl, hw1⟩ := open_int Try.underlying3 (hval 1 3 v1 rfl rfl) h1
  clear hA0 hval0 hsz0
  obtain ⟨k, hk⟩ := IsoNormal l0 a1 hw0 hw1
  refine (papermilllaw13_IsoNormal.calls k _ _ l0 a1 true W hC0 hlc0 hk).mono fun e W' he => ?_
  obtain ⟨he, bel⟩ := he
  subst he
  exact ⟨_, rfl, _, _, _, [], _, [], hW', trodAll_mk1 (shut_bool Try.underlying4 _), (trodAll_cons_mk (Below.trod laidOut (by kernel_rfl) (of_decide_eq_true (by kernel_rfl)) k0 bel lt0) (trodAll_cons_mk (Below.trod laidOut (by kernel_rfl) (of_decide_eq_true (by kernel_rfl)) k1 bel lt1) trodAll_mk0)), rfl, bel.frame _, fun h => by cases h⟩
theorem over : Rows.isoNormalRow.holds Try.pinned (OpenSpec.ofChange Rows.isoNormalSpec) :=
  OpenClaim.holds_of_wide 5 Try.f5 rfl rfl rfl rfl rfl rfl rfl ⟨rfl, rfl, rfl, rfl, rfl⟩ rfl rfl rfl rfl rfl (by kernel_rfl) Try.func5 (by kernel_rfl)
    (of_decide_eq_true (by kernel_rfl)) (by unfold Func.isWrapper; first | (rw [if_pos (by decide +kernel)]; kernel_rfl) | (rw [if_neg (by decide +kernel)]; exact ⟨rfl, rfl⟩))
    (fun os started H enc _ => lifted os started H enc)
theorem proved : Rows.IsoNormalSaid := over
#print axioms proved
end Go.Proofs.Ytcnkmdonbpgjiaa.isoNormal
namespace Go.Proofs.Ytcnkmdonbpgjiaa
theorem isoNormal_holds : Rows.IsoNormalSaid := isoNormal.proved
end Go.Proofs.Ytcnkmdonbpgjiaa
