/- The law IsoHalves: whatever it is handed, it returns true, and what it is handed reads as before. No conditions. -/
import Derived.Test.YtcnkmdonbpgjiaaH6
import Derived.Test.YtcnkmdonbpgjiaaQ5
import Derived.Test.YtcnkmdonbpgjiaaRows
import Derived.WalkKit
import Derived.ProofKit
import Derived.OpenShut
import Derived.ShutString
import Derived.ChangeOld
import Derived.Below
import Derived.SizedLaws
namespace Go.Proofs.Ytcnkmdonbpgjiaa.G
open Go.RowKit Go.Proofs.YtcnkmdonbpgjiaaW.PrintWords Go.Proofs.YtcnkmdonbpgjiaaW.PrintLast Go.Proofs.YtcnkmdonbpgjiaaW.PrintMore
set_option linter.unusedVariables false
set_option linter.unusedSimpArgs false
theorem iLength_ends (l : List S32) (h : check13 l = 0) : Ends (fun k => iso_Length.f k l) (tot13 l, 0) := by
  unfold iso_Length.f
  obtain ⟨hl, hg, _⟩ := check13_zero h
  exact Ends.bind ((icheck_ends l).congr h) (Ends.pos (by simp) (Ends.bind (ilength_ends l (by omega) (fun r hr => by have := fit_of (hg r hr); unfold fitR at this; omega)) (Ends.ret _)))
theorem part_few {l : List S32} (h : check13 l = 0) (f t : Int) : (nrm (((sem l).take t.toNat).drop f.toNat)).length ≤ l.length := by
  rw [← part_fold l h f t]; exact part_len l f t
theorem part_fair {l : List S32} (h : check13 l = 0) (f t : Int) : check13 (nrm (((sem l).take t.toNat).drop f.toNat)) = 0 := by
  refine check_nrm _ (fun x hx => sem_fit (check13_zero h).2.1 x (List.mem_of_mem_take (List.mem_of_mem_drop hx))) ?_ (by have := part_few h f t; have := (check13_zero h).1; omega)
  have := sem_small h
  rw [List.length_drop, List.length_take]
  omega
theorem halves {l : List S32} (h : check13 l = 0) (x : Int) (h0 : 0 ≤ x) (h1 : x ≤ tot13 l) : joinOf13 (nrm (((sem l).take x.toNat).drop (0 : Int).toNat)) (nrm (((sem l).take (tot13 l).toNat).drop x.toNat)) = (nrm (sem l), 0) := by
  have ht := sem_tot h
  have e1 : sem (nrm (((sem l).take x.toNat).drop (0 : Int).toNat)) ++ sem (nrm (((sem l).take (tot13 l).toNat).drop x.toNat)) = sem l := by
    rw [sem_nrm, sem_nrm, ← ht, show ((sem l).length : Int).toNat = (sem l).length by omega, List.take_length]
    exact List.take_append_drop _ _
  have e2 : tot13 (nrm (((sem l).take x.toNat).drop (0 : Int).toNat)) + tot13 (nrm (((sem l).take (tot13 l).toNat).drop x.toNat)) = tot13 l := by
    rw [tot_nrm, tot_nrm, List.length_drop, List.length_drop, List.length_take, List.length_take]
    simp only [Int.toNat_zero]
    omega
  unfold joinOf13
  have := (check13_zero h).2.2
  have := nrm_few h
  have := (check13_zero h).1
  rw [if_pos (part_fair h 0 x), if_pos (part_fair h x (tot13 l)), e1, e2, if_neg (by omega), if_neg (by omega)]
theorem halves_j0 (l : List S32) (x : Int) (h : check13 l = 0) : Ends (fun k => papermilllaw13_IsoHalves.j0 k l x false) true := by
  have hT := (check13_zero h).2.2
  have hT0 := tot_nonneg h
  refine Ends.succ ?_
  simp only [papermilllaw13_IsoHalves.j0]
  refine Ends.neg (by simp) (Ends.bind (iLength_ends l h) (Ends.pos rfl (Ends.neg (by dsimp only; omega) ?_)))
  dsimp only
  rw [show decide (tot13 l > 17179869184) = false from decide_eq_false (by omega)]
  refine Ends.succ ?_
  simp only [papermilllaw13_IsoHalves.j1]
  have skip : Ends (fun k => papermilllaw13_IsoHalves.j2 k l x (tot13 l) true) true := by
    refine Ends.succ ?_
    simp only [papermilllaw13_IsoHalves.j2, papermilllaw13_awake.f, Option.bind_some]
    exact Ends.pos (by simp) (Ends.ret _)
  refine Ends.neg (by simp) ?_
  by_cases c1 : x < 0
  · exact Ends.pos c1 skip
  · refine Ends.neg c1 ?_
    by_cases c2 : x > tot13 l
    · rw [show decide (x > tot13 l) = true from decide_eq_true c2]; exact skip
    · rw [show decide (x > tot13 l) = false from decide_eq_false c2]
      refine Ends.succ ?_
      have e1 : partOf13 l 0 x = (nrm (((sem l).take x.toNat).drop (0 : Int).toNat), 0) := by unfold partOf13; rw [if_pos h, if_neg (by omega)]
      have e2 : partOf13 l x (tot13 l) = (nrm (((sem l).take (tot13 l).toNat).drop x.toNat), 0) := by unfold partOf13; rw [if_pos h, if_neg (by omega)]
      have e3 : normOf l = (nrm (sem l), 0) := by unfold normOf; rw [if_pos h]
      have hl := nrm_few h
      have hl2 := (check13_zero h).1
      simp only [papermilllaw13_IsoHalves.j2, iso_Part.f, iso_Join.f, iso_Norm.f, papermilllaw13_awake.f, Option.bind_some, e1, e2, halves h x (by omega) (by omega), e3]
      exact Ends.neg (by simp) (Ends.pos (by simp) (Ends.pos (by simp) (Ends.pos (by simp) (Ends.pos (by simp) (Ends.bind (rsame13_ends _ (by omega)) (Ends.pos (by simp) (Ends.ret _)))))))
theorem IsoHalves : ∀ (l0 : List (S32)) (a1 : Int), (l0.length ≤ maxLen ∧ ∀ x ∈ l0, wf_32 x) → (Lit.int .i64 a1).wf = true → ∃ k, papermilllaw13_IsoHalves.f k l0 a1 = some true := by
  intro l x _ _
  suffices h : Ends (fun j => papermilllaw13_IsoHalves.f j l x) true from h.get
  have skip : Ends (fun k => papermilllaw13_IsoHalves.j0 k l x true) true := by
    refine Ends.succ ?_
    simp only [papermilllaw13_IsoHalves.j0, papermilllaw13_awake.f, Option.bind_some]
    exact Ends.pos (by simp) (Ends.ret _)
  unfold papermilllaw13_IsoHalves.f
  simp only [papermilllaw13_great.f, Option.bind_some]
  by_cases hg : (l.length : Int) > 300
  · exact Ends.pos (by simpa using hg) skip
  refine Ends.neg (by simpa using hg) (Ends.bind (icheck_ends l) ?_)
  by_cases h : check13 l = 0
  · rw [show (check13 l != 0) = false by simpa using h]
    exact halves_j0 l x h
  · rw [show (check13 l != 0) = true by simpa using h]
    exact skip
end Go.Proofs.Ytcnkmdonbpgjiaa.G

namespace Go.Proofs.Ytcnkmdonbpgjiaa.isoHalves
open Go.ChangeShapes Go.WideShapes Go.ChangeAt Go.RowKit Go.Proofs.YtcnkmdonbpgjiaaW.PrintWords Go.Proofs.YtcnkmdonbpgjiaaW.PrintLast Go.Proofs.Ytcnkmdonbpgjiaa.G
open Go.ChangeMaps (open_string shut_string)
set_option linter.unusedVariables false
set_option linter.unusedSimpArgs false
theorem own : ownKnob Try.prog.godebug = none := by kernel_rfl
theorem laidOut : laidOutB Try.prog = true := by kernel_rfl
set_option maxRecDepth 100000 in
theorem lifted (os : Os) (started : os.Started) (H : Type) (enc : TypeId × Value → H) :
    ReturnsInHanded {} Try.checked os 11 .any (Rows.isoHalvesSpec.pre6 enc Try.prog Try.f11 Rows.isoHalvesRow.domain false) (Rows.isoHalvesSpec.post enc Try.prog Try.f11 false true false false) := by
  refine returnsInHanded_of_change_sized (C := Try.checked) own started (by kernel_rfl) Try.func11
    (ChangeSpec.witness6 (enc := enc) (C := Try.checked) false ⟨#[], #[.slice none 0 0, .int .i64 0], []⟩ 8 (by kernel_rfl) (by kernel_rfl) (by kernel_rfl) (by kernel_rfl)) ?_
  intro W base args ds gs before hval0 hW hcnd hsz0 _
  have hval : ∀ (j : Nat) t v, Try.f11.params[j]? = some t → args[j]? = some v → Value.okWide Try.prog W .any base t v := hval0
  have hW' := hW
  obtain ⟨p, q, hA0, hV, rfl, hfz, hnd⟩ := hW
  have hA : DataW.TrodAll enc Try.prog W 0 (fun _ => true) true Try.f11.params.toList args.toList ds p := hA0
  rw [Try.params11] at hA hval
  obtain ⟨v0, vs0, d0, ds0, p0, q0, hargs, rfl, rfl, h0, r0⟩ := trodAll_cons hA
  obtain ⟨v1, vs1, d1, ds1, p1, q1, rfl, rfl, rfl, h1, r1⟩ := trodAll_cons r0
  obtain ⟨rfl, rfl, rfl⟩ := trodAll_nil r1
  obtain rfl : args = #[v0, v1] := by cases args; simp_all
  obtain ⟨rfl, rfl⟩ := trodVars_none hV
  have k0 := h0
  have lt0 : ∀ x ∈ p0, x.block < W.heap.size := by obtain ⟨m, hm⟩ := k0; exact DataW.trod_lt m _ _ _ hm
  obtain ⟨a0, len0, cap0, rfl⟩ := okWide_slice Try.underlying22 (hval 0 22 v0 rfl rfl)
  obtain ⟨l0, ⟨A0, c0, hcs0, hlc0, hC0⟩, hw0⟩ : ∃ l, ((Kd.slice 32 k32)).K W l [.slice a0 len0 cap0] ∧ (l.length ≤ maxLen ∧ ∀ x ∈ l, wf_32 x) := by
    obtain ⟨fuel, hf⟩ := k0
    exact (Opens.slice Try.underlying22 (by kernel_rfl) opens_32) enc W fuel _ _ hf
  simp only [List.cons.injEq, and_true, Value.slice.injEq] at hcs0
  obtain ⟨rfl, rfl, rfl⟩ := hcs0
  have k1 := h1
  have lt1 : ∀ x ∈ p1, x.block < W.heap.size := by obtain ⟨m, hm⟩ := k1; exact DataW.trod_lt m _ _ _ hm
  obtain ⟨a1, rfl, rfl, rfl, hw1⟩ := open_int Try.underlying3 (hval 1 3 v1 rfl rfl) h1
  clear hA0 hval0 hsz0
  obtain ⟨k, hk⟩ := IsoHalves l0 a1 hw0 hw1
  refine (papermilllaw13_IsoHalves.calls k _ _ l0 a1 true W hC0 hlc0 hk).mono fun e W' he => ?_
  obtain ⟨he, bel⟩ := he
  subst he
  exact ⟨_, rfl, _, _, _, [], _, [], hW', trodAll_mk1 (shut_bool Try.underlying4 _), (trodAll_cons_mk (Below.trod laidOut (by kernel_rfl) (of_decide_eq_true (by kernel_rfl)) k0 bel lt0) (trodAll_cons_mk (Below.trod laidOut (by kernel_rfl) (of_decide_eq_true (by kernel_rfl)) k1 bel lt1) trodAll_mk0)), rfl, bel.frame _, fun h => by cases h⟩
theorem over : Rows.isoHalvesRow.holds Try.pinned (OpenSpec.ofChange Rows.isoHalvesSpec) :=
  OpenClaim.holds_of_wide 11 Try.f11 rfl rfl rfl rfl rfl rfl rfl ⟨rfl, rfl, rfl, rfl, rfl⟩ rfl rfl rfl rfl rfl (by kernel_rfl) Try.func11 (by kernel_rfl)
    (of_decide_eq_true (by kernel_rfl)) (by unfold Func.isWrapper; first | (rw [if_pos (by decide +kernel)]; kernel_rfl) | (rw [if_neg (by decide +kernel)]; exact ⟨rfl, rfl⟩))
    (fun os started H enc _ => lifted os started H enc)
theorem proved : Rows.IsoHalvesSaid := over
#print axioms proved
end Go.Proofs.Ytcnkmdonbpgjiaa.isoHalves
namespace Go.Proofs.Ytcnkmdonbpgjiaa
theorem isoHalves_holds : Rows.IsoHalvesSaid := isoHalves.proved
end Go.Proofs.Ytcnkmdonbpgjiaa
