/- The law IsoSingles: whatever it is handed, it returns true, and what it is handed reads as before. No conditions. -/
import Derived.Test.YtcnkmdonbpgjiaaS6
import Derived.Test.YtcnkmdonbpgjiaaQ5
import Derived.Test.YtcnkmdonbpgjiaaS7
import Derived.Test.YtcnkmdonbpgjiaaRows
import Derived.WalkKit
import Derived.ProofKit
import Derived.OpenShut
import Derived.ShutString
import Derived.ChangeOld
import Derived.Below
import Derived.SizedLaws
namespace Go.Proofs.Ytcnkmdonbpgjiaa.G
open Go.RowKit Go.Proofs.YtcnkmdonbpgjiaaW.PrintWords Go.Proofs.YtcnkmdonbpgjiaaW.PrintLast Go.Proofs.YtcnkmdonbpgjiaaW.PrintMore
set_option linter.unusedVariables false
set_option linter.unusedSimpArgs false
theorem singles_j1 (l : List S32) (x : Int) (h : check13 l = 0) : Ends (fun k => papermilllaw13_IsoSingles.j1 k l x (tot13 l) (joinOf (l.map imgS)) (tot (joinOf (l.map imgS))) false) true := by
  obtain ⟨hl, hg, ht⟩ := check13_zero h
  have hsl := sem_len l (fun r hr => by have := fit_of (hg r hr); unfold fitR at this; omega)
  refine Ends.succ ?_
  simp only [papermilllaw13_IsoSingles.j1, papermilllaw13_at.f, iso_At.f, Option.bind_some]
  refine Ends.neg (by simp) ?_
  by_cases hx : x < 0 ∨ x ≥ tot13 l
  · have e : atOf13 l x = (0, 1) := by unfold atOf13; rw [if_pos h, if_pos hx]
    simp only [e, if_neg (show ¬ ((1 : Int) = 0) by omega), Option.bind_some]
    refine Ends.pos (by omega) (Ends.succ ?_)
    simp only [papermilllaw13_IsoSingles.j2, papermilllaw13_awake.f, Option.bind_some]
    refine Ends.pos (by simp) ?_
    by_cases h0 : x < 0
    · exact Ends.pos h0 (Ends.ret _)
    · exact Ends.neg h0 (Ends.pos (by omega) (Ends.ret _))
  · obtain ⟨y, hy⟩ : ∃ y, (sem l)[x.toNat]? = some y := ⟨_, List.getElem?_eq_getElem (by omega)⟩
    have e : atOf13 l x = (y, 0) := by
      unfold atOf13
      rw [if_pos h, if_neg hx, List.getD_eq_getElem?_getD, hy]
      rfl
    have hmem : y ∈ sem l := List.mem_of_getElem? hy
    have hfit := sem_fit hg y hmem
    simp only [e, if_true, Option.bind_some]
    refine Ends.neg (by omega) ?_
    rw [show decide (y ≥ 17179869184) = false from decide_eq_false (by omega)]
    refine Ends.succ ?_
    simp only [papermilllaw13_IsoSingles.j2]
    have ew : wrap64 (y + 1) = y + 1 := by unfold wrap64; omega
    have ewx : wrap64 (x + 1) = x + 1 := by unfold wrap64; omega
    rw [ew]
    have hc := find_check h y (y + 1)
    have ef : find13 l y (y + 1) = (joinOf (findL 0 y (y + 1) l), 0) := by
      unfold find13
      rw [if_pos h, if_neg (by omega), norm_fits hc]
    obtain ⟨c1, c2, c3, c4⟩ := join_twice hc
    obtain ⟨i1, i2, i3, i4⟩ := join_twice (images_check h)
    have hF : ∀ q, Mem (joinOf (findL 0 y (y + 1) l)) q ↔ 0 ≤ q ∧ (sem l)[q.toNat]? = some y := fun q => by
      rw [c4, mem_findL l 0 y q hg, Int.sub_zero]
    have h1 : hasOf (joinOf (findL 0 y (y + 1) l)) x = true := (hasOf_iff _ _).mpr ((hF x).mpr ⟨by omega, hy⟩)
    have h2 : hasOf (joinOf (l.map imgS)) y = true := (hasOf_iff _ _).mpr ((i4 y).mpr ((mem_images hg y).mpr hmem))
    have n1 := (good04 c1).1
    have n2 := (good04 i1).1
    refine Ends.neg (by simp) (Ends.bind (ifind_ends l y (y + 1)) ?_)
    rw [ef]
    refine Ends.pos rfl ?_
    simp only [span_Has.f, if_pos (show (joinOf (findL 0 y (y + 1) l)).length ≤ 1000000 by omega), if_pos (show (joinOf (l.map imgS)).length ≤ 1000000 by omega), Option.bind_some, h1, h2]
    refine Ends.pos (by simp) (Ends.succ ?_)
    simp only [papermilllaw13_IsoSingles.j3, papermilllaw13_awake.f, Option.bind_some, ewx]
    refine Ends.neg (by simp) ?_
    by_cases he : tot (joinOf (l.map imgS)) = tot13 l
    · have eJ : joinOf (findL 0 y (y + 1) l) = [⟨x, x + 1⟩] := by
        refine sep_unique c3 (show sep (-1) [(⟨x, x + 1⟩ : S37)] from ⟨by dsimp only; omega, by dsimp only; omega, trivial⟩) (fun q => ?_)
        rw [hF]
        constructor
        · rintro ⟨h3, h4⟩
          have := images_once h he q.toNat x.toNat y h4 hy
          exact ⟨_, List.mem_singleton.mpr rfl, by dsimp only; omega, by dsimp only; omega⟩
        · rintro ⟨s, hs, h3, h4⟩
          rw [List.mem_singleton] at hs
          subst hs
          dsimp only at h3 h4
          have : q = x := by omega
          subst this
          exact ⟨by omega, hy⟩
      rw [eJ]
      exact Ends.pos he (Ends.bind (same_ends _ (by simp)) (Ends.pos rfl (Ends.ret _)))
    · exact Ends.neg he (Ends.ret _)
theorem single_bad {l : List S32} (h : ¬ check13 l = 0) : single13 l = false := by
  have : (image13 l).2 = check13 l := by unfold image13; rw [if_neg h]
  unfold single13
  rw [this, if_neg h]
theorem singles_j0 (l : List S32) (x : Int) (z : Bool) (hz : z = false → check13 l = 0) (hz2 : z = true → l.length > 300 ∨ ¬ check13 l = 0) : Ends (fun k => papermilllaw13_IsoSingles.j0 k l x z) true := by
  refine Ends.succ ?_
  simp only [papermilllaw13_IsoSingles.j0, papermilllaw13_great.f, papermilllaw13_awake.f, Option.bind_some]
  cases z with
  | true =>
    refine Ends.pos rfl ?_
    by_cases hg : (l.length : Int) > 300
    · exact Ends.pos (by simpa using hg) (Ends.ret _)
    · refine Ends.neg (by simpa using hg) ?_
      have hc : ¬ check13 l = 0 := by rcases hz2 rfl with h | h; (· omega); exact h
      exact Ends.bind ((isingle_ends l).congr (single_bad hc)) (Ends.neg (by simp) (Ends.ret _))
  | false =>
    have h := hz rfl
    obtain ⟨hl, hg, ht⟩ := check13_zero h
    have hfew := images_few h
    have hj := singles_j1 l x h
    refine Ends.neg (by simp) (Ends.bind ((iLen_ends l).congr (if_pos h)) (Ends.bind (iimage_ends l) ?_))
    rw [image_is13 h]
    refine Ends.bind (total_ends _) ?_
    rw [total_is13 h]
    refine Ends.pos rfl (Ends.pos rfl (Ends.pos rfl (Ends.bind ((isingle_ends l).congr (single_is13 h)) (Ends.neg (by simp) ?_))))
    dsimp only
    rw [show decide (tot (joinOf (l.map imgS)) > tot13 l) = false from decide_eq_false (by omega)]
    exact hj
theorem IsoSingles : ∀ (l0 : List (S32)) (a1 : Int), (l0.length ≤ maxLen ∧ ∀ x ∈ l0, wf_32 x) → (Lit.int .i64 a1).wf = true → ∃ k, papermilllaw13_IsoSingles.f k l0 a1 = some true := by
  intro l x _ _
  suffices h : Ends (fun j => papermilllaw13_IsoSingles.f j l x) true from h.get
  unfold papermilllaw13_IsoSingles.f
  simp only [papermilllaw13_great.f, Option.bind_some]
  by_cases hg : (l.length : Int) > 300
  · exact Ends.pos (by simpa using hg) (singles_j0 l x true (by simp) (fun _ => .inl (by omega)))
  · refine Ends.neg (by simpa using hg) (Ends.bind (icheck_ends l) (singles_j0 l x _ (by simp) (fun hh => .inr (by simpa using hh))))
end Go.Proofs.Ytcnkmdonbpgjiaa.G

namespace Go.Proofs.Ytcnkmdonbpgjiaa.isoSingles
open Go.ChangeShapes Go.WideShapes Go.ChangeAt Go.RowKit Go.Proofs.YtcnkmdonbpgjiaaW.PrintWords Go.Proofs.YtcnkmdonbpgjiaaW.PrintLast Go.Proofs.Ytcnkmdonbpgjiaa.G
open Go.ChangeMaps (open_string shut_string)
set_option linter.unusedVariables false
set_option linter.unusedSimpArgs false
theorem own : ownKnob Try.prog.godebug = none := by kernel_rfl
theorem laidOut : laidOutB Try.prog = true := by kernel_rfl
set_option maxRecDepth 100000 in
theorem lifted (os : Os) (started : os.Started) (H : Type) (enc : TypeId × Value → H) :
    ReturnsInHanded {} Try.checked os 8 .any (Rows.isoSinglesSpec.pre6 enc Try.prog Try.f8 Rows.isoSinglesRow.domain false) (Rows.isoSinglesSpec.post enc Try.prog Try.f8 false true false false) := by
  refine returnsInHanded_of_change_sized (C := Try.checked) own started (by kernel_rfl) Try.func8
    (ChangeSpec.witness6 (enc := enc) (C := Try.checked) false ⟨#[], #[.slice none 0 0, .int .i64 0], []⟩ 8 (by kernel_rfl) (by kernel_rfl) (by kernel_rfl) (by kernel_rfl)) ?_
  intro W base args ds gs before hval0 hW hcnd hsz0 _
  have hval : ∀ (j : Nat) t v, Try.f8.params[j]? = some t → args[j]? = some v → Value.okWide Try.prog W .any base t v := hval0
  have hW' := hW
  obtain ⟨p, q, hA0, hV, rfl, hfz, hnd⟩ := hW
  have hA : DataW.TrodAll enc Try.prog W 0 (fun _ => true) true Try.f8.params.toList args.toList ds p := hA0
  rw [Try.params8] at hA hval
  obtain ⟨v0, vs0, d0, ds0, p0, q0, hargs, rfl, rfl, h0, r0⟩ := trodAll_cons hA
  obtain ⟨v1, vs1, d1, ds1, p1, q1, rfl, rfl, rfl, h1, r1⟩ := trodAll_cons r0
  obtain ⟨rfl, rfl, rfl⟩ := trodAll_nil r1
  obtain rfl : args = #[v0, v1] := by cases args; simp_all
  obtain ⟨rfl, rfl⟩ := trodVars_none hV
  have k0 := h0
  have lt0 : ∀ x ∈ p0, x.block < W.heap.size := by obtain ⟨m, hm⟩ := k0; exact DataW.trod_lt m _ _ _ hm
  obtain ⟨a0, len0, cap0, rfl⟩ := okWide_slice Try.underlying22 (hval 0 22 v0 rfl rfl)
  obtain ⟨l0, ⟨A0, c0, hcs0, hlc0, hC0⟩, hw0⟩ : ∃ l, ((Kd.slice 32 k32)).K W l [.slice a0 len0 cap0] ∧ (l.length ≤ maxLen ∧ ∀ x ∈ l, wf_32 x) := by
    obtain ⟨fuel, hf⟩ := k0
    exact (Opens.slice Try.underlying22 (by kernel_rfl) opens_32) enc W fuel _ _ hf
  simp only [List.cons.injEq, and_true, Value.slice.injEq] at hcs0
  obtain ⟨rfl, rfl, rfl⟩ := hcs0
  have k1 := h1
  have lt1 : ∀ x ∈ p1, x.block < W.heap.size := by obtain ⟨m, hm⟩ := k1; exact DataW.trod_lt m _ _ _ hm
  obtain ⟨a1, rfl, rfl, rfl, hw1⟩ := open_int Try.underlying3 (hval 1 3 v1 rfl rfl) h1
  clear hA0 hval0 hsz0
  obtain ⟨k, hk⟩ := IsoSingles l0 a1 hw0 hw1
  refine (papermilllaw13_IsoSingles.calls k _ _ l0 a1 true W hC0 hlc0 hk).mono fun e W' he => ?_
  obtain ⟨he, bel⟩ := he
  subst he
  exact ⟨_, rfl, _, _, _, [], _, [], hW', trodAll_mk1 (shut_bool Try.underlying4 _), (trodAll_cons_mk (Below.trod laidOut (by kernel_rfl) (of_decide_eq_true (by kernel_rfl)) k0 bel lt0) (trodAll_cons_mk (Below.trod laidOut (by kernel_rfl) (of_decide_eq_true (by kernel_rfl)) k1 bel lt1) trodAll_mk0)), rfl, bel.frame _, fun h => by cases h⟩
theorem over : Rows.isoSinglesRow.holds Try.pinned (OpenSpec.ofChange Rows.isoSinglesSpec) :=
  OpenClaim.holds_of_wide 8 Try.f8 rfl rfl rfl rfl rfl rfl rfl ⟨rfl, rfl, rfl, rfl, rfl⟩ rfl rfl rfl rfl rfl (by kernel_rfl) Try.func8 (by kernel_rfl)
    (of_decide_eq_true (by kernel_rfl)) (by unfold Func.isWrapper; first | (rw [if_pos (by decide +kernel)]; kernel_rfl) | (rw [if_neg (by decide +kernel)]; exact ⟨rfl, rfl⟩))
    (fun os started H enc _ => lifted os started H enc)
theorem proved : Rows.IsoSinglesSaid := over
#print axioms proved
end Go.Proofs.Ytcnkmdonbpgjiaa.isoSingles
namespace Go.Proofs.Ytcnkmdonbpgjiaa
theorem isoSingles_holds : Rows.IsoSinglesSaid := isoSingles.proved
end Go.Proofs.Ytcnkmdonbpgjiaa
