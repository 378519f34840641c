/- The law IsoImages: whatever it is handed, it returns true, and what it is handed reads as before. No conditions. -/
import Derived.Test.YtcnkmdonbpgjiaaI7
import Derived.Test.YtcnkmdonbpgjiaaQ5
import Derived.Test.YtcnkmdonbpgjiaaRows
import Derived.WalkKit
import Derived.ProofKit
import Derived.OpenShut
import Derived.ShutString
import Derived.ChangeOld
import Derived.Below
import Derived.SizedLaws
namespace Go.Proofs.Ytcnkmdonbpgjiaa.G
open Go.RowKit Go.Proofs.YtcnkmdonbpgjiaaW.PrintWords Go.Proofs.YtcnkmdonbpgjiaaW.PrintLast Go.Proofs.YtcnkmdonbpgjiaaW.PrintMore
set_option linter.unusedVariables false
set_option linter.unusedSimpArgs false
theorem iLen4_ends (l : List S32) : Ends (fun k => iso_Length.f k l) (if check13 l = 0 then (tot13 l, 0) else (0, check13 l)) := by
 unfold iso_Length.f
 refine Ends.bind (icheck_ends l) ?_
 by_cases h : check13 l = 0
 ·rw [if_pos h]
  obtain ⟨hl, hg, _⟩ := check13_zero h
  exact Ends.pos h (Ends.bind (ilength_ends l (by omega) (fun r hr => by have := fit_of (hg r hr); unfold fitR at this; omega)) (Ends.ret _))
 ·rw [if_neg h]
  exact Ends.neg h (Ends.ret _)
theorem rLen4_ends (l : List S32) : Ends (fun k => papermillref13_Length.f k l) (if check13 l = 0 then (tot13 l, 0) else (0, check13 l)) := by
 unfold papermillref13_Length.f
 refine Ends.bind (rcheck_ends l) ?_
 by_cases h : check13 l = 0
 ·obtain ⟨hl, hg, _⟩ := check13_zero h
  rw [if_pos h]
  exact Ends.pos h (Ends.bind (rlength_ends l (by omega) (fun r hr => by have := fit_of (hg r hr); unfold fitR at this; omega)) (Ends.ret _))
 ·rw [if_neg h]
  exact Ends.neg h (Ends.ret _)
theorem rnorm4_ends (l : List S32) : Ends (fun k => papermillref13_Norm.f k l) (normOf l) := by
 unfold papermillref13_Norm.f normOf
 refine Ends.bind (rcheck_ends l) ?_
 by_cases h : check13 l = 0
 ·obtain ⟨hl, hg, ht⟩ := check13_zero h
  rw [if_pos h]
  exact Ends.pos h (Ends.bind (rall_ends l (by omega) hg ht) (Ends.ret _))
 ·rw [if_neg h]
  exact Ends.neg h (Ends.ret _)
theorem rat4_ends (l : List S32) (x : Int) (hx : -9223372036854775808 ≤ x ∧ x ≤ 9223372036854775807) : Ends (fun k => papermillref13_At.f k l x) (atOf13 l x) := by
 by_cases h : check13 l = 0
 ·by_cases h0 : x < 0 ∨ x ≥ tot13 l
  ·obtain ⟨hl, hg, ht⟩ := check13_zero h
   have hf : ∀ r ∈ l, 0 ≤ r.f1 ∧ r.f1 ≤ 17179869184 := fun r hr => by have := fit_of (hg r hr); unfold fitR at this; omega
   have e : atOf13 l x = (0, 1) := by unfold atOf13; rw [if_pos h, if_pos h0]
   rw [e]
   have hp : Ends (fun k => papermillref13_place.f k l x) (-1, 0) := by
    by_cases hx0 : x < 0
    ·unfold papermillref13_place.f
     refine Ends.succ ?_
     simp only [papermillref13_place.l0]
     by_cases hz : l = []
     ·subst hz
      refine Ends.neg (by simp) (Ends.succ ?_)
      simp only [papermillref13_place.j1]
      exact Ends.neg (by simp) (Ends.ret _)
     ·have hz1 : 0 < l.length := List.length_pos_iff.mpr hz
      refine Ends.pos (by omega) (Ends.succ ?_)
      simp only [papermillref13_place.j1]
      exact Ends.neg (by simp; omega) (Ends.ret _)
    ·have := rplace_ends l hl hf x (by omega) (by omega)
     rwa [place_none l 0 x (by omega) (fun r hr => (hf r hr).1)] at this
   unfold papermillref13_At.f
   exact Ends.bind (rcheck_ends l) (Ends.pos h (Ends.bind hp (Ends.pos (by simp) (Ends.ret _))))
  ·exact rat_ends l h x (by omega) (by omega)
 ·have e : atOf13 l x = (0, check13 l) := by unfold atOf13; rw [if_neg h]
  rw [e]
  unfold papermillref13_At.f
  exact Ends.bind (rcheck_ends l) (Ends.neg h (Ends.ret _))
theorem norm_lim (l : List S32) : (normOf l).1.length ≤ 256 := by
 unfold normOf
 by_cases h : check13 l = 0
 ·rw [if_pos h]
  have := nrm_few h
  have := (check13_zero h).1
  dsimp only
  omega
 ·rw [if_neg h]; simp
theorem both_lim (a b : List S37) (w : Int) : (bothOf a b w).1.length ≤ 256 := by
 unfold bothOf
 split
 ·split
  ·split
   ·simp
   ·dsimp only; omega
  ·simp
 ·simp
theorem image_lim (l : List S32) : (image13 l).1.length ≤ 256 := by
 unfold image13
 split
 ·exact both_lim _ _ _
 ·simp
theorem find_lim (l : List S32) (a b : Int) : (find13 l a b).1.length ≤ 256 := by
 unfold find13
 split
 ·split
  ·simp
  ·exact both_lim _ _ _
 ·simp
theorem wf_in {x : Int} (h : (Lit.int .i64 x).wf = true) : -9223372036854775808 ≤ x ∧ x ≤ 9223372036854775807 := by
 simp [Lit.wf, IntKind.min, IntKind.max, IntKind.signed, IntKind.bits] at h
 omega
theorem images_j0 (l : List S32) (a b : Int) : Ends (fun k => papermilllaw13_IsoImages.j0 k l false a b) true := by
 refine Ends.succ ?_
 simp only [papermilllaw13_IsoImages.j0, papermilllaw13_awake.f, iso_Find.f, papermillref13_Find.f, Option.bind_some]
 refine Ends.neg (by simp) (Ends.bind (iimage_ends l) (Ends.bind (rimage_ends l) ?_))
 refine Ends.bind (same_ends _ (by have := image_lim l; omega)) (Ends.pos (by first | trivial | rfl) (Ends.pos (by first | trivial | rfl) ?_))
 exact Ends.bind (same_ends _ (by have := find_lim l a b; omega)) (Ends.pos (by first | trivial | rfl) (Ends.pos (by first | trivial | rfl) (Ends.ret _)))
theorem IsoImages : ∀ (l0 : List (S32)) (a1 : Int) (a2_0 : Int) (a2_1 : Int), (l0.length ≤ maxLen ∧ ∀ x ∈ l0, wf_32 x) → (Lit.int .i64 a1).wf = true → (Lit.int .i64 a2_0).wf = true → (Lit.int .i64 a2_1).wf = true → ∃ k, papermilllaw13_IsoImages.f k l0 a1 a2_0 a2_1 = some true := by
 intro l x a b _ hx _ _
 suffices h : Ends (fun k => papermilllaw13_IsoImages.f k l x a b) true from h.get
 unfold papermilllaw13_IsoImages.f
 simp only [papermilllaw13_great.f, papermilllaw13_awake.f, iso_At.f, iso_Norm.f, Option.bind_some]
 by_cases h : (l.length : Int) > 300
 ·exact Ends.pos (by simpa using h) (Ends.ret _)
 ·refine Ends.neg (by simpa using h) (Ends.bind (iLen4_ends l) (Ends.bind (rLen4_ends l) (Ends.bind (rat4_ends l x (wf_in hx)) (Ends.bind (rnorm4_ends l) ?_))))
  refine Ends.pos (by first | trivial | rfl) (Ends.pos (by first | trivial | rfl) (Ends.pos (by first | trivial | rfl) (Ends.pos (by first | trivial | rfl) (Ends.bind (rsame13_ends _ (by have := norm_lim l; omega)) (Ends.pos rfl ?_)))))
  simpa using images_j0 l a b
end Go.Proofs.Ytcnkmdonbpgjiaa.G

namespace Go.Proofs.Ytcnkmdonbpgjiaa.isoImages
open Go.ChangeShapes Go.WideShapes Go.ChangeAt Go.RowKit Go.Proofs.YtcnkmdonbpgjiaaW.PrintWords Go.Proofs.YtcnkmdonbpgjiaaW.PrintLast Go.Proofs.Ytcnkmdonbpgjiaa.G
open Go.ChangeMaps (open_string shut_string)
set_option linter.unusedVariables false
set_option linter.unusedSimpArgs false
theorem own : ownKnob Try.prog.godebug = none := by kernel_rfl
theorem laidOut : laidOutB Try.prog = true := by kernel_rfl
set_option maxRecDepth 100000 in
theorem lifted (os : Os) (started : os.Started) (H : Type) (enc : TypeId × Value → H) :
  ReturnsInHanded {} Try.checked os 7 .any (Rows.isoImagesSpec.pre6 enc Try.prog Try.f7 Rows.isoImagesRow.domain false) (Rows.isoImagesSpec.post enc Try.prog Try.f7 false true false false) := by
 refine returnsInHanded_of_change_sized (C := Try.checked) own started (by kernel_rfl) Try.func7
  (ChangeSpec.witness6 (enc := enc) (C := Try.checked) false ⟨#[], #[.slice none 0 0, .int .i64 0, .agg #[.int .i64 0, .int .i64 0]], []⟩ 8 (by kernel_rfl) (by kernel_rfl) (by kernel_rfl) (by kernel_rfl)) ?_
 intro W base args ds gs before hval0 hW hcnd hsz0 _
 have hval : ∀ (j : Nat) t v, Try.f7.params[j]? = some t → args[j]? = some v → Value.okWide Try.prog W .any base t v := hval0
 have hW' := hW
 obtain ⟨p, q, hA0, hV, rfl, hfz, hnd⟩ := hW
 have hA : DataW.TrodAll enc Try.prog W 0 (fun _ => true) true Try.f7.params.toList args.toList ds p := hA0
 rw [Try.params7] at hA hval
 obtain ⟨v0, vs0, d0, ds0, p0, q0, hargs, rfl, rfl, h0, r0⟩ := trodAll_cons hA
 obtain ⟨v1, vs1, d1, ds1, p1, q1, rfl, rfl, rfl, h1, r1⟩ := trodAll_cons r0
 obtain ⟨v2, vs2, d2, ds2, p2, q2, rfl, rfl, rfl, h2, r2⟩ := trodAll_cons r1
 obtain ⟨rfl, rfl, rfl⟩ := trodAll_nil r2
 obtain rfl : args = #[v0, v1, v2] := by cases args; simp_all
 obtain ⟨rfl, rfl⟩ := trodVars_none hV
 have k0 := h0
 have lt0 : ∀ x ∈ p0, x.block < W.heap.size := by obtain ⟨m, hm⟩ := k0; exact DataW.trod_lt m _ _ _ hm
 obtain ⟨a0, len0, cap0, rfl⟩ := okWide_slice Try.underlying22 (hval 0 22 v0 rfl rfl)
 obtain ⟨l0, ⟨A0, c0, hcs0, hlc0, hC0⟩, hw0⟩ : ∃ l, ((Kd.slice 32 k32)).K W l [.slice a0 len0 cap0] ∧ (l.length ≤ maxLen ∧ ∀ x ∈ l, wf_32 x) := by
  obtain ⟨fuel, hf⟩ := k0
  exact (Opens.slice Try.underlying22 (by kernel_rfl) opens_32) enc W fuel _ _ hf
 simp only [List.cons.injEq, and_true, Value.slice.injEq] at hcs0
 obtain ⟨rfl, rfl, rfl⟩ := hcs0
 have k1 := h1
 have lt1 : ∀ x ∈ p1, x.block < W.heap.size := by obtain ⟨m, hm⟩ := k1; exact DataW.trod_lt m _ _ _ hm
 obtain ⟨a1, rfl, rfl, rfl, hw1⟩ := open_int Try.underlying3 (hval 1 3 v1 rfl rfl) h1
 have k2 := h2
 have lt2 : ∀ x ∈ p2, x.block < W.heap.size := by obtain ⟨m, hm⟩ := k2; exact DataW.trod_lt m _ _ _ hm
 obtain ⟨cs2, rfl, _⟩ := okWide_struct Try.underlying37 (hval 2 37 v2 rfl rfl)
 obtain ⟨x2, hK2, hw2⟩ : ∃ x : S37, k37.K W x (Value.agg cs2).cells.toList ∧ wf_37 x := by
  obtain ⟨fuel, hf⟩ := k2
  exact opens_37 enc W fuel _ _ hf
 obtain ⟨a2_0, a2_1⟩ := x2
 have hcs2 := k37_open hK2
 obtain rfl : cs2 = #[.int .i64 a2_0, .int .i64 a2_1] := by obtain ⟨cs⟩ := cs2; simpa [Value.cells] using hcs2
 clear hA0 hval0 hsz0
 obtain ⟨k, hk⟩ := IsoImages l0 a1 a2_0 a2_1 hw0 hw1 hw2.1 hw2.2
 refine (papermilllaw13_IsoImages.calls k _ _ l0 a1 a2_0 a2_1 true W hC0 hlc0 hk).mono fun e W' he => ?_
 obtain ⟨he, bel⟩ := he
 subst he
 exact ⟨_, rfl, _, _, _, [], _, [], hW', trodAll_mk1 (shut_bool Try.underlying4 _), (trodAll_cons_mk (Below.trod laidOut (by kernel_rfl) (of_decide_eq_true (by kernel_rfl)) k0 bel lt0) (trodAll_cons_mk (Below.trod laidOut (by kernel_rfl) (of_decide_eq_true (by kernel_rfl)) k1 bel lt1) (trodAll_cons_mk (Below.trod laidOut (by kernel_rfl) (of_decide_eq_true (by kernel_rfl)) k2 bel lt2) trodAll_mk0))), rfl, bel.frame _, fun h => by cases h⟩
theorem over : Rows.isoImagesRow.holds Try.pinned (OpenSpec.ofChange Rows.isoImagesSpec) :=
 OpenClaim.holds_of_wide 7 Try.f7 rfl rfl rfl rfl rfl rfl rfl ⟨rfl, rfl, rfl, rfl, rfl⟩ rfl rfl rfl rfl rfl (by kernel_rfl) Try.func7 (by kernel_rfl)
  (of_decide_eq_true (by kernel_rfl)) (by unfold Func.isWrapper; first | (rw [if_pos (by decide +kernel)]; kernel_rfl) | (rw [if_neg (by decide +kernel)]; exact ⟨rfl, rfl⟩))
  (fun os started H enc _ => lifted os started H enc)
theorem proved : Rows.IsoImagesSaid := over
#print axioms proved
end Go.Proofs.Ytcnkmdonbpgjiaa.isoImages
namespace Go.Proofs.Ytcnkmdonbpgjiaa
theorem isoImages_holds : Rows.IsoImagesSaid := isoImages.proved
end Go.Proofs.Ytcnkmdonbpgjiaa
