/- The law SpliceMore: whatever it is handed, it returns true, and what it is handed reads as before. No conditions. -/
import Derived.Test.YtjkakgkiikjdmaaM5
import Derived.Test.YtjkakgkiikjdmaaQ3
import Derived.Test.YtjkakgkiikjdmaaQ4
import Derived.Test.YtjkakgkiikjdmaaRows
import Derived.WalkKit
import Derived.ProofKit
import Derived.OpenShut
import Derived.ShutString
import Derived.ChangeOld
import Derived.Below
import Derived.SizedLaws
namespace Go.Proofs.Ytjkakgkiikjdmaa.G
open Go.RowKit Go.Proofs.YtjkakgkiikjdmaaW.PrintWords Go.Proofs.YtjkakgkiikjdmaaW.PrintLast Go.Proofs.YtjkakgkiikjdmaaW.PrintMore
set_option linter.unusedVariables false
set_option linter.unusedSimpArgs false
theorem allow_is {m : List S56} {size most : Int} (h : check13 m = 0) (hs : 1 ≤ size ∧ size ≤ 17179869184) (hm : 0 ≤ most ∧ most ≤ 8) :
  (allowOf m size most).2 = 0 ∧ (allowOf m size most).1.length ≤ 1000 ∧ ∀ x, hasOf (allowOf m size most).1 x = true ↔ 0 ≤ x ∧ x < tot13 m - size + 1 ∧ (cnt40 (places (nrm (sem m))) x size : Int) ≤ most := by
 obtain ⟨h1, h2, h3⟩ := nrm_fit h
 obtain ⟨p1, p2⟩ := places_up (l := nrm (sem m)) (fun r hr => (h2 r hr).1)
 have p3 := places_len (nrm (sem m))
 have ht := (check13_zero h).2.2
 have hv : ∀ y ∈ places (nrm (sem m)), 0 ≤ y ∧ y ≤ 17179869184 := fun y hy => by have := p2 y hy; omega
 unfold allowOf
 rw [if_pos h, if_neg (by omega)]
 by_cases hl : tot13 m < size
 ·rw [if_pos hl]
  refine ⟨rfl, by simp, fun x => ?_⟩
  constructor
  ·intro hx; cases hx
  ·intro hx; omega
 ·rw [if_neg hl]
  have hf := allowL_few (places (nrm (sem m))) (tot13 m) size most p1 (by omega) (by omega) (by omega) hv
  have hb := badsGo_len (places (nrm (sem m))) size most.toNat ((places (nrm (sem m))).length - most.toNat) most.toNat
  refine ⟨rfl, ?_, fun x => ?_⟩
  ·unfold badsOf at hf
   dsimp only
   omega
  ·rw [hasOf_iff]
   exact (allowL_ok (places (nrm (sem m))) (tot13 m) size most p1 (by omega) (by omega) (by omega) hv).2 x
theorem allow_err {m : List S56} {size most : Int} (h : ¬ check13 m = 0) : allowOf m size most = ([], check13 m) := by unfold allowOf; rw [if_neg h]
theorem cnt_less (p : List Int) (x size : Int) : cnt40 p x (size - 1) ≤ cnt40 p x size := by
 unfold cnt40
 refine List.countP_mono_left (fun y _ hy => ?_)
 unfold inRoll at hy ⊢
 simp only [Bool.and_eq_true, decide_eq_true_eq] at hy ⊢
 omega
theorem more_j0 (m : List S56) (size a x : Int) (z : Bool) (hz : z = false → (2 ≤ size ∧ size ≤ 17179869184) ∧ 0 ≤ a ∧ a < 8) : Ends (fun k => papermilllaw40_SpliceMore.j0 k m size z a x) true := by
 refine Ends.succ ?_
 simp only [papermilllaw40_SpliceMore.j0, papermilllaw40_awake.f, Option.bind_some]
 cases z with
 | true => exact Ends.pos rfl (Ends.ret _)
 | false =>
  obtain ⟨hs, ha⟩ := hz rfl
  have w1 : wrap64 (a + 1) = a + 1 := by unfold wrap64; omega
  have w2 : wrap64 (size - 1) = size - 1 := by unfold wrap64; omega
  rw [w1, w2]
  refine Ends.neg (by simp) (Ends.bind (sallow_ends m size a) (Ends.bind (sallow_ends m size (a + 1)) (Ends.bind (sallow_ends m (size - 1) a) ?_)))
  by_cases h : check13 m = 0
  ·obtain ⟨a1, a2, a3⟩ := allow_is (most := a) h (show 1 ≤ size ∧ size ≤ 17179869184 by omega) (by omega)
   obtain ⟨b1, b2, b3⟩ := allow_is (most := a + 1) h (show 1 ≤ size ∧ size ≤ 17179869184 by omega) (by omega)
   obtain ⟨c1, c2, c3⟩ := allow_is (most := a) h (show 1 ≤ size - 1 ∧ size - 1 ≤ 17179869184 by omega) (by omega)
   refine Ends.pos a1 (Ends.pos b1 (Ends.succ ?_))
   simp only [papermilllaw40_SpliceMore.j1, papermilllaw40_awake.f, Option.bind_some, span_Has.f, if_pos (show (allowOf m size a).1.length ≤ 1000000 by omega), if_pos (show (allowOf m size (a + 1)).1.length ≤ 1000000 by omega), if_pos (show (allowOf m (size - 1) a).1.length ≤ 1000000 by omega)]
   refine Ends.neg (by simp [c1]) ?_
   by_cases hx : hasOf (allowOf m size a).1 x = true
   ·have h1 := (a3 x).mp hx
    have hc := cnt_less (places (nrm (sem m))) x size
    exact Ends.pos hx (Ends.pos ((b3 x).mpr (by omega)) (Ends.pos ((c3 x).mpr (by omega)) (Ends.ret _)))
   ·exact Ends.neg hx (Ends.ret _)
  ·rw [allow_err h, allow_err h, allow_err h]
   refine Ends.neg h (Ends.succ ?_)
   simp only [papermilllaw40_SpliceMore.j1, papermilllaw40_awake.f, Option.bind_some]
   exact Ends.pos (by first | trivial | (simp; done)) (Ends.pos (by first | trivial | rfl) (Ends.pos (by first | trivial | rfl) (Ends.ret _)))
theorem SpliceMore : ∀ (l0 : List (S56)) (a1 : Int) (a2_0 : Int) (a2_1 : Int), (l0.length ≤ maxLen ∧ ∀ x ∈ l0, wf_56 x) → (Lit.int .i64 a1).wf = true → (Lit.int .i64 a2_0).wf = true → (Lit.int .i64 a2_1).wf = true → ∃ k, papermilllaw40_SpliceMore.f k l0 a1 a2_0 a2_1 = some true := by
 intro m size a x _ _ _ _
 suffices h : Ends (fun k => papermilllaw40_SpliceMore.f k m size a x) true from h.get
 unfold papermilllaw40_SpliceMore.f
 by_cases h1 : (m.length : Int) > 80
 ·exact Ends.pos h1 (more_j0 m size a x true (by simp))
 ·refine Ends.neg h1 ?_
  by_cases h2 : size < 2
  ·exact Ends.pos h2 (more_j0 m size a x true (by simp))
  ·refine Ends.neg h2 ?_
   by_cases h3 : size > 17179869184
   ·exact Ends.pos h3 (more_j0 m size a x true (by simp))
   ·refine Ends.neg h3 ?_
    by_cases h4 : a < 0
    ·exact Ends.pos h4 (more_j0 m size a x true (by simp))
    ·exact Ends.neg h4 (more_j0 m size a x _ (fun hh => by have := of_decide_eq_false hh; omega))
end Go.Proofs.Ytjkakgkiikjdmaa.G

namespace Go.Proofs.Ytjkakgkiikjdmaa.spliceMore
open Go.ChangeShapes Go.WideShapes Go.ChangeAt Go.RowKit Go.Proofs.YtjkakgkiikjdmaaW.PrintWords Go.Proofs.YtjkakgkiikjdmaaW.PrintLast Go.Proofs.Ytjkakgkiikjdmaa.G
open Go.ChangeMaps (open_string shut_string)
set_option linter.unusedVariables false
set_option linter.unusedSimpArgs false
theorem own : ownKnob Try.prog.godebug = none := by kernel_rfl
theorem laidOut : laidOutB Try.prog = true := by kernel_rfl
set_option maxRecDepth 100000 in
theorem okWide_arr44 {W : World} {base : Nat} {v : Value} (h : Value.okWide Try.prog W .any base 44 v) : ∃ cs, v = .agg cs := by
 simp only [Value.okWide, Try.underlying44] at h
 obtain ⟨cs, h1, _⟩ := h
 exact ⟨cs, h1⟩
set_option maxRecDepth 100000 in
theorem opens_arr44 {H : Type} (enc : TypeId × Value → H) (W : World) (fuel : Nat) (cs : List Value) (x : DataW H × List MemPlace) (h : DataW.trod enc Try.prog W 0 (fun _ => true) true fuel 44 cs = some x) : ∃ v0 v1 : Int, cs = [.int .i64 v0, .int .i64 v1] ∧ (Lit.int .i64 v0).wf = true ∧ (Lit.int .i64 v1).wf = true := by
 obtain ⟨xs, n, rfl, rfl, hlen, hxl, hf⟩ := DataW.trod_array Try.underlying44 h
 have hc : Try.prog.cellsOf 44 = 2 := by kernel_rfl
 have hc1 : Try.prog.cellsOf 3 = 1 := by kernel_rfl
 rw [hc] at hlen
 rw [hc1] at hf
 match cs, hlen with
 | [c0, c1], _ =>
  match xs, hxl with
  | [y0, y1], _ =>
   obtain ⟨v0, q0, w0⟩ := (Opens.int Try.underlying3) enc W n [c0] y0 (hf 0 (by omega))
   cases q0
   obtain ⟨v1, q1, w1⟩ := (Opens.int Try.underlying3) enc W n [c1] y1 (hf 1 (by omega))
   cases q1
   exact ⟨v0, v1, rfl, w0, w1⟩
set_option maxRecDepth 100000 in
theorem lifted (os : Os) (started : os.Started) (H : Type) (enc : TypeId × Value → H) :
  ReturnsInHanded {} Try.checked os 7 .any (Rows.spliceMoreSpec.pre6 enc Try.prog Try.f7 Rows.spliceMoreRow.domain false) (Rows.spliceMoreSpec.post enc Try.prog Try.f7 false true false false) := by
 refine returnsInHanded_of_change_sized (C := Try.checked) own started (by kernel_rfl) Try.func7
  (ChangeSpec.witness6 (enc := enc) (C := Try.checked) false ⟨#[], #[.slice none 0 0, .int .i64 0, .agg #[.int .i64 0, .int .i64 0]], []⟩ 8 (by kernel_rfl) (by kernel_rfl) (by kernel_rfl) (by kernel_rfl)) ?_
 intro W base args ds gs before hval0 hW hcnd hsz0 _
 have hval : ∀ (j : Nat) t v, Try.f7.params[j]? = some t → args[j]? = some v → Value.okWide Try.prog W .any base t v := hval0
 have hW' := hW
 obtain ⟨p, q, hA0, hV, rfl, hfz, hnd⟩ := hW
 have hA : DataW.TrodAll enc Try.prog W 0 (fun _ => true) true Try.f7.params.toList args.toList ds p := hA0
 rw [Try.params7] at hA hval
 obtain ⟨v0, vs0, d0, ds0, p0, q0, hargs, rfl, rfl, h0, r0⟩ := trodAll_cons hA
 obtain ⟨v1, vs1, d1, ds1, p1, q1, rfl, rfl, rfl, h1, r1⟩ := trodAll_cons r0
 obtain ⟨v2, vs2, d2, ds2, p2, q2, rfl, rfl, rfl, h2, r2⟩ := trodAll_cons r1
 obtain ⟨rfl, rfl, rfl⟩ := trodAll_nil r2
 obtain rfl : args = #[v0, v1, v2] := by cases args; simp_all
 obtain ⟨rfl, rfl⟩ := trodVars_none hV
 have k0 := h0
 have lt0 : ∀ x ∈ p0, x.block < W.heap.size := by obtain ⟨m, hm⟩ := k0; exact DataW.trod_lt m _ _ _ hm
 obtain ⟨a0, len0, cap0, rfl⟩ := okWide_slice Try.underlying32 (hval 0 32 v0 rfl rfl)
 obtain ⟨l0, ⟨A0, c0, hcs0, hlc0, hC0⟩, hw0⟩ : ∃ l, ((Kd.slice 56 k56)).K W l [.slice a0 len0 cap0] ∧ (l.length ≤ maxLen ∧ ∀ x ∈ l, wf_56 x) := by
  obtain ⟨fuel, hf⟩ := k0
  exact (Opens.slice Try.underlying32 (by kernel_rfl) opens_56) enc W fuel _ _ hf
 simp only [List.cons.injEq, and_true, Value.slice.injEq] at hcs0
 obtain ⟨rfl, rfl, rfl⟩ := hcs0
 have k1 := h1
 have lt1 : ∀ x ∈ p1, x.block < W.heap.size := by obtain ⟨m, hm⟩ := k1; exact DataW.trod_lt m _ _ _ hm
 obtain ⟨a1, rfl, rfl, rfl, hw1⟩ := open_int Try.underlying3 (hval 1 3 v1 rfl rfl) h1
 have k2 := h2
 have lt2 : ∀ x ∈ p2, x.block < W.heap.size := by obtain ⟨m, hm⟩ := k2; exact DataW.trod_lt m _ _ _ hm
 obtain ⟨cs2, rfl⟩ := okWide_arr44 (hval 2 44 v2 rfl rfl)
 obtain ⟨a2_0, a2_1, hcs2, hw2⟩ : ∃ a2_0 a2_1 : Int, (Value.agg cs2).cells.toList = [.int .i64 a2_0, .int .i64 a2_1] ∧ (Lit.int .i64 a2_0).wf = true ∧ (Lit.int .i64 a2_1).wf = true := by
  obtain ⟨fuel, hf⟩ := k2
  exact opens_arr44 enc W fuel _ _ hf
 obtain rfl : cs2 = #[.int .i64 a2_0, .int .i64 a2_1] := by obtain ⟨cs⟩ := cs2; simpa [Value.cells] using hcs2
 clear hA0 hval0 hsz0
 obtain ⟨k, hk⟩ := SpliceMore l0 a1 a2_0 a2_1 hw0 hw1 hw2.1 hw2.2
 refine (papermilllaw40_SpliceMore.calls k _ _ l0 a1 a2_0 a2_1 true W hC0 hlc0 hk).mono fun e W' he => ?_
 obtain ⟨he, bel⟩ := he
 subst he
 exact ⟨_, rfl, _, _, _, [], _, [], hW', trodAll_mk1 (shut_bool Try.underlying4 _), (trodAll_cons_mk (Below.trod laidOut (by kernel_rfl) (of_decide_eq_true (by kernel_rfl)) k0 bel lt0) (trodAll_cons_mk (Below.trod laidOut (by kernel_rfl) (of_decide_eq_true (by kernel_rfl)) k1 bel lt1) (trodAll_cons_mk (Below.trod laidOut (by kernel_rfl) (of_decide_eq_true (by kernel_rfl)) k2 bel lt2) trodAll_mk0))), rfl, bel.frame _, fun h => by cases h⟩
theorem over : Rows.spliceMoreRow.holds Try.pinned (OpenSpec.ofChange Rows.spliceMoreSpec) :=
 OpenClaim.holds_of_wide 7 Try.f7 rfl rfl rfl rfl rfl rfl rfl ⟨rfl, rfl, rfl, rfl, rfl⟩ rfl rfl rfl rfl rfl (by kernel_rfl) Try.func7 (by kernel_rfl)
  (of_decide_eq_true (by kernel_rfl)) (by unfold Func.isWrapper; first | (rw [if_pos (by decide +kernel)]; kernel_rfl) | (rw [if_neg (by decide +kernel)]; exact ⟨rfl, rfl⟩))
  (fun os started H enc _ => lifted os started H enc)
theorem proved : Rows.SpliceMoreSaid := over
#print axioms proved
end Go.Proofs.Ytjkakgkiikjdmaa.spliceMore
namespace Go.Proofs.Ytjkakgkiikjdmaa
theorem spliceMore_holds : Rows.SpliceMoreSaid := spliceMore.proved
end Go.Proofs.Ytjkakgkiikjdmaa
