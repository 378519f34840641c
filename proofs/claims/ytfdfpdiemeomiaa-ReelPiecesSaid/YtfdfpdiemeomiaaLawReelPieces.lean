/- The law ReelPieces: whatever it is handed, it returns true, and what it is handed reads as before. No conditions. -/
import Derived.Test.YtfdfpdiemeomiaaRows
import Derived.Test.YtfdfpdiemeomiaaGxpapermilllaw34ReelPieces
import Derived.Test.YtfdfpdiemeomiaaGhOpen
import Derived.Test.YtfdfpdiemeomiaaPureReelPieces
import Derived.WalkKit
import Derived.ProofKit
import Derived.OpenShut
import Derived.ShutString
import Derived.ChangeOld
import Derived.Below
import Derived.SizedLaws
namespace Go.Proofs.Ytfdfpdiemeomiaa.reelPieces
open Go.ChangeShapes Go.WideShapes Go.ChangeAt Go.RowKit Go.Proofs.YtfdfpdiemeomiaaW.PrintWords Go.Proofs.YtfdfpdiemeomiaaW.PrintLast Go.Proofs.Ytfdfpdiemeomiaa.G
open Go.ChangeMaps (open_string shut_string)
set_option linter.unusedVariables false
set_option linter.unusedSimpArgs false
theorem own : ownKnob Try.prog.godebug = none := by kernel_rfl
theorem laidOut : laidOutB Try.prog = true := by kernel_rfl
set_option maxRecDepth 100000 in
theorem lifted (os : Os) (started : os.Started) (H : Type) (enc : TypeId × Value → H) :
    ReturnsInHanded {} Try.checked os 9 .any (Rows.reelPiecesSpec.pre6 enc Try.prog Try.f9 Rows.reelPiecesRow.domain false) (Rows.reelPiecesSpec.post enc Try.prog Try.f9 false true false false) := by
  refine returnsInHanded_of_change_sized (C := Try.checked) own started (by kernel_rfl) Try.func9
    (ChangeSpec.witness6 (enc := enc) (C := Try.checked) false ⟨#[], #[.slice none 0 0, .agg #[.int .i64 0, .int .i64 0], .agg #[.int .i64 0, .int .i64 0]], []⟩ 8 (by kernel_rfl) (by kernel_rfl) (by kernel_rfl) (by kernel_rfl)) ?_
  intro W base args ds gs before hval0 hW hcnd hsz0 _
  have hval : ∀ (j : Nat) t v, Try.f9.params[j]? = some t → args[j]? = some v → Value.okWide Try.prog W .any base t v := hval0
  have hW' := hW
  obtain ⟨p, q, hA0, hV, rfl, hfz, hnd⟩ := hW
  have hA : DataW.TrodAll enc Try.prog W 0 (fun _ => true) true Try.f9.params.toList args.toList ds p := hA0
  rw [Try.params9] at hA hval
  obtain ⟨v0, vs0, d0, ds0, p0, q0, hargs, rfl, rfl, h0, r0⟩ := trodAll_cons hA
  obtain ⟨v1, vs1, d1, ds1, p1, q1, rfl, rfl, rfl, h1, r1⟩ := trodAll_cons r0
  obtain ⟨v2, vs2, d2, ds2, p2, q2, rfl, rfl, rfl, h2, r2⟩ := trodAll_cons r1
  obtain ⟨rfl, rfl, rfl⟩ := trodAll_nil r2
  obtain rfl : args = #[v0, v1, v2] := by cases args; simp_all
  obtain ⟨rfl, rfl⟩ := trodVars_none hV
  have k0 := h0
  have lt0 : ∀ x ∈ p0, x.block < W.heap.size := by obtain ⟨m, hm⟩ := k0; exact DataW.trod_lt m _ _ _ hm
  obtain ⟨a0, len0, cap0, rfl⟩ := okWide_slice Try.underlying22 (hval 0 22 v0 rfl rfl)
  obtain ⟨l0, ⟨A0, c0, hcs0, hlc0, hC0⟩, hw0⟩ : ∃ l, ((Kd.slice 44 k44)).K W l [.slice a0 len0 cap0] ∧ (l.length ≤ maxLen ∧ ∀ x ∈ l, wf_44 x) := by
    obtain ⟨fuel, hf⟩ := k0
    exact (Opens.slice Try.underlying22 (by kernel_rfl) opens_44) enc W fuel _ _ hf
  simp only [List.cons.injEq, and_true, Value.slice.injEq] at hcs0
  obtain ⟨rfl, rfl, rfl⟩ := hcs0
  have k1 := h1
  have lt1 : ∀ x ∈ p1, x.block < W.heap.size := by obtain ⟨m, hm⟩ := k1; exact DataW.trod_lt m _ _ _ hm
  obtain ⟨cs1, rfl, _⟩ := okWide_struct Try.underlying36 (hval 1 36 v1 rfl rfl)
  obtain ⟨x1, hK1, hw1⟩ : ∃ x : S36, k36.K W x (Value.agg cs1).cells.toList ∧ wf_36 x := by
    obtain ⟨fuel, hf⟩ := k1
    exact opens_36 enc W fuel _ _ hf
  obtain ⟨a1_0, a1_1⟩ := x1
  have hcs1 := k36_open hK1
  obtain rfl : cs1 = #[.int .i64 a1_0, .int .i64 a1_1] := by obtain ⟨cs⟩ := cs1; simpa [Value.cells] using hcs1
  have k2 := h2
  have lt2 : ∀ x ∈ p2, x.block < W.heap.size := by obtain ⟨m, hm⟩ := k2; exact DataW.trod_lt m _ _ _ hm
  obtain ⟨cs2, rfl, _⟩ := okWide_struct Try.underlying36 (hval 2 36 v2 rfl rfl)
  obtain ⟨x2, hK2, hw2⟩ : ∃ x : S36, k36.K W x (Value.agg cs2).cells.toList ∧ wf_36 x := by
    obtain ⟨fuel, hf⟩ := k2
    exact opens_36 enc W fuel _ _ hf
  obtain ⟨a2_0, a2_1⟩ := x2
  have hcs2 := k36_open hK2
  obtain rfl : cs2 = #[.int .i64 a2_0, .int .i64 a2_1] := by obtain ⟨cs⟩ := cs2; simpa [Value.cells] using hcs2
  clear hA0 hval0 hsz0
  obtain ⟨k, hk⟩ := ReelPieces l0 a1_0 a1_1 a2_0 a2_1 hw0 hw1.1 hw1.2 hw2.1 hw2.2
  refine (papermilllaw34_ReelPieces.calls k _ _ l0 a1_0 a1_1 a2_0 a2_1 true W hC0 hlc0 hk).mono fun e W' he => ?_
  obtain ⟨he, bel⟩ := he
  subst he
  exact ⟨_, rfl, _, _, _, [], _, [], hW', trodAll_mk1 (shut_bool Try.underlying4 _), (trodAll_cons_mk (Below.trod laidOut (by kernel_rfl) (of_decide_eq_true (by kernel_rfl)) k0 bel lt0) (trodAll_cons_mk (Below.trod laidOut (by kernel_rfl) (of_decide_eq_true (by kernel_rfl)) k1 bel lt1) (trodAll_cons_mk (Below.trod laidOut (by kernel_rfl) (of_decide_eq_true (by kernel_rfl)) k2 bel lt2) trodAll_mk0))), rfl, bel.frame _, fun h => by cases h⟩
theorem over : Rows.reelPiecesRow.holds Try.pinned (OpenSpec.ofChange Rows.reelPiecesSpec) :=
  OpenClaim.holds_of_wide 9 Try.f9 rfl rfl rfl rfl rfl rfl rfl ⟨rfl, rfl, rfl, rfl, rfl⟩ rfl rfl rfl rfl rfl (by kernel_rfl) Try.func9 (by kernel_rfl)
    (of_decide_eq_true (by kernel_rfl)) (by unfold Func.isWrapper; first | (rw [if_pos (by decide +kernel)]; kernel_rfl) | (rw [if_neg (by decide +kernel)]; exact ⟨rfl, rfl⟩))
    (fun os started H enc _ => lifted os started H enc)
theorem proved : Rows.ReelPiecesSaid := over
#print axioms proved
end Go.Proofs.Ytfdfpdiemeomiaa.reelPieces
namespace Go.Proofs.Ytfdfpdiemeomiaa
/-- The row, under a short name, for the claim. -/
theorem reelPieces_holds : Rows.ReelPiecesSaid := reelPieces.proved
end Go.Proofs.Ytfdfpdiemeomiaa
