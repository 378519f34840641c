/- The law SheetGoods: whatever it is handed, it returns true, and what it is handed reads as before. No conditions. -/
import Derived.Test.YtnfcpcgbdoiiiaaR7
import Derived.Test.YtnfcpcgbdoiiiaaQ5
import Derived.Test.YtnfcpcgbdoiiiaaRows
import Derived.WalkKit
import Derived.ProofKit
import Derived.OpenShut
import Derived.ShutString
import Derived.ChangeOld
import Derived.Below
import Derived.SizedLaws
namespace Go.Proofs.Ytnfcpcgbdoiiiaa.G
open Go.RowKit Go.Proofs.YtnfcpcgbdoiiiaaW.PrintWords Go.Proofs.YtnfcpcgbdoiiiaaW.PrintLast Go.Proofs.YtnfcpcgbdoiiiaaW.PrintMore
set_option linter.unusedVariables false
set_option linter.unusedSimpArgs false

theorem SheetGoods : ∀ (a0_0 : Int) (a0_1 : List (S50)) (a0_2 : Int), (Lit.int .i64 a0_0).wf = true → (a0_1.length ≤ maxLen ∧ ∀ x ∈ a0_1, wf_50 x) → (Lit.int .i64 a0_2).wf = true → ∃ k, papermilllaw52_SheetGoods.f k a0_0 a0_1 a0_2 = some true := by
  intro c g r _ _ _
  suffices h : Ends (fun j => papermilllaw52_SheetGoods.f j c g r) true from h.get
  unfold papermilllaw52_SheetGoods.f
  simp only [papermilllaw52_awake.f, Option.bind_some]
  refine Ends.bind (few_ends [⟨c, g, r⟩]) ?_
  cases fewB [⟨c, g, r⟩] with
  | false => exact Ends.neg (by decide) (Ends.ret _)
  | true => exact Ends.pos rfl (Ends.bind (good_ends c g r) (Ends.bind (rgood_ends c g r) (Ends.pos rfl (Ends.pos rfl (Ends.ret _)))))

end Go.Proofs.Ytnfcpcgbdoiiiaa.G

namespace Go.Proofs.Ytnfcpcgbdoiiiaa.sheetGoods
open Go.ChangeShapes Go.WideShapes Go.ChangeAt Go.RowKit Go.Proofs.YtnfcpcgbdoiiiaaW.PrintWords Go.Proofs.YtnfcpcgbdoiiiaaW.PrintLast Go.Proofs.Ytnfcpcgbdoiiiaa.G
open Go.ChangeMaps (open_string shut_string)
set_option linter.unusedVariables false
set_option linter.unusedSimpArgs false
theorem own : ownKnob Try.prog.godebug = none := by kernel_rfl
theorem laidOut : laidOutB Try.prog = true := by kernel_rfl
set_option maxRecDepth 100000 in
theorem lifted (os : Os) (started : os.Started) (H : Type) (enc : TypeId × Value → H) :
    ReturnsInHanded {} Try.checked os 6 .any (Rows.sheetGoodsSpec.pre6 enc Try.prog Try.f6 Rows.sheetGoodsRow.domain false) (Rows.sheetGoodsSpec.post enc Try.prog Try.f6 false true false false) := by
  refine returnsInHanded_of_change_sized (C := Try.checked) own started (by kernel_rfl) Try.func6
    (ChangeSpec.witness6 (enc := enc) (C := Try.checked) false ⟨#[], #[.agg #[.int .i64 0, .slice none 0 0, .int .i64 0]], []⟩ 8 (by kernel_rfl) (by kernel_rfl) (by kernel_rfl) (by kernel_rfl)) ?_
  intro W base args ds gs before hval0 hW hcnd hsz0 _
  have hval : ∀ (j : Nat) t v, Try.f6.params[j]? = some t → args[j]? = some v → Value.okWide Try.prog W .any base t v := hval0
  have hW' := hW
  obtain ⟨p, q, hA0, hV, rfl, hfz, hnd⟩ := hW
  have hA : DataW.TrodAll enc Try.prog W 0 (fun _ => true) true Try.f6.params.toList args.toList ds p := hA0
  rw [Try.params6] at hA hval
  obtain ⟨v0, vs0, d0, ds0, p0, q0, hargs, rfl, rfl, h0, r0⟩ := trodAll_cons hA
  obtain ⟨rfl, rfl, rfl⟩ := trodAll_nil r0
  obtain rfl : args = #[v0] := by cases args; simp_all
  obtain ⟨rfl, rfl⟩ := trodVars_none hV
  have k0 := h0
  have lt0 : ∀ x ∈ p0, x.block < W.heap.size := by obtain ⟨m, hm⟩ := k0; exact DataW.trod_lt m _ _ _ hm
  obtain ⟨cs0, rfl, _⟩ := okWide_struct Try.underlying25 (hval 0 25 v0 rfl rfl)
  obtain ⟨x0, hK0, hw0⟩ : ∃ x : S25, k25.K W x (Value.agg cs0).cells.toList ∧ wf_25 x := by
    obtain ⟨fuel, hf⟩ := k0
    exact opens_25 enc W fuel _ _ hf
  obtain ⟨a0_0, a0_1, a0_2⟩ := x0
  obtain ⟨A0_1, c0_1, hcs0, hlc0_1, hC0_1⟩ := k25_open hK0
  dsimp only at hcs0 hlc0_1 hC0_1
  obtain rfl : cs0 = #[.int .i64 a0_0, .slice A0_1 a0_1.length c0_1, .int .i64 a0_2] := by obtain ⟨cs⟩ := cs0; simpa [Value.cells] using hcs0
  clear hA0 hval0 hsz0
  obtain ⟨k, hk⟩ := SheetGoods a0_0 a0_1 a0_2 hw0.1 hw0.2.1 hw0.2.2
  refine (papermilllaw52_SheetGoods.calls k a0_0 _ _ a0_1 a0_2 true W hC0_1 hlc0_1 hk).mono fun e W' he => ?_
  obtain ⟨he, bel⟩ := he
  subst he
  exact ⟨_, rfl, _, _, _, [], _, [], hW', trodAll_mk1 (shut_bool Try.underlying4 _), (trodAll_cons_mk (Below.trod laidOut (by kernel_rfl) (of_decide_eq_true (by kernel_rfl)) k0 bel lt0) trodAll_mk0), rfl, bel.frame _, fun h => by cases h⟩
theorem over : Rows.sheetGoodsRow.holds Try.pinned (OpenSpec.ofChange Rows.sheetGoodsSpec) :=
  OpenClaim.holds_of_wide 6 Try.f6 rfl rfl rfl rfl rfl rfl rfl ⟨rfl, rfl, rfl, rfl, rfl⟩ rfl rfl rfl rfl rfl (by kernel_rfl) Try.func6 (by kernel_rfl)
    (of_decide_eq_true (by kernel_rfl)) (by unfold Func.isWrapper; first | (rw [if_pos (by decide +kernel)]; kernel_rfl) | (rw [if_neg (by decide +kernel)]; exact ⟨rfl, rfl⟩))
    (fun os started H enc _ => lifted os started H enc)
theorem proved : Rows.SheetGoodsSaid := over
#print axioms proved
end Go.Proofs.Ytnfcpcgbdoiiiaa.sheetGoods
namespace Go.Proofs.Ytnfcpcgbdoiiiaa
theorem sheetGoods_holds : Rows.SheetGoodsSaid := sheetGoods.proved
end Go.Proofs.Ytnfcpcgbdoiiiaa
