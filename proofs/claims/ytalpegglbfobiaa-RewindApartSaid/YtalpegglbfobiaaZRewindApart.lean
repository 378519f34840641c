/- The law RewindApart: whatever it is handed, it returns true, and what it is handed reads as before. No conditions. -/
import Derived.Test.YtalpegglbfobiaaA6
import Derived.Test.YtalpegglbfobiaaQ4
import Derived.Test.YtalpegglbfobiaaQ5
import Derived.Test.YtalpegglbfobiaaRows
import Derived.WalkKit
import Derived.ProofKit
import Derived.OpenShut
import Derived.ShutString
import Derived.ChangeOld
import Derived.Below
import Derived.SizedLaws
namespace Go.Proofs.Ytalpegglbfobiaa.G
open Go.RowKit Go.Proofs.YtalpegglbfobiaaW.PrintWords Go.Proofs.YtalpegglbfobiaaW.PrintLast Go.Proofs.YtalpegglbfobiaaW.PrintMore
set_option linter.unusedVariables false
set_option linter.unusedSimpArgs false
section
variable (n : Int) (l : List Int) (hn : long n) (hl : l.length ≤ 512) (hv : ∀ x ∈ l, long x) (hs : sumI l ≤ n) (q : Nat) (hq : q < l.length) (r : Int)
include hn hl hv hs hq
omit hn hl hv hs in
theorem apart_get : rd_L6 (splitGo n l) (q : Int) = [backR (n - sumI (l.take q) - 1) (rd l (q : Int))] := by
 have e := splitGo_get l n q hq
 rw [rdI l q hq]
 simp [rd_L6, List.getD_eq_getElem?_getD, e]
omit hn hl in
theorem apart_sum : 0 ≤ sumI (l.take q) ∧ sumI (l.take q) + rd l (q : Int) ≤ n ∧ long (rd l (q : Int)) := by
 have h1 := sumI_pos (l.take q) (fun x hx => hv x (List.mem_of_mem_take hx))
 have h2 := sumI_pos (l.drop (q + 1)) (fun x hx => hv x (List.mem_of_mem_drop hx))
 have h3 : sumI l = sumI (l.take q) + (rd l (q : Int) + sumI (l.drop (q + 1))) := by
  rw [← sumI_cons, ← dropI l q hq, ← sumI_append, List.take_append_drop]
 have h4 := hv (rd l (q : Int)) (by rw [rdI l q hq]; exact List.getElem_mem _)
 exact ⟨h1.1, by omega, h4⟩
omit hl in
theorem apart_j4 (z : Bool) (hz : z = false → 0 ≤ r ∧ r < rd l (q : Int)) : Ends (fun k => papermilllaw41_RewindApart.j4 k (q : Int) r (splitGo n l) (n - sumI (l.take q)) z) true := by
 obtain ⟨s1, s2, s3⟩ := apart_sum n l hv hs q hq
 have hln := splitGo_len l n
 refine Ends.succ ?_
 simp only [papermilllaw41_RewindApart.j4, papermilllaw41_awake.f, Option.bind_some]
 cases z with
 | true => exact Ends.pos rfl (Ends.ret _)
 | false =>
  obtain ⟨h0, h1⟩ := hz rfl
  unfold long at hn
  have hl3 := s3
  unfold long at hl3
  rw [apart_get n l q hq]
  generalize rd l (q : Int) = x at *
  have hc := back_check (n - sumI (l.take q) - 1) x s3 (by omega) (by omega)
  have hat := back_at (n - sumI (l.take q) - 1) x r s3 (by omega) (by omega) h0 h1
  have hw : wrap64 (wrap64 (n - sumI (l.take q) - 1) - r) = n - sumI (l.take q) - 1 - r := by unfold wrap64; omega
  rw [hw]
  refine Ends.neg (by simp) (Ends.pos (by omega) (Ends.pos (by omega) (Ends.bind ((rat_ends _ hc r h0 (by rw [back_tot]; exact h1)).congr hat) ?_)))
  exact Ends.pos rfl (Ends.pos rfl (Ends.ret _))
theorem apart_l0 : ∀ (d i : Nat), q - i = d → i ≤ q → Ends (fun k => papermilllaw41_RewindApart.l0 k l (q : Int) r (splitGo n l) (n - sumI (l.take i)) (i : Int)) true := by
 have hln := splitGo_len l n
 intro d
 induction d with
 | zero =>
  intro i hd hi
  obtain rfl : i = q := by omega
  obtain ⟨s1, s2, s3⟩ := apart_sum n l hv hs i hq
  have hn2 := hn
  unfold long at hn2
  have hl3 := s3
  unfold long at hl3
  have hj4 := fun z hz => apart_j4 n l hn hv hs i hq r z hz
  refine Ends.succ ?_
  simp only [papermilllaw41_RewindApart.l0]
  rw [apart_get n l i hq]
  generalize rd l (i : Int) = x at *
  have hc := back_check (n - sumI (l.take i) - 1) x s3 (by omega) (by omega)
  refine Ends.neg (by omega) (Ends.pos (by omega) (Ends.pos (by omega) (Ends.bind (rLen2_ends _) ?_)))
  rw [if_pos hc, back_tot]
  refine Ends.pos rfl (Ends.pos (by omega) (Ends.pos rfl (Ends.succ ?_)))
  simp only [papermilllaw41_RewindApart.j3]
  refine Ends.neg (by simp; omega) ?_
  by_cases hr : r < 0
  ·exact Ends.pos hr (hj4 true (by simp))
  ·exact Ends.neg hr (hj4 _ (fun hh => by have := of_decide_eq_false hh; omega))
 | succ d ih =>
  intro i hd hi
  obtain ⟨s1, s2, s3⟩ := apart_sum n l hv hs i (by omega)
  have hn2 := hn
  unfold long at hn2 s3
  have hsn : sumI (l.take (i + 1)) = sumI (l.take i) + rd l (i : Int) := by
   rw [List.take_succ_eq_append_getElem (by omega), sumI_append, rdI l i (by omega)]
   simp [sumI]
  have hih := ih (i + 1) (by omega) (by omega)
  rw [hsn, show n - (sumI (l.take i) + rd l (i : Int)) = n - sumI (l.take i) - rd l (i : Int) by omega] at hih
  refine Ends.succ ?_
  simp only [papermilllaw41_RewindApart.l0, wrap_nat i (by omega)]
  generalize rd l (i : Int) = x at *
  have hw : wrap64 (n - sumI (l.take i) - x) = n - sumI (l.take i) - x := by unfold wrap64; omega
  rw [hw]
  exact Ends.pos (by omega) (Ends.pos (by omega) (Ends.pos (by omega) (Ends.neg (by omega) (Ends.neg (by omega) hih))))
end
theorem apart_j0 (n : Int) (l : List Int) (q r : Int) (z : Bool) (hz : z = false → 0 ≤ q ∧ q < l.length) : Ends (fun k => papermilllaw41_RewindApart.j0 k n l q r z) true := by
 refine Ends.succ ?_
 simp only [papermilllaw41_RewindApart.j0, papermilllaw41_awake.f, Option.bind_some]
 cases z with
 | true => exact Ends.pos rfl (Ends.ret _)
 | false =>
  obtain ⟨h0, h1⟩ := hz rfl
  refine Ends.neg (by simp) (Ends.bind (split_ends n l) ?_)
  by_cases h : (splitOf n l).2 = 0
  ·obtain ⟨g1, g2, g3, g4, g5⟩ := splitOf_zero h
   have hln := splitGo_len l n
   have hn := g1
   unfold long at hn
   have e : splitOf n l = (splitGo n l, 0) := by rw [← g5, ← h]
   rw [e]
   refine Ends.pos rfl (Ends.pos (by dsimp only; omega) (Ends.neg (by omega) (Ends.succ ?_)))
   simp only [papermilllaw41_RewindApart.j1]
   refine Ends.neg (by simp; omega) ?_
   have hl0 := apart_l0 n l g1 g2 g3 g4 q.toNat (by omega) r q.toNat 0 (by omega) (by omega)
   rw [show ((q.toNat : Nat) : Int) = q by omega] at hl0
   simpa [sumI] using hl0
  ·refine Ends.neg h (Ends.pos ?_ (Ends.ret _))
   rw [splitOf_bad h]
   rfl
theorem RewindApart : ∀ (a0 : Int) (l1 : List (Int)) (a2 : Int) (a3 : Int), (Lit.int .i64 a0).wf = true → (l1.length ≤ maxLen ∧ ∀ x ∈ l1, (Lit.int .i64 x).wf = true) → (Lit.int .i64 a2).wf = true → (Lit.int .i64 a3).wf = true → ∃ k, papermilllaw41_RewindApart.f k a0 l1 a2 a3 = some true := by
 intro n l q r _ _ _ _
 suffices h : Ends (fun k => papermilllaw41_RewindApart.f k n l q r) true from h.get
 unfold papermilllaw41_RewindApart.f
 by_cases h1 : (l.length : Int) > 600
 ·exact Ends.pos h1 (apart_j0 n l q r true (by simp))
 ·refine Ends.neg h1 ?_
  by_cases h2 : q < 0
  ·exact Ends.pos h2 (apart_j0 n l q r true (by simp))
  ·exact Ends.neg h2 (apart_j0 n l q r _ (fun hh => by have := of_decide_eq_false hh; omega))
end Go.Proofs.Ytalpegglbfobiaa.G

namespace Go.Proofs.Ytalpegglbfobiaa.rewindApart
open Go.ChangeShapes Go.WideShapes Go.ChangeAt Go.RowKit Go.Proofs.YtalpegglbfobiaaW.PrintWords Go.Proofs.YtalpegglbfobiaaW.PrintLast Go.Proofs.Ytalpegglbfobiaa.G
open Go.ChangeMaps (open_string shut_string)
set_option linter.unusedVariables false
set_option linter.unusedSimpArgs false
theorem own : ownKnob Try.prog.godebug = none := by kernel_rfl
theorem laidOut : laidOutB Try.prog = true := by kernel_rfl
set_option maxRecDepth 100000 in
theorem lifted (os : Os) (started : os.Started) (H : Type) (enc : TypeId × Value → H) :
  ReturnsInHanded {} Try.checked os 10 .any (Rows.rewindApartSpec.pre6 enc Try.prog Try.f10 Rows.rewindApartRow.domain false) (Rows.rewindApartSpec.post enc Try.prog Try.f10 false true false false) := by
 refine returnsInHanded_of_change_sized (C := Try.checked) own started (by kernel_rfl) Try.func10
  (ChangeSpec.witness6 (enc := enc) (C := Try.checked) false ⟨#[], #[.int .i64 0, .slice none 0 0, .int .i64 0, .int .i64 0], []⟩ 8 (by kernel_rfl) (by kernel_rfl) (by kernel_rfl) (by kernel_rfl)) ?_
 intro W base args ds gs before hval0 hW hcnd hsz0 _
 have hval : ∀ (j : Nat) t v, Try.f10.params[j]? = some t → args[j]? = some v → Value.okWide Try.prog W .any base t v := hval0
 have hW' := hW
 obtain ⟨p, q, hA0, hV, rfl, hfz, hnd⟩ := hW
 have hA : DataW.TrodAll enc Try.prog W 0 (fun _ => true) true Try.f10.params.toList args.toList ds p := hA0
 rw [Try.params10] at hA hval
 obtain ⟨v0, vs0, d0, ds0, p0, q0, hargs, rfl, rfl, h0, r0⟩ := trodAll_cons hA
 obtain ⟨v1, vs1, d1, ds1, p1, q1, rfl, rfl, rfl, h1, r1⟩ := trodAll_cons r0
 obtain ⟨v2, vs2, d2, ds2, p2, q2, rfl, rfl, rfl, h2, r2⟩ := trodAll_cons r1
 obtain ⟨v3, vs3, d3, ds3, p3, q3, rfl, rfl, rfl, h3, r3⟩ := trodAll_cons r2
 obtain ⟨rfl, rfl, rfl⟩ := trodAll_nil r3
 obtain rfl : args = #[v0, v1, v2, v3] := by cases args; simp_all
 obtain ⟨rfl, rfl⟩ := trodVars_none hV
 have k0 := h0
 have lt0 : ∀ x ∈ p0, x.block < W.heap.size := by obtain ⟨m, hm⟩ := k0; exact DataW.trod_lt m _ _ _ hm
 obtain ⟨a0, rfl, rfl, rfl, hw0⟩ := open_int Try.underlying3 (hval 0 3 v0 rfl rfl) h0
 have k1 := h1
 have lt1 : ∀ x ∈ p1, x.block < W.heap.size := by obtain ⟨m, hm⟩ := k1; exact DataW.trod_lt m _ _ _ hm
 obtain ⟨a1, len1, cap1, rfl⟩ := okWide_slice Try.underlying32 (hval 1 32 v1 rfl rfl)
 obtain ⟨l1, ⟨A1, c1, hcs1, hlc1, hC1⟩, hw1⟩ : ∃ l, ((Kd.slice 3 (Kd.int .i64))).K W l [.slice a1 len1 cap1] ∧ (l.length ≤ maxLen ∧ ∀ x ∈ l, (Lit.int .i64 x).wf = true) := by
  obtain ⟨fuel, hf⟩ := k1
  exact (Opens.slice Try.underlying32 (by kernel_rfl) (Opens.int Try.underlying3)) enc W fuel _ _ hf
 simp only [List.cons.injEq, and_true, Value.slice.injEq] at hcs1
 obtain ⟨rfl, rfl, rfl⟩ := hcs1
 have k2 := h2
 have lt2 : ∀ x ∈ p2, x.block < W.heap.size := by obtain ⟨m, hm⟩ := k2; exact DataW.trod_lt m _ _ _ hm
 obtain ⟨a2, rfl, rfl, rfl, hw2⟩ := open_int Try.underlying3 (hval 2 3 v2 rfl rfl) h2
 have k3 := h3
 have lt3 : ∀ x ∈ p3, x.block < W.heap.size := by obtain ⟨m, hm⟩ := k3; exact DataW.trod_lt m _ _ _ hm
 obtain ⟨a3, rfl, rfl, rfl, hw3⟩ := open_int Try.underlying3 (hval 3 3 v3 rfl rfl) h3
 clear hA0 hval0 hsz0
 obtain ⟨k, hk⟩ := RewindApart a0 l1 a2 a3 hw0 hw1 hw2 hw3
 refine (papermilllaw41_RewindApart.calls k a0 _ _ l1 a2 a3 true W hC1 hlc1 hk).mono fun e W' he => ?_
 obtain ⟨he, bel⟩ := he
 subst he
 exact ⟨_, rfl, _, _, _, [], _, [], hW', trodAll_mk1 (shut_bool Try.underlying4 _), (trodAll_cons_mk (Below.trod laidOut (by kernel_rfl) (of_decide_eq_true (by kernel_rfl)) k0 bel lt0) (trodAll_cons_mk (Below.trod laidOut (by kernel_rfl) (of_decide_eq_true (by kernel_rfl)) k1 bel lt1) (trodAll_cons_mk (Below.trod laidOut (by kernel_rfl) (of_decide_eq_true (by kernel_rfl)) k2 bel lt2) (trodAll_cons_mk (Below.trod laidOut (by kernel_rfl) (of_decide_eq_true (by kernel_rfl)) k3 bel lt3) trodAll_mk0)))), rfl, bel.frame _, fun h => by cases h⟩
theorem over : Rows.rewindApartRow.holds Try.pinned (OpenSpec.ofChange Rows.rewindApartSpec) :=
 OpenClaim.holds_of_wide 10 Try.f10 rfl rfl rfl rfl rfl rfl rfl ⟨rfl, rfl, rfl, rfl, rfl⟩ rfl rfl rfl rfl rfl (by kernel_rfl) Try.func10 (by kernel_rfl)
  (of_decide_eq_true (by kernel_rfl)) (by unfold Func.isWrapper; first | (rw [if_pos (by decide +kernel)]; kernel_rfl) | (rw [if_neg (by decide +kernel)]; exact ⟨rfl, rfl⟩))
  (fun os started H enc _ => lifted os started H enc)
theorem proved : Rows.RewindApartSaid := over
#print axioms proved
end Go.Proofs.Ytalpegglbfobiaa.rewindApart
namespace Go.Proofs.Ytalpegglbfobiaa
theorem rewindApart_holds : Rows.RewindApartSaid := rewindApart.proved
end Go.Proofs.Ytalpegglbfobiaa
