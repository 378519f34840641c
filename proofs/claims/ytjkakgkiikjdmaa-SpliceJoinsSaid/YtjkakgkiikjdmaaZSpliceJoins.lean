/- The law SpliceJoins: whatever it is handed, it returns true, and what it is handed reads as before. No conditions. -/
import Derived.Test.YtjkakgkiikjdmaaJ5
import Derived.Test.YtjkakgkiikjdmaaQ3
import Derived.Test.YtjkakgkiikjdmaaQ4
import Derived.Test.YtjkakgkiikjdmaaRows
import Derived.WalkKit
import Derived.ProofKit
import Derived.OpenShut
import Derived.ShutString
import Derived.ChangeOld
import Derived.Below
import Derived.SizedLaws
namespace Go.Proofs.Ytjkakgkiikjdmaa.G
open Go.RowKit Go.Proofs.YtjkakgkiikjdmaaW.PrintWords Go.Proofs.YtjkakgkiikjdmaaW.PrintLast Go.Proofs.YtjkakgkiikjdmaaW.PrintMore
set_option linter.unusedVariables false
set_option linter.unusedSimpArgs false
theorem kept_own {n least : Int} {l : List S49} (h : KeptL n least l) (hw : ¬ wide n least) : own04 l := ⟨h.check hw, h.join hw⟩
theorem runsOf_own {l : List S49} (h : own04 l) : runsOf l = (l.map runS, 0) := by unfold runsOf; rw [if_pos h.1, if_pos h.2]
theorem imgS_runS {s : S49} (h : s.f0 < s.f1) : imgS (runS s) = s := by
 obtain ⟨a, b⟩ := s
 dsimp only at h
 unfold imgS runS img mn mx
 simp
 constructor
 ·intro; omega
 ·split <;> omega
theorem imgs_runs {l : List S49} (h : own04 l) : (l.map runS).map imgS = l := by
 obtain ⟨h1, _⟩ := own_sep h
 rw [List.map_map]
 have : ∀ s ∈ l, (imgS ∘ runS) s = s := fun s hs => imgS_runS (sep_in h1 s hs).2
 rw [List.map_congr_left this]
 simp
theorem image_runs {l : List S49} (h : own04 l) : image13 (l.map runS) = (l, 0) := by
 obtain ⟨h1, h2, h3, h4, h5⟩ := own_sep h
 unfold image13
 rw [if_pos (runs_check h1 h2 (fun s hs => (h3 s hs).2.2) h5), imgs_runs h, norm_fits h.1, h.2]
theorem single_runs {l : List S49} (h : own04 l) : single13 (l.map runS) = true := by
 unfold single13
 rw [image_runs h]
 have e : totalOf l = (tot l, 0) := by unfold totalOf; rw [if_pos h.1, h.2]
 simp [e, tot_runs]
theorem joins_l0 (l : List S49) (h : own04 l) : ∀ (d i : Nat) (a : Int), (l.length - 1) - i = d → i ≤ l.length - 1 → a = tot13 ((l.map runS).take i) → Ends (fun k => papermilllaw40_SpliceJoins.l0 k l (l.map runS) (places (l.map runS)) a (i : Int)) true := by
 have hp : (places (l.map runS)).length = l.length - 1 := by rw [places_len, List.length_map]
 obtain ⟨h1, h2, h3, h4, h5⟩ := own_sep h
 intro d
 induction d with
 | zero =>
  intro i a hd hi ha
  refine Ends.succ ?_
  simp only [papermilllaw40_SpliceJoins.l0, papermilllaw40_awake.f, Option.bind_some]
  refine Ends.neg (by omega) (Ends.bind (iimage_ends _) ?_)
  rw [image_runs h]
  refine Ends.pos rfl (Ends.bind (same_ends l (by omega)) (Ends.pos rfl (Ends.bind (isingle_ends _) ?_)))
  rw [single_runs h]
  exact Ends.pos rfl (Ends.ret _)
 | succ d ih =>
  intro i a hd hi ha
  have hm : ((l.map runS).take i).length = i := by rw [List.length_take, List.length_map]; omega
  have hb := tot13_bound ((l.map runS).take i) (fun r hr => by
   obtain ⟨s, hs, rfl⟩ := List.mem_map.mp (List.mem_of_mem_take hr)
   have := h3 s hs
   simp only [runS]
   omega)
  have hx := h3 (rd_T49 l (i : Int)) (by rw [rd36 l i (by omega)]; exact List.getElem_mem _)
  have hsn : (l.map runS).take (i + 1) = (l.map runS).take i ++ [runS (rd_T49 l (i : Int))] := by
   rw [List.take_succ_eq_append_getElem (by rw [List.length_map]; omega), rd36 l i (by omega), List.getElem_map]
  have ht : tot13 ((l.map runS).take (i + 1)) = a + (rd_T49 l (i : Int)).f1 - (rd_T49 l (i : Int)).f0 := by
   rw [hsn, tot13_append, ← ha]
   simp [tot13, runS]
   omega
  have hpl : rd (places (l.map runS)) (i : Int) = tot13 ((l.map runS).take (i + 1)) := places_rd (l.map runS) i (by rw [List.length_map]; omega)
  refine Ends.succ ?_
  simp only [papermilllaw40_SpliceJoins.l0, wrap_nat i (by omega), hpl, ht]
  have hih := ih (i + 1) _ (by omega) (by omega) ht.symm
  generalize rd_T49 l (i : Int) = s at *
  have hw : wrap64 (wrap64 (a + s.f1) - s.f0) = a + s.f1 - s.f0 := by unfold wrap64; omega
  simp only [hw]
  exact Ends.pos (by omega) (Ends.pos (by omega) (Ends.pos (by omega) (Ends.pos trivial hih)))
theorem joins_j0 (l : List S49) (h : own04 l) : Ends (fun k => papermilllaw40_SpliceJoins.j0 k l (l.map runS) (places (l.map runS)) false) true := by
 refine Ends.succ ?_
 simp only [papermilllaw40_SpliceJoins.j0]
 exact Ends.neg (by simp) (joins_l0 l h _ 0 0 rfl (by omega) rfl)
theorem SpliceJoins : ∀ (a0 : Int) (l1 : List (S49)) (a2 : Int), (Lit.int .i64 a0).wf = true → (l1.length ≤ maxLen ∧ ∀ x ∈ l1, wf_49 x) → (Lit.int .i64 a2).wf = true → ∃ k, papermilllaw40_SpliceJoins.f k a0 l1 a2 = some true := by
 intro n bad least _ _ _
 suffices h : Ends (fun k => papermilllaw40_SpliceJoins.f k n bad least) true from h.get
 unfold papermilllaw40_SpliceJoins.f
 simp only [papermilllaw40_great.f, papermilllaw40_awake.f, splice_Keep.f, Option.bind_some]
 by_cases hg : (bad.length : Int) > 300
 ·exact Ends.pos (by simpa using hg) (Ends.ret _)
 ·refine Ends.neg (by simpa using hg) ?_
  by_cases h0 : (keepOf n bad least).2 = 0
  ·obtain ⟨h1, h2, h3, h4⟩ := keep_split n bad least h0
   have ho := kept_own h4 h1
   refine Ends.pos h0 ?_
   generalize (keepOf n bad least).1 = l at *
   obtain ⟨g1, g2, g3, g4, g5⟩ := own_sep ho
   have hc := runs_check g1 g2 (fun s hs => (g3 s hs).2.2) g5
   have ep : placesOf (l.map runS) = (places (l.map runS), 0) := by unfold placesOf; rw [if_pos hc, runs_nrm g1]
   have hpl : (places (l.map runS)).length = l.length - 1 := by rw [places_len, List.length_map]
   refine Ends.bind (sruns_ends l) ?_
   rw [runsOf_own ho]
   refine Ends.bind (splaces_ends _) (Ends.bind (scount_ends _) ?_)
   rw [ep]
   dsimp only
   refine Ends.pos rfl (Ends.pos rfl (Ends.pos rfl (Ends.pos rfl (Ends.neg (by omega) ?_))))
   have hz : (((places (l.map runS)).length : Int) != mx 0 (wrap64 ((l.length : Int) - 1))) = false := by
    have hw : wrap64 ((l.length : Int) - 1) = (l.length : Int) - 1 := by unfold wrap64; omega
    rw [hw, bne_eq_false_iff_eq]
    unfold mx
    split <;> omega
   rw [hz]
   exact joins_j0 l ho
  ·exact Ends.neg h0 (Ends.ret _)
end Go.Proofs.Ytjkakgkiikjdmaa.G

namespace Go.Proofs.Ytjkakgkiikjdmaa.spliceJoins
open Go.ChangeShapes Go.WideShapes Go.ChangeAt Go.RowKit Go.Proofs.YtjkakgkiikjdmaaW.PrintWords Go.Proofs.YtjkakgkiikjdmaaW.PrintLast Go.Proofs.Ytjkakgkiikjdmaa.G
open Go.ChangeMaps (open_string shut_string)
set_option linter.unusedVariables false
set_option linter.unusedSimpArgs false
theorem own : ownKnob Try.prog.godebug = none := by kernel_rfl
theorem laidOut : laidOutB Try.prog = true := by kernel_rfl
set_option maxRecDepth 100000 in
theorem lifted (os : Os) (started : os.Started) (H : Type) (enc : TypeId × Value → H) :
  ReturnsInHanded {} Try.checked os 10 .any (Rows.spliceJoinsSpec.pre6 enc Try.prog Try.f10 Rows.spliceJoinsRow.domain false) (Rows.spliceJoinsSpec.post enc Try.prog Try.f10 false true false false) := by
 refine returnsInHanded_of_change_sized (C := Try.checked) own started (by kernel_rfl) Try.func10
  (ChangeSpec.witness6 (enc := enc) (C := Try.checked) false ⟨#[], #[.int .i64 0, .slice none 0 0, .int .i64 0], []⟩ 8 (by kernel_rfl) (by kernel_rfl) (by kernel_rfl) (by kernel_rfl)) ?_
 intro W base args ds gs before hval0 hW hcnd hsz0 _
 have hval : ∀ (j : Nat) t v, Try.f10.params[j]? = some t → args[j]? = some v → Value.okWide Try.prog W .any base t v := hval0
 have hW' := hW
 obtain ⟨p, q, hA0, hV, rfl, hfz, hnd⟩ := hW
 have hA : DataW.TrodAll enc Try.prog W 0 (fun _ => true) true Try.f10.params.toList args.toList ds p := hA0
 rw [Try.params10] at hA hval
 obtain ⟨v0, vs0, d0, ds0, p0, q0, hargs, rfl, rfl, h0, r0⟩ := trodAll_cons hA
 obtain ⟨v1, vs1, d1, ds1, p1, q1, rfl, rfl, rfl, h1, r1⟩ := trodAll_cons r0
 obtain ⟨v2, vs2, d2, ds2, p2, q2, rfl, rfl, rfl, h2, r2⟩ := trodAll_cons r1
 obtain ⟨rfl, rfl, rfl⟩ := trodAll_nil r2
 obtain rfl : args = #[v0, v1, v2] := by cases args; simp_all
 obtain ⟨rfl, rfl⟩ := trodVars_none hV
 have k0 := h0
 have lt0 : ∀ x ∈ p0, x.block < W.heap.size := by obtain ⟨m, hm⟩ := k0; exact DataW.trod_lt m _ _ _ hm
 obtain ⟨a0, rfl, rfl, rfl, hw0⟩ := open_int Try.underlying3 (hval 0 3 v0 rfl rfl) h0
 have k1 := h1
 have lt1 : ∀ x ∈ p1, x.block < W.heap.size := by obtain ⟨m, hm⟩ := k1; exact DataW.trod_lt m _ _ _ hm
 obtain ⟨a1, len1, cap1, rfl⟩ := okWide_slice Try.underlying22 (hval 1 22 v1 rfl rfl)
 obtain ⟨l1, ⟨A1, c1, hcs1, hlc1, hC1⟩, hw1⟩ : ∃ l, ((Kd.slice 49 k49)).K W l [.slice a1 len1 cap1] ∧ (l.length ≤ maxLen ∧ ∀ x ∈ l, wf_49 x) := by
  obtain ⟨fuel, hf⟩ := k1
  exact (Opens.slice Try.underlying22 (by kernel_rfl) opens_49) enc W fuel _ _ hf
 simp only [List.cons.injEq, and_true, Value.slice.injEq] at hcs1
 obtain ⟨rfl, rfl, rfl⟩ := hcs1
 have k2 := h2
 have lt2 : ∀ x ∈ p2, x.block < W.heap.size := by obtain ⟨m, hm⟩ := k2; exact DataW.trod_lt m _ _ _ hm
 obtain ⟨a2, rfl, rfl, rfl, hw2⟩ := open_int Try.underlying3 (hval 2 3 v2 rfl rfl) h2
 clear hA0 hval0 hsz0
 obtain ⟨k, hk⟩ := SpliceJoins a0 l1 a2 hw0 hw1 hw2
 refine (papermilllaw40_SpliceJoins.calls k a0 _ _ l1 a2 true W hC1 hlc1 hk).mono fun e W' he => ?_
 obtain ⟨he, bel⟩ := he
 subst he
 exact ⟨_, rfl, _, _, _, [], _, [], hW', trodAll_mk1 (shut_bool Try.underlying4 _), (trodAll_cons_mk (Below.trod laidOut (by kernel_rfl) (of_decide_eq_true (by kernel_rfl)) k0 bel lt0) (trodAll_cons_mk (Below.trod laidOut (by kernel_rfl) (of_decide_eq_true (by kernel_rfl)) k1 bel lt1) (trodAll_cons_mk (Below.trod laidOut (by kernel_rfl) (of_decide_eq_true (by kernel_rfl)) k2 bel lt2) trodAll_mk0))), rfl, bel.frame _, fun h => by cases h⟩
theorem over : Rows.spliceJoinsRow.holds Try.pinned (OpenSpec.ofChange Rows.spliceJoinsSpec) :=
 OpenClaim.holds_of_wide 10 Try.f10 rfl rfl rfl rfl rfl rfl rfl ⟨rfl, rfl, rfl, rfl, rfl⟩ rfl rfl rfl rfl rfl (by kernel_rfl) Try.func10 (by kernel_rfl)
  (of_decide_eq_true (by kernel_rfl)) (by unfold Func.isWrapper; first | (rw [if_pos (by decide +kernel)]; kernel_rfl) | (rw [if_neg (by decide +kernel)]; exact ⟨rfl, rfl⟩))
  (fun os started H enc _ => lifted os started H enc)
theorem proved : Rows.SpliceJoinsSaid := over
#print axioms proved
end Go.Proofs.Ytjkakgkiikjdmaa.spliceJoins
namespace Go.Proofs.Ytjkakgkiikjdmaa
theorem spliceJoins_holds : Rows.SpliceJoinsSaid := spliceJoins.proved
end Go.Proofs.Ytjkakgkiikjdmaa
