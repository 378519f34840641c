/- The law SpliceRolls: whatever it is handed, it returns true, and what it is handed reads as before. No conditions. -/
import Derived.Test.YtjkakgkiikjdmaaL6
import Derived.Test.YtjkakgkiikjdmaaQ3
import Derived.Test.YtjkakgkiikjdmaaQ4
import Derived.Test.YtjkakgkiikjdmaaRows
import Derived.WalkKit
import Derived.ProofKit
import Derived.OpenShut
import Derived.ShutString
import Derived.ChangeOld
import Derived.Below
import Derived.SizedLaws
namespace Go.Proofs.Ytjkakgkiikjdmaa.G
open Go.RowKit Go.Proofs.YtjkakgkiikjdmaaW.PrintWords Go.Proofs.YtjkakgkiikjdmaaW.PrintLast Go.Proofs.YtjkakgkiikjdmaaW.PrintMore
set_option linter.unusedVariables false
set_option linter.unusedSimpArgs false
theorem allow_is {m : List S56} {size most : Int} (h : check13 m = 0) (hs : 1 ≤ size ∧ size ≤ 17179869184) (hm : 0 ≤ most ∧ most ≤ 8) :
  (allowOf m size most).2 = 0 ∧ (allowOf m size most).1.length ≤ 1000 ∧ ∀ x, hasOf (allowOf m size most).1 x = true ↔ 0 ≤ x ∧ x < tot13 m - size + 1 ∧ (cnt40 (places (nrm (sem m))) x size : Int) ≤ most := by
 obtain ⟨h1, h2, h3⟩ := nrm_fit h
 obtain ⟨p1, p2⟩ := places_up (l := nrm (sem m)) (fun r hr => (h2 r hr).1)
 have p3 := places_len (nrm (sem m))
 have ht := (check13_zero h).2.2
 have hv : ∀ y ∈ places (nrm (sem m)), 0 ≤ y ∧ y ≤ 17179869184 := fun y hy => by have := p2 y hy; omega
 unfold allowOf
 rw [if_pos h, if_neg (by omega)]
 by_cases hl : tot13 m < size
 ·rw [if_pos hl]
  refine ⟨rfl, by simp, fun x => ?_⟩
  constructor
  ·intro hx; cases hx
  ·intro hx; omega
 ·rw [if_neg hl]
  have hf := allowL_few (places (nrm (sem m))) (tot13 m) size most p1 (by omega) (by omega) (by omega) hv
  have hb := badsGo_len (places (nrm (sem m))) size most.toNat ((places (nrm (sem m))).length - most.toNat) most.toNat
  refine ⟨rfl, ?_, fun x => ?_⟩
  ·unfold badsOf at hf
   dsimp only
   omega
  ·rw [hasOf_iff]
   exact (allowL_ok (places (nrm (sem m))) (tot13 m) size most p1 (by omega) (by omega) (by omega) hv).2 x
theorem allow_err {m : List S56} {size most : Int} (h : ¬ check13 m = 0) : allowOf m size most = ([], check13 m) := by unfold allowOf; rw [if_neg h]
theorem lsplices_l0 (p : List Int) (x size : Int) (hl : p.length ≤ 1000) (hx : 0 ≤ x ∧ x ≤ 17179869184) (hs : 1 ≤ size ∧ size ≤ 17179869184) : ∀ (d i : Nat) (n : Nat), p.length - i = d → i ≤ p.length → n ≤ i → Ends (fun k => papermilllaw40_splices.l0 k x size p (n : Int) (i : Int)) ((n + cnt40 (p.drop i) x size : Nat) : Int) := by
 have hw : wrap64 (x + size) = x + size := by unfold wrap64; omega
 intro d
 induction d with
 | zero =>
  intro i n hd hi hn
  refine Ends.succ ?_
  simp only [papermilllaw40_splices.l0, hw]
  rw [List.drop_of_length_le (by omega)]
  exact Ends.neg (by omega) (Ends.ret _)
 | succ d ih =>
  intro i n hd hi hn
  refine Ends.succ ?_
  have hc : cnt40 (p.drop i) x size = cnt40 (p.drop (i + 1)) x size + (if inRoll x size (rd p (i : Int)) = true then 1 else 0) := by
   rw [dropI p i (by omega)]; unfold cnt40; rw [List.countP_cons]
  rw [hc]
  simp only [papermilllaw40_splices.l0, wrap_nat i (by omega), wrap_nat n (by omega), hw]
  generalize rd p (i : Int) = y at *
  refine Ends.pos (by omega) (Ends.pos (by omega) ?_)
  by_cases h1 : x < y
  ·refine Ends.pos h1 ?_
   by_cases h2 : y < x + size
   ·rw [if_pos (by unfold inRoll; simp; omega)]
    exact Ends.pos h2 ((ih (i + 1) (n + 1) (by omega) (by omega) (by omega)).congr (by congr 1; omega))
   ·rw [if_neg (by unfold inRoll; simp; omega)]
    exact Ends.neg h2 ((ih (i + 1) n (by omega) (by omega) (by omega)).congr (by congr 1))
  ·rw [if_neg (by unfold inRoll; simp; omega)]
   exact Ends.neg h1 ((ih (i + 1) n (by omega) (by omega) (by omega)).congr (by congr 1))
theorem lsplices_ends (m : List S56) (x size : Int) (h : check13 m = 0) (hx : 0 ≤ x ∧ x ≤ 17179869184) (hs : 1 ≤ size ∧ size ≤ 17179869184) : Ends (fun k => papermilllaw40_splices.f k m x size) (cnt40 (places (nrm (sem m))) x size : Int) := by
 unfold papermilllaw40_splices.f
 have hn := (nrm_fit h).1
 have hl := places_len (nrm (sem m))
 have e : placesOf m = (places (nrm (sem m)), 0) := by unfold placesOf; rw [if_pos h]
 refine Ends.bind ((splaces_ends m).congr e) (Ends.pos rfl ?_)
 exact (lsplices_l0 (places (nrm (sem m))) x size (by omega) hx hs _ 0 0 rfl (by omega) (by omega)).congr (by simp)
theorem pieces_cnt (x size : Int) : ∀ (M : List S56) (a : Int), (∀ r ∈ M, 1 ≤ r.f1) → (pieces M a x (x + size)).length ≤ (if a ≤ x then 1 else 0) + (plcGo a M).countP (inRoll x size)
 | [], a, _ => by simp [pieces]
 | r :: M, a, h => by
  have h1 := h r (by simp)
  have ih := pieces_cnt x size M (a + r.f1) (fun q hq => h q (by simp [hq]))
  rw [pieces, List.length_append, plcGo, List.countP_cons]
  by_cases hin : max x a < min (x + size) (a + r.f1)
  ·rw [if_pos hin]
   rw [if_neg (by omega)] at ih
   by_cases ha : a ≤ x
   ·rw [if_pos ha, if_neg (by unfold inRoll; simp; omega)]
    simp
    omega
   ·rw [if_neg ha, if_pos (by unfold inRoll; simp; omega)]
    simp
    omega
  ·rw [if_neg hin]
   by_cases ha : a ≤ x
   ·rw [if_pos ha]
    split at ih <;> simp <;> omega
   ·rw [if_neg ha]
    rw [if_neg (by omega)] at ih
    simp
    omega
theorem part_few (m : List S56) (h : check13 m = 0) (x size : Int) (hx : 0 ≤ x) : (nrm (((sem m).take (x + size).toNat).drop x.toNat)).length ≤ 1 + cnt40 (places (nrm (sem m))) x size ∧ (nrm (((sem m).take (x + size).toNat).drop x.toNat)).length ≤ 256 := by
 obtain ⟨h1, h2, h3⟩ := nrm_fit h
 have hp : ∀ r ∈ nrm (sem m), 1 ≤ r.f1 := fun r hr => (h2 r hr).1
 have hs := sem_pieces (nrm (sem m)) 0 x (x + size) hp
 rw [sem_nrm, Int.sub_zero, Int.sub_zero] at hs
 have hn := nrm_len (pieces (nrm (sem m)) 0 x (x + size)) (pieces_pos _ _ _ _)
 rw [hs] at hn
 have hc := pieces_cnt x size (nrm (sem m)) 0 hp
 have hl := pieces_len (nrm (sem m)) 0 x (x + size)
 have he : (plcGo 0 (nrm (sem m))).countP (inRoll x size) = cnt40 (places (nrm (sem m))) x size := by
  unfold places cnt40
  cases nrm (sem m) with
  | nil => rfl
  | cons r q =>
   rw [plcGo, List.countP_cons, if_neg (by unfold inRoll; simp; omega)]
   rfl
 rw [he, if_pos hx] at hc
 omega
theorem rolls_j1 (m : List S56) (size most x : Int) (h : check13 m = 0) (hs : 1 ≤ size ∧ size ≤ 17179869184) (hm : 0 ≤ most ∧ most ≤ 8) (z : Bool) (hz : z = decide (x < 0 ∨ x > tot13 m - size)) : Ends (fun k => papermilllaw40_SpliceRolls.j1 k m size (allowOf m size most).1 z most x) true := by
 obtain ⟨a1, a2, a3⟩ := allow_is h hs hm
 have ht := (check13_zero h).2.2
 have ht0 := tot_nonneg h
 refine Ends.succ ?_
 simp only [papermilllaw40_SpliceRolls.j1, papermilllaw40_awake.f, Option.bind_some, span_Has.f, if_pos (show (allowOf m size most).1.length ≤ 1000000 by omega), iso_Part.f]
 cases z with
 | true =>
  have hx := of_decide_eq_true hz.symm
  refine Ends.pos rfl (Ends.neg (fun hh => ?_) (Ends.ret _))
  have := (a3 x).mp hh
  omega
 | false =>
  have hx := of_decide_eq_false hz.symm
  have hw : wrap64 (x + size) = x + size := by unfold wrap64; omega
  have hp : partOf13 m x (x + size) = (nrm (((sem m).take (x + size).toNat).drop x.toNat), 0) := by
   unfold partOf13
   rw [if_pos h, if_neg (by omega)]
  obtain ⟨f1, f2⟩ := part_few m h x size (by omega)
  rw [hw, hp]
  generalize hsub : ((sem m).take (x + size).toNat).drop x.toNat = sub at *
  have hck : check13 (nrm sub) = 0 := by
   refine check_nrm sub (fun y hy => ?_) ?_ f2
   ·rw [← hsub] at hy
    exact sem_fit (check13_zero h).2.1 y (List.mem_of_mem_take (List.mem_of_mem_drop hy))
   ·rw [← hsub, List.length_drop, List.length_take]
    have := sem_small h
    omega
  have hpl : placesOf (nrm sub) = (places (nrm sub), 0) := by unfold placesOf; rw [if_pos hck, sem_nrm]
  have hpn := places_len (nrm sub)
  have hcn := lsplices_ends m x size h (by omega) hs
  refine Ends.neg (by simp) (Ends.bind (scount_ends (nrm sub)) ?_)
  rw [hpl]
  dsimp only
  refine Ends.pos (by first | trivial | rfl) (Ends.pos (by first | trivial | rfl) (Ends.bind hcn (Ends.pos ?_ (Ends.bind hcn (Ends.pos ?_ (Ends.ret _))))))
  ·rw [beq_iff_eq]
   cases hh : hasOf (allowOf m size most).1 x with
   | true => exact (decide_eq_true ((a3 x).mp hh).2.2).symm
   | false =>
    refine (decide_eq_false (fun hc => ?_)).symm
    rw [(a3 x).mpr ⟨by omega, by omega, hc⟩] at hh
    cases hh
  ·omega
theorem SpliceRolls : ∀ (l0 : List (S56)) (a1 : Int) (a2_0 : Int) (a2_1 : Int), (l0.length ≤ maxLen ∧ ∀ x ∈ l0, wf_56 x) → (Lit.int .i64 a1).wf = true → (Lit.int .i64 a2_0).wf = true → (Lit.int .i64 a2_1).wf = true → ∃ k, papermilllaw40_SpliceRolls.f k l0 a1 a2_0 a2_1 = some true := by
 intro m size most x _ _ _ _
 suffices h : Ends (fun k => papermilllaw40_SpliceRolls.f k m size most x) true from h.get
 unfold papermilllaw40_SpliceRolls.f
 simp only [papermilllaw40_awake.f, Option.bind_some]
 by_cases hg : (m.length : Int) > 80
 ·exact Ends.pos hg (Ends.ret _)
 ·refine Ends.neg hg (Ends.bind (sallow_ends m size most) ?_)
  by_cases h : check13 m = 0
  ·by_cases ho : size < 1 ∨ size > 17179869184 ∨ most < 0 ∨ most > 8
   ·have e : allowOf m size most = ([], 1) := by unfold allowOf; rw [if_pos h, if_pos ho]
    rw [e]
    exact Ends.neg (by simp) (Ends.pos rfl (Ends.ret _))
   ·have hs : 1 ≤ size ∧ size ≤ 17179869184 := by omega
    have hm : 0 ≤ most ∧ most ≤ 8 := by omega
    have ht := (check13_zero h).2.2
    have ht0 := tot_nonneg h
    refine Ends.pos (allow_is h hs hm).1 (Ends.bind (iLen2_ends m) ?_)
    rw [if_pos h]
    dsimp only
    refine Ends.pos (by first | trivial | rfl) (Ends.neg (by omega) (Ends.neg (by omega) (Ends.neg (by omega) (Ends.succ ?_))))
    simp only [papermilllaw40_SpliceRolls.j0]
    have hw : wrap64 (tot13 m - size) = tot13 m - size := by unfold wrap64; omega
    rw [hw]
    refine Ends.neg (by simp; omega) ?_
    by_cases hx : x < 0
    ·exact Ends.pos hx (rolls_j1 m size most x h hs hm true (by simp [hx]))
    ·exact Ends.neg hx (rolls_j1 m size most x h hs hm _ (by simp [hx]))
  ·rw [allow_err h]
   exact Ends.neg h (Ends.pos rfl (Ends.ret _))
end Go.Proofs.Ytjkakgkiikjdmaa.G

namespace Go.Proofs.Ytjkakgkiikjdmaa.spliceRolls
open Go.ChangeShapes Go.WideShapes Go.ChangeAt Go.RowKit Go.Proofs.YtjkakgkiikjdmaaW.PrintWords Go.Proofs.YtjkakgkiikjdmaaW.PrintLast Go.Proofs.Ytjkakgkiikjdmaa.G
open Go.ChangeMaps (open_string shut_string)
set_option linter.unusedVariables false
set_option linter.unusedSimpArgs false
theorem own : ownKnob Try.prog.godebug = none := by kernel_rfl
theorem laidOut : laidOutB Try.prog = true := by kernel_rfl
set_option maxRecDepth 100000 in
theorem okWide_arr44 {W : World} {base : Nat} {v : Value} (h : Value.okWide Try.prog W .any base 44 v) : ∃ cs, v = .agg cs := by
 simp only [Value.okWide, Try.underlying44] at h
 obtain ⟨cs, h1, _⟩ := h
 exact ⟨cs, h1⟩
set_option maxRecDepth 100000 in
theorem opens_arr44 {H : Type} (enc : TypeId × Value → H) (W : World) (fuel : Nat) (cs : List Value) (x : DataW H × List MemPlace) (h : DataW.trod enc Try.prog W 0 (fun _ => true) true fuel 44 cs = some x) : ∃ v0 v1 : Int, cs = [.int .i64 v0, .int .i64 v1] ∧ (Lit.int .i64 v0).wf = true ∧ (Lit.int .i64 v1).wf = true := by
 obtain ⟨xs, n, rfl, rfl, hlen, hxl, hf⟩ := DataW.trod_array Try.underlying44 h
 have hc : Try.prog.cellsOf 44 = 2 := by kernel_rfl
 have hc1 : Try.prog.cellsOf 3 = 1 := by kernel_rfl
 rw [hc] at hlen
 rw [hc1] at hf
 match cs, hlen with
 | [c0, c1], _ =>
  match xs, hxl with
  | [y0, y1], _ =>
   obtain ⟨v0, q0, w0⟩ := (Opens.int Try.underlying3) enc W n [c0] y0 (hf 0 (by omega))
   cases q0
   obtain ⟨v1, q1, w1⟩ := (Opens.int Try.underlying3) enc W n [c1] y1 (hf 1 (by omega))
   cases q1
   exact ⟨v0, v1, rfl, w0, w1⟩
set_option maxRecDepth 100000 in
theorem lifted (os : Os) (started : os.Started) (H : Type) (enc : TypeId × Value → H) :
  ReturnsInHanded {} Try.checked os 8 .any (Rows.spliceRollsSpec.pre6 enc Try.prog Try.f8 Rows.spliceRollsRow.domain false) (Rows.spliceRollsSpec.post enc Try.prog Try.f8 false true false false) := by
 refine returnsInHanded_of_change_sized (C := Try.checked) own started (by kernel_rfl) Try.func8
  (ChangeSpec.witness6 (enc := enc) (C := Try.checked) false ⟨#[], #[.slice none 0 0, .int .i64 0, .agg #[.int .i64 0, .int .i64 0]], []⟩ 8 (by kernel_rfl) (by kernel_rfl) (by kernel_rfl) (by kernel_rfl)) ?_
 intro W base args ds gs before hval0 hW hcnd hsz0 _
 have hval : ∀ (j : Nat) t v, Try.f8.params[j]? = some t → args[j]? = some v → Value.okWide Try.prog W .any base t v := hval0
 have hW' := hW
 obtain ⟨p, q, hA0, hV, rfl, hfz, hnd⟩ := hW
 have hA : DataW.TrodAll enc Try.prog W 0 (fun _ => true) true Try.f8.params.toList args.toList ds p := hA0
 rw [Try.params8] at hA hval
 obtain ⟨v0, vs0, d0, ds0, p0, q0, hargs, rfl, rfl, h0, r0⟩ := trodAll_cons hA
 obtain ⟨v1, vs1, d1, ds1, p1, q1, rfl, rfl, rfl, h1, r1⟩ := trodAll_cons r0
 obtain ⟨v2, vs2, d2, ds2, p2, q2, rfl, rfl, rfl, h2, r2⟩ := trodAll_cons r1
 obtain ⟨rfl, rfl, rfl⟩ := trodAll_nil r2
 obtain rfl : args = #[v0, v1, v2] := by cases args; simp_all
 obtain ⟨rfl, rfl⟩ := trodVars_none hV
 have k0 := h0
 have lt0 : ∀ x ∈ p0, x.block < W.heap.size := by obtain ⟨m, hm⟩ := k0; exact DataW.trod_lt m _ _ _ hm
 obtain ⟨a0, len0, cap0, rfl⟩ := okWide_slice Try.underlying32 (hval 0 32 v0 rfl rfl)
 obtain ⟨l0, ⟨A0, c0, hcs0, hlc0, hC0⟩, hw0⟩ : ∃ l, ((Kd.slice 56 k56)).K W l [.slice a0 len0 cap0] ∧ (l.length ≤ maxLen ∧ ∀ x ∈ l, wf_56 x) := by
  obtain ⟨fuel, hf⟩ := k0
  exact (Opens.slice Try.underlying32 (by kernel_rfl) opens_56) enc W fuel _ _ hf
 simp only [List.cons.injEq, and_true, Value.slice.injEq] at hcs0
 obtain ⟨rfl, rfl, rfl⟩ := hcs0
 have k1 := h1
 have lt1 : ∀ x ∈ p1, x.block < W.heap.size := by obtain ⟨m, hm⟩ := k1; exact DataW.trod_lt m _ _ _ hm
 obtain ⟨a1, rfl, rfl, rfl, hw1⟩ := open_int Try.underlying3 (hval 1 3 v1 rfl rfl) h1
 have k2 := h2
 have lt2 : ∀ x ∈ p2, x.block < W.heap.size := by obtain ⟨m, hm⟩ := k2; exact DataW.trod_lt m _ _ _ hm
 obtain ⟨cs2, rfl⟩ := okWide_arr44 (hval 2 44 v2 rfl rfl)
 obtain ⟨a2_0, a2_1, hcs2, hw2⟩ : ∃ a2_0 a2_1 : Int, (Value.agg cs2).cells.toList = [.int .i64 a2_0, .int .i64 a2_1] ∧ (Lit.int .i64 a2_0).wf = true ∧ (Lit.int .i64 a2_1).wf = true := by
  obtain ⟨fuel, hf⟩ := k2
  exact opens_arr44 enc W fuel _ _ hf
 obtain rfl : cs2 = #[.int .i64 a2_0, .int .i64 a2_1] := by obtain ⟨cs⟩ := cs2; simpa [Value.cells] using hcs2
 clear hA0 hval0 hsz0
 obtain ⟨k, hk⟩ := SpliceRolls l0 a1 a2_0 a2_1 hw0 hw1 hw2.1 hw2.2
 refine (papermilllaw40_SpliceRolls.calls k _ _ l0 a1 a2_0 a2_1 true W hC0 hlc0 hk).mono fun e W' he => ?_
 obtain ⟨he, bel⟩ := he
 subst he
 exact ⟨_, rfl, _, _, _, [], _, [], hW', trodAll_mk1 (shut_bool Try.underlying4 _), (trodAll_cons_mk (Below.trod laidOut (by kernel_rfl) (of_decide_eq_true (by kernel_rfl)) k0 bel lt0) (trodAll_cons_mk (Below.trod laidOut (by kernel_rfl) (of_decide_eq_true (by kernel_rfl)) k1 bel lt1) (trodAll_cons_mk (Below.trod laidOut (by kernel_rfl) (of_decide_eq_true (by kernel_rfl)) k2 bel lt2) trodAll_mk0))), rfl, bel.frame _, fun h => by cases h⟩
theorem over : Rows.spliceRollsRow.holds Try.pinned (OpenSpec.ofChange Rows.spliceRollsSpec) :=
 OpenClaim.holds_of_wide 8 Try.f8 rfl rfl rfl rfl rfl rfl rfl ⟨rfl, rfl, rfl, rfl, rfl⟩ rfl rfl rfl rfl rfl (by kernel_rfl) Try.func8 (by kernel_rfl)
  (of_decide_eq_true (by kernel_rfl)) (by unfold Func.isWrapper; first | (rw [if_pos (by decide +kernel)]; kernel_rfl) | (rw [if_neg (by decide +kernel)]; exact ⟨rfl, rfl⟩))
  (fun os started H enc _ => lifted os started H enc)
theorem proved : Rows.SpliceRollsSaid := over
#print axioms proved
end Go.Proofs.Ytjkakgkiikjdmaa.spliceRolls
namespace Go.Proofs.Ytjkakgkiikjdmaa
theorem spliceRolls_holds : Rows.SpliceRollsSaid := spliceRolls.proved
end Go.Proofs.Ytjkakgkiikjdmaa
