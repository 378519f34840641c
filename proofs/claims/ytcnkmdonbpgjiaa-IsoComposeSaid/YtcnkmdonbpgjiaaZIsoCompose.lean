/- The law IsoCompose: whatever it is handed, it returns true, and what it is handed reads as before. No conditions. -/
import Derived.Test.YtcnkmdonbpgjiaaK7
import Derived.Test.YtcnkmdonbpgjiaaQ5
import Derived.Test.YtcnkmdonbpgjiaaK8
import Derived.Test.YtcnkmdonbpgjiaaK6
import Derived.Test.YtcnkmdonbpgjiaaRows
import Derived.WalkKit
import Derived.ProofKit
import Derived.OpenShut
import Derived.ShutString
import Derived.ChangeOld
import Derived.Below
import Derived.SizedLaws
namespace Go.Proofs.Ytcnkmdonbpgjiaa.G
open Go.RowKit Go.Proofs.YtcnkmdonbpgjiaaW.PrintWords Go.Proofs.YtcnkmdonbpgjiaaW.PrintLast Go.Proofs.YtcnkmdonbpgjiaaW.PrintMore
set_option linter.unusedVariables false
set_option linter.unusedSimpArgs false
def atV (m : List S32) (x : Int) : Int := if (atOf13 m x).2 = 0 then (atOf13 m x).1 else -1
theorem atV_is (m : List S32) (x : Int) : papermilllaw13_at.f m x = some (atV m x) := by
 unfold papermilllaw13_at.f atV
 simp only [iso_At.f, Option.bind_some]
 split <;> rfl
theorem atv {m : List S32} (h : check13 m = 0) (x : Int) : atV m x = if x < 0 ∨ x ≥ tot13 m then -1 else (sem m).getD x.toNat 0 := by
 unfold atV atOf13
 rw [if_pos h]
 by_cases hx : x < 0 ∨ x ≥ tot13 m
 ·rw [if_pos hx, if_pos hx, if_neg (by simp)]
 ·rw [if_neg hx, if_neg hx, if_pos rfl]
theorem atv_nrm {xs : List Int} (h : check13 (nrm xs) = 0) (x : Int) : atV (nrm xs) x = if x < 0 ∨ x ≥ xs.length then -1 else xs.getD x.toNat 0 := by
 rw [atv h, tot_nrm, sem_nrm]
theorem comp_at {a b : List S32} (h : (compOf13 a b).2 = 0) (x : Int) : atV (compOf13 a b).1 x = atV b (atV a x) := by
 obtain ⟨c1, c2, c3, c4, c5⟩ := comp_ok h
 have cf := cmp_fair h
 have hl : ((cmp a b).length : Int) = tot13 a := by unfold cmp; rw [List.length_map]; exact sem_tot c1
 rw [c4, atv_nrm cf, atv c1]
 by_cases hx : x < 0 ∨ x ≥ tot13 a
 ·rw [if_pos (by omega), if_pos hx, atv c2, if_pos (.inl (by omega))]
 ·have hs := sem_tot c1
  rw [if_neg (by omega), if_neg hx]
  have hi : x.toNat < (sem a).length := by omega
  have e : (sem a).getD x.toNat 0 = (sem a)[x.toNat] := by rw [List.getD_eq_getElem?_getD, List.getElem?_eq_getElem hi]; rfl
  have hy := far_sem (check13_zero c1).2.1 c3 _ (List.getElem_mem hi)
  rw [e, atv c2, if_neg (by omega)]
  unfold cmp
  rw [List.getD_eq_getElem?_getD, List.getElem?_map, List.getElem?_eq_getElem hi]
  rfl
theorem part_at {a : List S32} (h : check13 a = 0) (f t x : Int) (h0 : 0 ≤ f) (h1 : f ≤ t) (h2 : t ≤ tot13 a) (hx0 : 0 ≤ x) (hx1 : x < t - f) : atV (nrm (((sem a).take t.toNat).drop f.toNat)) x = atV a (f + x) := by
 have hs := sem_tot h
 have hn := part_len a f t
 rw [part_fold a h f t] at hn
 have hlen : (((sem a).take t.toNat).drop f.toNat).length = (t - f).toNat := by rw [List.length_drop, List.length_take]; omega
 have hc : check13 (nrm (((sem a).take t.toNat).drop f.toNat)) = 0 := by
  refine check_nrm _ (fun y hy => sem_fit (check13_zero h).2.1 y (List.mem_of_mem_take (List.mem_of_mem_drop hy))) ?_ (by have := (check13_zero h).1; omega)
  have := sem_small h
  rw [hlen]; omega
 rw [atv_nrm hc, atv h, if_neg (by omega), if_neg (by omega), List.getD_eq_getElem?_getD, List.getD_eq_getElem?_getD, List.getElem?_drop, List.getElem?_take, if_pos (by omega), show f.toNat + x.toNat = (f + x).toNat by omega]
theorem rev_at {a : List S32} (h : check13 a = 0) (x : Int) (hx0 : 0 ≤ x) (hx1 : x < tot13 a) : atV (nrm (sem a).reverse) x = atV a (tot13 a - 1 - x) := by
 have hs := sem_tot h
 rw [atv_nrm (rev_fair h), atv h, List.length_reverse, if_neg (by omega), if_neg (by omega), List.getD_eq_getElem?_getD, List.getD_eq_getElem?_getD, List.getElem?_reverse (by omega), show (sem a).length - 1 - x.toNat = (tot13 a - 1 - x).toNat by omega]
section
variable (a b : List S32) (ha : check13 a = 0) (hb : check13 b = 0) (hla : a.length ≤ 60) (hlb : b.length ≤ 60) (f t x : Int) (hwf : -9223372036854775808 ≤ f ∧ f ≤ 9223372036854775807) (hwt : -9223372036854775808 ≤ t ∧ t ≤ 9223372036854775807) (hwx : -9223372036854775808 ≤ x ∧ x ≤ 9223372036854775807)
include ha hb
include hla hlb in
theorem compose_j5 : Ends (fun k => papermilllaw13_IsoCompose.j5 k x a b (tot13 a) (tot13 b) false) true := by
 have ta := (check13_zero ha).2.2
 have tb := (check13_zero hb).2.2
 have t0 := tot_nonneg ha
 have t1 := tot_nonneg hb
 have sa := sem_tot ha
 have sb := sem_tot hb
 have hw : wrap64 (tot13 a + tot13 b) = tot13 a + tot13 b := by unfold wrap64; omega
 refine Ends.succ ?_
 simp only [papermilllaw13_IsoCompose.j5, papermilllaw13_awake.f, iso_Join.f, Option.bind_some, atV_is, hw]
 refine Ends.neg (by simp) ?_
 by_cases hbig : tot13 a + tot13 b > 17179869184
 ·have e : joinOf13 a b = ([], 21) := by unfold joinOf13; rw [if_pos ha, if_pos hb, if_pos hbig]
  rw [e]
  exact Ends.neg (by simp) (Ends.pos (by first | trivial | rfl) (Ends.pos hbig (Ends.ret _)))
 ·have hn : (nrm (sem a ++ sem b)).length ≤ 120 := by
   rw [← sem_append]
   have := nrm_len (a ++ b) (fun r hr => by
    rcases List.mem_append.mp hr with hr | hr
    ·have := fit_of ((check13_zero ha).2.1 r hr); unfold fitR at this; omega
    ·have := fit_of ((check13_zero hb).2.1 r hr); unfold fitR at this; omega)
   rw [List.length_append] at this
   omega
  have e : joinOf13 a b = (nrm (sem a ++ sem b), 0) := by unfold joinOf13; rw [if_pos ha, if_pos hb, if_neg hbig, if_neg (by omega)]
  have hc : check13 (nrm (sem a ++ sem b)) = 0 := by
   refine check_nrm _ (fun y hy => ?_) (by rw [List.length_append]; omega) (by omega)
   rcases List.mem_append.mp hy with hy | hy
   ·exact sem_fit (check13_zero ha).2.1 y hy
   ·exact sem_fit (check13_zero hb).2.1 y hy
  have hfst : 0 ≤ x → x < tot13 a → atV (nrm (sem a ++ sem b)) x = atV a x := fun h0 h1 => by
   rw [atv_nrm hc, atv ha, List.length_append, if_neg (by omega), if_neg (by omega), List.getD_eq_getElem?_getD, List.getD_eq_getElem?_getD, List.getElem?_append_left (by omega)]
  have hsnd : tot13 a ≤ x → x < tot13 a + tot13 b → atV (nrm (sem a ++ sem b)) x = atV b (wrap64 (x - tot13 a)) := fun h0 h1 => by
   have hww : wrap64 (x - tot13 a) = x - tot13 a := by unfold wrap64; omega
   rw [hww, atv_nrm hc, atv hb, List.length_append, if_neg (by omega), if_neg (by omega), List.getD_eq_getElem?_getD, List.getD_eq_getElem?_getD, List.getElem?_append_right (by omega), show x.toNat - (sem a).length = (x - tot13 a).toNat by omega]
  rw [e]
  refine Ends.pos (by first | trivial | rfl) ?_
  by_cases h0 : x < 0
  ·exact Ends.pos h0 (Ends.pos (by omega) (Ends.ret _))
  ·refine Ends.neg h0 ?_
   by_cases h1 : x ≥ tot13 a
   ·refine Ends.pos h1 (Ends.neg (by omega) ?_)
    by_cases h2 : x ≥ tot13 a + tot13 b
    ·exact Ends.pos h2 (Ends.ret _)
    ·exact Ends.neg h2 (Ends.pos (hsnd h1 (by omega)) (Ends.ret _))
   ·exact Ends.neg h1 (Ends.pos (hfst (by omega) (by omega)) (Ends.pos (by omega) (Ends.ret _)))
include hla hlb in
theorem compose_j4 : Ends (fun k => papermilllaw13_IsoCompose.j4 k x a b (tot13 a) (tot13 b) false) true := by
 have ta := (check13_zero ha).2.2
 have t0 := tot_nonneg ha
 have hr : revOf a = (nrm (sem a).reverse, 0) := by unfold revOf; rw [if_pos ha]
 have hj := compose_j5 a b ha hb hla hlb x
 refine Ends.succ ?_
 simp only [papermilllaw13_IsoCompose.j4, iso_Reverse.f, Option.bind_some, atV_is, hr]
 refine Ends.neg (by simp) (Ends.pos (by first | trivial | rfl) ?_)
 by_cases h0 : x ≥ 0
 ·refine Ends.pos h0 ?_
  by_cases h1 : x < tot13 a
  ·have hw : wrap64 (wrap64 (tot13 a - 1) - x) = tot13 a - 1 - x := by unfold wrap64; omega
   refine Ends.pos h1 ?_
   rw [hw, rev_at ha x h0 h1]
   simpa using hj
  ·exact Ends.neg h1 hj
 ·exact Ends.neg h0 hj
include hla hlb hwf hwt hwx in
theorem compose_j2 : Ends (fun k => papermilllaw13_IsoCompose.j2 k x a b (tot13 a) (tot13 b) false f t) true := by
 have ta := (check13_zero ha).2.2
 have t0 := tot_nonneg ha
 have hj := compose_j4 a b ha hb hla hlb x
 have j3 : ∀ z : Bool, z = false → Ends (fun k => papermilllaw13_IsoCompose.j3 k x a b (tot13 a) (tot13 b) (partOf13 a f t).1 (partOf13 a f t).2 z f t) true := by
  intro z hz
  subst hz
  refine Ends.succ ?_
  simp only [papermilllaw13_IsoCompose.j3, Option.bind_some, atV_is]
  refine Ends.neg (by simp) ?_
  by_cases hp : f < 0 ∨ f > t ∨ t > tot13 a
  ·have e : partOf13 a f t = ([], 1) := by unfold partOf13; rw [if_pos ha, if_pos hp]
   rw [e]
   exact Ends.neg (by simp) hj
  ·have e : partOf13 a f t = (nrm (((sem a).take t.toNat).drop f.toNat), 0) := by unfold partOf13; rw [if_pos ha, if_neg hp]
   rw [e]
   refine Ends.pos (by first | trivial | rfl) ?_
   have hw : wrap64 (t - f) = t - f := by unfold wrap64; omega
   by_cases h0 : x ≥ 0
   ·refine Ends.pos h0 ?_
    rw [hw]
    by_cases h1 : x < t - f
    ·have hw2 : wrap64 (f + x) = f + x := by unfold wrap64; omega
     refine Ends.pos h1 ?_
     dsimp only
     rw [hw2, part_at ha f t x (by omega) (by omega) (by omega) h0 h1]
     simpa using hj
    ·exact Ends.neg h1 hj
   ·exact Ends.neg h0 hj
 have hp2 : ((partOf13 a f t).2 == 0) = decide (0 ≤ f ∧ f ≤ t ∧ t ≤ tot13 a) := by
  by_cases hp : f < 0 ∨ f > t ∨ t > tot13 a
  ·have e : partOf13 a f t = ([], 1) := by unfold partOf13; rw [if_pos ha, if_pos hp]
   rw [e]
   exact (decide_eq_false (by omega)).symm
  ·have e : partOf13 a f t = (nrm (((sem a).take t.toNat).drop f.toNat), 0) := by unfold partOf13; rw [if_pos ha, if_neg hp]
   rw [e]
   exact (decide_eq_true (by omega)).symm
 refine Ends.succ ?_
 simp only [papermilllaw13_IsoCompose.j2, iso_Part.f, Option.bind_some]
 refine Ends.neg (by simp) ?_
 by_cases h0 : f ≥ 0
 ·refine Ends.pos h0 ?_
  by_cases h1 : f ≤ t
  ·refine Ends.pos h1 (j3 _ ?_)
   rw [hp2]
   by_cases h2 : t ≤ tot13 a
   ·simp [h0, h1, h2]
   ·simp [h2]
  ·refine Ends.neg h1 (j3 _ ?_)
   rw [hp2]
   simp [h1]
 ·refine Ends.neg h0 (j3 _ ?_)
  rw [hp2]
  have : ¬ 0 ≤ f := by omega
  simp [this]
include hla hlb hwf hwt hwx in
theorem compose_j0 : Ends (fun k => papermilllaw13_IsoCompose.j0 k x a b false f t) true := by
 have ta := (check13_zero ha).2.2
 have tb := (check13_zero hb).2.2
 have t0 := tot_nonneg ha
 have t1 := tot_nonneg hb
 have hj := compose_j2 a b ha hb hla hlb f t x hwf hwt hwx
 have hlen : ∀ m : List S32, check13 m = 0 → Ends (fun k => iso_Length.f k m) (tot13 m, 0) := by
  intro m h
  obtain ⟨hl, hg, _⟩ := check13_zero h
  unfold iso_Length.f
  exact Ends.bind (icheck_ends m) (Ends.pos h (Ends.bind (ilength_ends m (by omega) (fun r hr => by have := fit_of (hg r hr); unfold fitR at this; omega)) (Ends.ret _)))
 have j1 : Ends (fun k => papermilllaw13_IsoCompose.j1 k x a b (tot13 a) (tot13 b) (decide (tot13 b > 17179869184)) f t) true := by
  refine Ends.succ ?_
  simp only [papermilllaw13_IsoCompose.j1, iso_Compose.f, Option.bind_some, atV_is]
  refine Ends.neg (by simp; omega) ?_
  by_cases h : (compOf13 a b).2 = 0
  ·refine Ends.pos h ?_
   rw [comp_at h x]
   simpa using hj
  ·exact Ends.neg h hj
 refine Ends.succ ?_
 simp only [papermilllaw13_IsoCompose.j0, papermilllaw13_awake.f, Option.bind_some]
 refine Ends.neg (by simp) (Ends.bind (hlen a ha) (Ends.bind (hlen b hb) ?_))
 exact Ends.pos (by first | trivial | rfl) (Ends.pos (by first | trivial | rfl) (Ends.neg (by omega) (Ends.neg (by omega) (Ends.neg (by omega) j1))))
end
theorem compose_skip (a b : List S32) (f t x : Int) : Ends (fun k => papermilllaw13_IsoCompose.j0 k x a b true f t) true := by
 refine Ends.succ ?_
 simp only [papermilllaw13_IsoCompose.j0, papermilllaw13_awake.f, Option.bind_some]
 exact Ends.pos (by first | trivial | rfl) (Ends.ret _)
theorem wf_in {x : Int} (h : (Lit.int .i64 x).wf = true) : -9223372036854775808 ≤ x ∧ x ≤ 9223372036854775807 := by
 simp [Lit.wf, IntKind.min, IntKind.max, IntKind.signed, IntKind.bits] at h
 omega
theorem IsoCompose : ∀ (l0_0 : List (S32)) (l0_1 : List (S32)) (a1_0 : Int) (a1_1 : Int) (a2 : Int), (l0_0.length ≤ maxLen ∧ ∀ x ∈ l0_0, wf_32 x) → (l0_1.length ≤ maxLen ∧ ∀ x ∈ l0_1, wf_32 x) → (Lit.int .i64 a1_0).wf = true → (Lit.int .i64 a1_1).wf = true → (Lit.int .i64 a2).wf = true → ∃ k, papermilllaw13_IsoCompose.f k l0_0 l0_1 a1_0 a1_1 a2 = some true := by
 intro a b f t x _ _ h1 h2 h3
 suffices h : Ends (fun k => papermilllaw13_IsoCompose.f k a b f t x) true from h.get
 unfold papermilllaw13_IsoCompose.f
 by_cases ha : (a.length : Int) > 60
 ·exact Ends.pos ha (compose_skip a b f t x)
 ·refine Ends.neg ha ?_
  by_cases hb : (b.length : Int) > 60
  ·exact Ends.pos hb (compose_skip a b f t x)
  ·refine Ends.neg hb (Ends.bind (icheck_ends a) ?_)
   by_cases ca : check13 a = 0
   ·refine Ends.pos ca (Ends.bind (icheck_ends b) ?_)
    by_cases cb : check13 b = 0
    ·have := compose_j0 a b ca cb (by omega) (by omega) f t x (wf_in h1) (wf_in h2) (wf_in h3)
     simpa [cb] using this
    ·have e : (check13 b != 0) = true := by simpa using cb
     rw [e]
     exact compose_skip a b f t x
   ·exact Ends.neg ca (compose_skip a b f t x)
end Go.Proofs.Ytcnkmdonbpgjiaa.G

namespace Go.Proofs.Ytcnkmdonbpgjiaa.isoCompose
open Go.ChangeShapes Go.WideShapes Go.ChangeAt Go.RowKit Go.Proofs.YtcnkmdonbpgjiaaW.PrintWords Go.Proofs.YtcnkmdonbpgjiaaW.PrintLast Go.Proofs.Ytcnkmdonbpgjiaa.G
open Go.ChangeMaps (open_string shut_string)
set_option linter.unusedVariables false
set_option linter.unusedSimpArgs false
theorem own : ownKnob Try.prog.godebug = none := by kernel_rfl
theorem laidOut : laidOutB Try.prog = true := by kernel_rfl
set_option maxRecDepth 100000 in
theorem okWide_arr51 {W : World} {base : Nat} {v : Value} (h : Value.okWide Try.prog W .any base 51 v) : ∃ cs, v = .agg cs := by
 simp only [Value.okWide, Try.underlying51] at h
 obtain ⟨cs, h1, _⟩ := h
 exact ⟨cs, h1⟩
set_option maxRecDepth 100000 in
theorem opens_arr51 {H : Type} (enc : TypeId × Value → H) (W : World) (fuel : Nat) (cs : List Value) (x : DataW H × List MemPlace) (h : DataW.trod enc Try.prog W 0 (fun _ => true) true fuel 51 cs = some x) : ∃ (A0 : Option Addr) (c0 : Nat) (l0 : List (S32)) (A1 : Option Addr) (c1 : Nat) (l1 : List (S32)), cs = [.slice A0 l0.length c0, .slice A1 l1.length c1] ∧ (l0.length ≤ c0 ∧ Kd.C k32 W A0 l0.length l0 ∧ (l0.length ≤ maxLen ∧ ∀ x ∈ l0, wf_32 x)) ∧ (l1.length ≤ c1 ∧ Kd.C k32 W A1 l1.length l1 ∧ (l1.length ≤ maxLen ∧ ∀ x ∈ l1, wf_32 x)) := by
 obtain ⟨xs, n, rfl, rfl, hlen, hxl, hf⟩ := DataW.trod_array Try.underlying51 h
 have hc : Try.prog.cellsOf 51 = 2 := by kernel_rfl
 have hc1 : Try.prog.cellsOf 22 = 1 := by kernel_rfl
 rw [hc] at hlen
 rw [hc1] at hf
 match cs, hlen with
 | [z0, z1], _ =>
  match xs, hxl with
  | [y0, y1], _ =>
   obtain ⟨l0, ⟨A0, c0, e0, hl0, hC0⟩, w0⟩ := (Opens.slice Try.underlying22 (by kernel_rfl) opens_32) enc W n [z0] y0 (hf 0 (by omega))
   simp only [List.cons.injEq, and_true] at e0
   subst e0
   obtain ⟨l1, ⟨A1, c1, e1, hl1, hC1⟩, w1⟩ := (Opens.slice Try.underlying22 (by kernel_rfl) opens_32) enc W n [z1] y1 (hf 1 (by omega))
   simp only [List.cons.injEq, and_true] at e1
   subst e1
   exact ⟨A0, c0, l0, A1, c1, l1, rfl, ⟨hl0, hC0, w0⟩, ⟨hl1, hC1, w1⟩⟩
set_option maxRecDepth 100000 in
theorem lifted (os : Os) (started : os.Started) (H : Type) (enc : TypeId × Value → H) :
  ReturnsInHanded {} Try.checked os 10 .any (Rows.isoComposeSpec.pre6 enc Try.prog Try.f10 Rows.isoComposeRow.domain false) (Rows.isoComposeSpec.post enc Try.prog Try.f10 false true false false) := by
 refine returnsInHanded_of_change_sized (C := Try.checked) own started (by kernel_rfl) Try.func10
  (ChangeSpec.witness6 (enc := enc) (C := Try.checked) false ⟨#[], #[.agg #[.slice none 0 0, .slice none 0 0], .agg #[.int .i64 0, .int .i64 0], .int .i64 0], []⟩ 8 (by kernel_rfl) (by kernel_rfl) (by kernel_rfl) (by kernel_rfl)) ?_
 intro W base args ds gs before hval0 hW hcnd hsz0 _
 have hval : ∀ (j : Nat) t v, Try.f10.params[j]? = some t → args[j]? = some v → Value.okWide Try.prog W .any base t v := hval0
 have hW' := hW
 obtain ⟨p, q, hA0, hV, rfl, hfz, hnd⟩ := hW
 have hA : DataW.TrodAll enc Try.prog W 0 (fun _ => true) true Try.f10.params.toList args.toList ds p := hA0
 rw [Try.params10] at hA hval
 obtain ⟨v0, vs0, d0, ds0, p0, q0, hargs, rfl, rfl, h0, r0⟩ := trodAll_cons hA
 obtain ⟨v1, vs1, d1, ds1, p1, q1, rfl, rfl, rfl, h1, r1⟩ := trodAll_cons r0
 obtain ⟨v2, vs2, d2, ds2, p2, q2, rfl, rfl, rfl, h2, r2⟩ := trodAll_cons r1
 obtain ⟨rfl, rfl, rfl⟩ := trodAll_nil r2
 obtain rfl : args = #[v0, v1, v2] := by cases args; simp_all
 obtain ⟨rfl, rfl⟩ := trodVars_none hV
 have k0 := h0
 have lt0 : ∀ x ∈ p0, x.block < W.heap.size := by obtain ⟨m, hm⟩ := k0; exact DataW.trod_lt m _ _ _ hm
 obtain ⟨cs0, rfl⟩ := okWide_arr51 (hval 0 51 v0 rfl rfl)
 obtain ⟨A0_0, c0_0, l0_0, A0_1, c0_1, l0_1, hcs0, ⟨hlc0_0, hC0_0, hw0_0⟩, ⟨hlc0_1, hC0_1, hw0_1⟩⟩ : ∃ (A0_0 : Option Addr) (c0_0 : Nat) (l0_0 : List (S32)) (A0_1 : Option Addr) (c0_1 : Nat) (l0_1 : List (S32)), (Value.agg cs0).cells.toList = [.slice A0_0 l0_0.length c0_0, .slice A0_1 l0_1.length c0_1] ∧ (l0_0.length ≤ c0_0 ∧ Kd.C k32 W A0_0 l0_0.length l0_0 ∧ (l0_0.length ≤ maxLen ∧ ∀ x ∈ l0_0, wf_32 x)) ∧ (l0_1.length ≤ c0_1 ∧ Kd.C k32 W A0_1 l0_1.length l0_1 ∧ (l0_1.length ≤ maxLen ∧ ∀ x ∈ l0_1, wf_32 x)) := by
  obtain ⟨fuel, hf⟩ := k0
  exact opens_arr51 enc W fuel _ _ hf
 obtain rfl : cs0 = #[.slice A0_0 l0_0.length c0_0, .slice A0_1 l0_1.length c0_1] := by obtain ⟨cs⟩ := cs0; simpa [Value.cells] using hcs0
 have k1 := h1
 have lt1 : ∀ x ∈ p1, x.block < W.heap.size := by obtain ⟨m, hm⟩ := k1; exact DataW.trod_lt m _ _ _ hm
 obtain ⟨cs1, rfl, _⟩ := okWide_struct Try.underlying37 (hval 1 37 v1 rfl rfl)
 obtain ⟨x1, hK1, hw1⟩ : ∃ x : S37, k37.K W x (Value.agg cs1).cells.toList ∧ wf_37 x := by
  obtain ⟨fuel, hf⟩ := k1
  exact opens_37 enc W fuel _ _ hf
 obtain ⟨a1_0, a1_1⟩ := x1
 have hcs1 := k37_open hK1
 obtain rfl : cs1 = #[.int .i64 a1_0, .int .i64 a1_1] := by obtain ⟨cs⟩ := cs1; simpa [Value.cells] using hcs1
 have k2 := h2
 have lt2 : ∀ x ∈ p2, x.block < W.heap.size := by obtain ⟨m, hm⟩ := k2; exact DataW.trod_lt m _ _ _ hm
 obtain ⟨a2, rfl, rfl, rfl, hw2⟩ := open_int Try.underlying3 (hval 2 3 v2 rfl rfl) h2
 clear hA0 hval0 hsz0
 obtain ⟨k, hk⟩ := IsoCompose l0_0 l0_1 a1_0 a1_1 a2 hw0_0 hw0_1 hw1.1 hw1.2 hw2
 refine (papermilllaw13_IsoCompose.calls k _ _ l0_0 _ _ l0_1 a1_0 a1_1 a2 true W hC0_0 hlc0_0 hC0_1 hlc0_1 hk).mono fun e W' he => ?_
 obtain ⟨he, bel⟩ := he
 subst he
 exact ⟨_, rfl, _, _, _, [], _, [], hW', trodAll_mk1 (shut_bool Try.underlying4 _), (trodAll_cons_mk (Below.trod laidOut (by kernel_rfl) (of_decide_eq_true (by kernel_rfl)) k0 bel lt0) (trodAll_cons_mk (Below.trod laidOut (by kernel_rfl) (of_decide_eq_true (by kernel_rfl)) k1 bel lt1) (trodAll_cons_mk (Below.trod laidOut (by kernel_rfl) (of_decide_eq_true (by kernel_rfl)) k2 bel lt2) trodAll_mk0))), rfl, bel.frame _, fun h => by cases h⟩
theorem over : Rows.isoComposeRow.holds Try.pinned (OpenSpec.ofChange Rows.isoComposeSpec) :=
 OpenClaim.holds_of_wide 10 Try.f10 rfl rfl rfl rfl rfl rfl rfl ⟨rfl, rfl, rfl, rfl, rfl⟩ rfl rfl rfl rfl rfl (by kernel_rfl) Try.func10 (by kernel_rfl)
  (of_decide_eq_true (by kernel_rfl)) (by unfold Func.isWrapper; first | (rw [if_pos (by decide +kernel)]; kernel_rfl) | (rw [if_neg (by decide +kernel)]; exact ⟨rfl, rfl⟩))
  (fun os started H enc _ => lifted os started H enc)
theorem proved : Rows.IsoComposeSaid := over
#print axioms proved
end Go.Proofs.Ytcnkmdonbpgjiaa.isoCompose
namespace Go.Proofs.Ytcnkmdonbpgjiaa
theorem isoCompose_holds : Rows.IsoComposeSaid := isoCompose.proved
end Go.Proofs.Ytcnkmdonbpgjiaa
