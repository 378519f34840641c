/- The law SpliceKeeps: whatever it is handed, it returns true, and what it is handed reads as before. No conditions. -/
import Derived.Test.YtjkakgkiikjdmaaK6
import Derived.Test.YtjkakgkiikjdmaaQ3
import Derived.Test.YtjkakgkiikjdmaaQ4
import Derived.Test.YtjkakgkiikjdmaaK7
import Derived.Test.YtjkakgkiikjdmaaRows
import Derived.WalkKit
import Derived.ProofKit
import Derived.OpenShut
import Derived.ShutString
import Derived.ChangeOld
import Derived.Below
import Derived.SizedLaws
namespace Go.Proofs.Ytjkakgkiikjdmaa.G
open Go.RowKit Go.Proofs.YtjkakgkiikjdmaaW.PrintWords Go.Proofs.YtjkakgkiikjdmaaW.PrintLast Go.Proofs.YtjkakgkiikjdmaaW.PrintMore
set_option linter.unusedVariables false
set_option linter.unusedSimpArgs false
theorem keepGo_short (n least x : Int) : ∀ (G : List S49) (a : Int), sep (a - 1) G → a ≤ x → x < n → ¬ Mem G x → ¬ Mem (keepGo n least a G) x → ∀ f t : Int, a ≤ f → f ≤ x → x < t → t ≤ n → (∀ y, f ≤ y → y < t → ¬ Mem G y) → t - f < least
 | [], a, hs, h0, h1, hx, hk, f, t, hf, hfx, hxt, htn, hno => by
  unfold keepGo at hk
  by_cases h : least ≤ n - a
  ·rw [if_pos h] at hk
   exact absurd ⟨_, List.mem_singleton.mpr rfl, h0, h1⟩ hk
  ·omega
 | s :: l, a, hs, h0, h1, hx, hk, f, t, hf, hfx, hxt, htn, hno => by
  obtain ⟨s1, s2, s3⟩ := sep_down hs
  have hin : ∀ y, s.f0 ≤ y → y < s.f1 → Mem (s :: l) y := fun y h2 h3 => ⟨s, by simp, h2, h3⟩
  unfold keepGo at hk
  by_cases hlt : x < s.f0
  ·have ht : t ≤ s.f0 := by
    rcases Int.lt_or_le s.f0 t with h2 | h2
    ·exact absurd (hin s.f0 (Int.le_refl _) s2) (hno s.f0 (by omega) h2)
    ·exact h2
   by_cases h : least ≤ min n s.f0 - a
   ·rw [if_pos h] at hk
    exact absurd ⟨_, List.mem_append_left _ (List.mem_singleton.mpr rfl), h0, by dsimp only; omega⟩ hk
   ·omega
  ·have hge : s.f1 ≤ x := by
    rcases Int.lt_or_le x s.f1 with h2 | h2
    ·exact absurd (hin x (by omega) h2) hx
    ·exact h2
   have hf2 : s.f1 ≤ f := by
    rcases Int.lt_or_le f s.f1 with h2 | h2
    ·exact absurd (hin (s.f1 - 1) (by omega) (by omega)) (hno (s.f1 - 1) (by omega) (by omega))
    ·exact h2
   have hsub : ∀ y, Mem l y → Mem (s :: l) y := fun y ⟨u, hu, h2⟩ => ⟨u, by simp [hu], h2⟩
   refine keepGo_short n least x l s.f1 s3 hge h1 (fun h2 => hx (hsub x h2)) (fun ⟨u, hu, h2⟩ => hk ⟨u, List.mem_append_right _ hu, h2⟩) f t hf2 hfx hxt htn (fun y h2 h3 h4 => hno y h2 h3 (hsub y h4))
theorem keepGo_low (n least : Int) : ∀ (G : List S49) (a : Int), ∀ u ∈ keepGo n least a G, sep (a - 1) G → a ≤ u.f0
 | [], a, u, hu, _ => by
  unfold keepGo at hu
  split at hu
  ·rw [List.mem_singleton.mp hu]; dsimp only; omega
  ·simp at hu
 | s :: l, a, u, hu, hs => by
  obtain ⟨s1, s2, s3⟩ := sep_down hs
  unfold keepGo at hu
  rcases List.mem_append.mp hu with hu | hu
  ·split at hu
   ·rw [List.mem_singleton.mp hu]; dsimp only; omega
   ·simp at hu
  ·have := keepGo_low n least l s.f1 u hu s3
   omega
theorem keepGo_out (n least x : Int) : ∀ (G : List S49) (a : Int), sep (a - 1) G → Mem G x → ¬ Mem (keepGo n least a G) x
 | [], a, hs, hx => fun _ => by obtain ⟨s, h, _⟩ := hx; simp at h
 | s :: l, a, hs, hx => fun hk => by
  obtain ⟨s1, s2, s3⟩ := sep_down hs
  unfold keepGo at hk
  obtain ⟨u, hu, u1, u2⟩ := hk
  rcases List.mem_append.mp hu with hu | hu
  ·split at hu
   ·rw [List.mem_singleton.mp hu] at u1 u2
    dsimp only at u1 u2
    have := sep_mem (e := s.f0 - 1) (show sep (s.f0 - 1) (s :: l) from ⟨by omega, s2, hs.2.2⟩) hx
    omega
   ·simp at hu
  ·rcases mem_cons.mp hx with h | h
   ·have hl := keepGo_low n least l s.f1 u hu s3
    omega
   ·exact keepGo_out n least x l s.f1 s3 h ⟨u, hu, u1, u2⟩
theorem common_none {a b : List S49} (ha : check04 a = 0) (hb : check04 b = 0) (h : ∀ x, Mem b x → ¬ Mem a x) : bothOf a b 1 = ([], 0) := by
 obtain ⟨c1, c2⟩ := comb_ok a b 1 (by omega) (-1) (fun s hs => by
  rcases hs with hs | hs
  ·have := (check04_zero ha).2 s hs; unfold badS at this; omega
  ·have := (check04_zero hb).2 s hs; unfold badS at this; omega)
 have e : combOf a b 1 = [] := sep_unique c1 (show sep (-1) ([] : List S49) from trivial) (fun x => by
  rw [c2]
  unfold keeps skips
  constructor
  ·intro hk
   have h1 : hasOf a x = true ∧ hasOf b x = true := by
    cases h2 : hasOf a x <;> cases h3 : hasOf b x <;> simp [h2, h3] at hk ⊢
   exact absurd ((hasOf_iff _ _).mp h1.1) (h x ((hasOf_iff _ _).mp h1.2))
  ·intro hk; exact absurd hk (mem_nil x))
 unfold bothOf
 rw [if_pos ha, if_pos hb, e, if_neg (by simp)]
theorem sep_next : ∀ (l : List S49) (e : Int), sep e l → ∀ (i : Nat) (a b : S49), l[i]? = some a → l[i + 1]? = some b → a.f1 < b.f0
 | [], e, _, i, a, b, h1, _ => by simp at h1
 | s :: l, e, h, 0, a, b, h1, h2 => by
  simp only [List.getElem?_cons_zero, Option.some.injEq] at h1
  rw [List.getElem?_cons_succ] at h2
  subst h1
  have := sep_in h.2.2 b (List.mem_of_getElem? h2)
  omega
 | s :: l, e, h, i + 1, a, b, h1, h2 => sep_next l s.f1 h.2.2 i a b (by simpa using h1) (by simpa using h2)
section
variable (n least x : Int) (bad l : List S49) (hw : ¬ wide n least) (hc : check04 bad = 0) (hl : l = keepGo n least 0 (joinOf bad)) (hk : KeptL n least l)
include hw hc hl hk
omit hk in
theorem keeps_l1 (hx0 : 0 ≤ x) (hx1 : x < n) (hb : ¬ Mem bad x) (ha : ¬ Mem l x) : ∀ (d i : Nat) (f t : Int), bad.length - i = d → i ≤ bad.length → 0 ≤ f → f ≤ x → x < t → t ≤ n → (∀ s ∈ bad.take i, s.f0 < s.f1 → (s.f1 ≤ x → s.f1 ≤ f) ∧ (s.f0 > x → t ≤ s.f0)) → Ends (fun k => papermilllaw40_SpliceKeeps.l1 k bad f t (i : Int) least x) true := by
 have hn : 0 ≤ n ∧ n ≤ 17179869184 := by unfold wide at hw; omega
 obtain ⟨c1, c2⟩ := check04_zero hc
 intro d
 induction d with
 | zero =>
  intro i f t hd hi h0 h1 h2 h3 hall
  rw [List.take_of_length_le (by omega)] at hall
  obtain ⟨j1, j2, j3⟩ := joinOf_fit hc
  have hno : ∀ y, f ≤ y → y < t → ¬ Mem (joinOf bad) y := fun y y1 y2 hm => by
   obtain ⟨s, hs, s1, s2⟩ := (j2 y).mp hm
   have h4 := hall s hs (by omega)
   rcases Int.lt_or_le x s.f0 with h5 | h5
   ·have := h4.2 h5; omega
   ·rcases Int.lt_or_le x s.f1 with h6 | h6
    ·exact hb ⟨s, hs, h5, h6⟩
    ·have := h4.1 h6; omega
  have hs := keepGo_short n least x (joinOf bad) 0 j1 hx0 hx1 (fun h => hb ((j2 x).mp h)) (by rw [← hl]; exact ha) f t h0 h1 h2 h3 hno
  have hww : wrap64 (t - f) = t - f := by unfold wrap64; omega
  refine Ends.succ ?_
  simp only [papermilllaw40_SpliceKeeps.l1, papermilllaw40_awake.f, Option.bind_some, hww]
  exact Ends.neg (by omega) (Ends.pos hs (Ends.ret _))
 | succ d ih =>
  intro i f t hd hi h0 h1 h2 h3 hall
  have hmem : rd_T49 bad (i : Int) ∈ bad := by rw [rd36 bad i (by omega)]; exact List.getElem_mem _
  have hsn : bad.take (i + 1) = bad.take i ++ [rd_T49 bad (i : Int)] := by rw [List.take_succ_eq_append_getElem (by omega), rd36 bad i (by omega)]
  have hv := c2 _ hmem
  unfold badS at hv
  have hbx : ¬ ((rd_T49 bad (i : Int)).f0 ≤ x ∧ x < (rd_T49 bad (i : Int)).f1) := fun h => hb ⟨_, hmem, h⟩
  have step : ∀ f' t' : Int, 0 ≤ f' → f' ≤ x → x < t' → t' ≤ n → f ≤ f' → t' ≤ t → ((rd_T49 bad (i : Int)).f0 < (rd_T49 bad (i : Int)).f1 → ((rd_T49 bad (i : Int)).f1 ≤ x → (rd_T49 bad (i : Int)).f1 ≤ f') ∧ ((rd_T49 bad (i : Int)).f0 > x → t' ≤ (rd_T49 bad (i : Int)).f0)) → Ends (fun k => papermilllaw40_SpliceKeeps.l1 k bad f' t' ((i + 1 : Nat) : Int) least x) true := by
   intro f' t' g0 g1 g2 g3 g4 g5 g6
   refine ih (i + 1) f' t' (by omega) (by omega) g0 g1 g2 g3 (fun s hs hs2 => ?_)
   rw [hsn] at hs
   rcases List.mem_append.mp hs with hs | hs
   ·have := hall s hs hs2
    exact ⟨fun h => by have := this.1 h; omega, fun h => by have := this.2 h; omega⟩
   ·rw [List.mem_singleton.mp hs] at hs2 ⊢
    exact g6 hs2
  have hmx : ∀ q r : Int, mx q r = max q r := fun q r => by unfold mx; split <;> omega
  have hmn : ∀ q r : Int, mn q r = min q r := fun q r => by unfold mn; split <;> omega
  refine Ends.succ ?_
  simp only [papermilllaw40_SpliceKeeps.l1, wrap_nat i (by omega)]
  generalize hs_ : rd_T49 bad (i : Int) = s at *
  refine Ends.pos (by omega) (Ends.pos (by omega) ?_)
  have j5 : ∀ z : Bool, z = (decide (s.f0 < s.f1) && decide (s.f1 ≤ x)) → Ends (fun k => papermilllaw40_SpliceKeeps.j5 k bad f t (i : Int) z least x) true := by
   intro z hz
   refine Ends.succ ?_
   simp only [papermilllaw40_SpliceKeeps.j5, wrap_nat i (by omega), hs_, hmx, hmn]
   cases z with
   | true =>
    have hz1 : s.f0 < s.f1 ∧ s.f1 ≤ x := by
     have := hz.symm
     simpa using this
    refine Ends.pos rfl (Ends.pos (by omega) (Ends.pos (by omega) (Ends.pos hz1.1 (Ends.neg (by omega) ?_))))
    exact step (max f s.f1) t (by omega) (by omega) (by omega) (by omega) (by omega) (by omega) (fun _ => by omega)
   | false =>
    have hz1 : ¬ (s.f0 < s.f1 ∧ s.f1 ≤ x) := fun h => by
     have := hz.symm
     simp [h.1, h.2] at this
    refine Ends.neg (by simp) (Ends.pos (by omega) (Ends.pos (by omega) ?_))
    by_cases g1 : s.f0 < s.f1
    ·refine Ends.pos g1 ?_
     by_cases g2 : s.f0 > x
     ·exact Ends.pos g2 (step f (min t s.f0) (by omega) (by omega) (by omega) (by omega) (by omega) (by omega) (fun _ => by omega))
     ·exact Ends.neg g2 (step f t (by omega) (by omega) (by omega) (by omega) (by omega) (by omega) (fun _ => by omega))
    ·exact Ends.neg g1 (step f t (by omega) (by omega) (by omega) (by omega) (by omega) (by omega) (fun h => absurd h g1))
  by_cases g1 : s.f0 < s.f1
  ·exact Ends.pos g1 (j5 _ (by simp [g1]))
  ·exact Ends.neg g1 (j5 _ (by simp [g1]))
omit hk in
theorem keeps_j3 (z : Bool) (hz : z = false → 0 ≤ x ∧ x < n ∧ ¬ Mem bad x ∧ ¬ Mem l x) : Ends (fun k => papermilllaw40_SpliceKeeps.j3 k n bad z least x) true := by
 refine Ends.succ ?_
 simp only [papermilllaw40_SpliceKeeps.j3, papermilllaw40_awake.f, Option.bind_some]
 cases z with
 | true => exact Ends.pos rfl (Ends.ret _)
 | false =>
  obtain ⟨h0, h1, h2, h3⟩ := hz rfl
  exact Ends.neg (by simp) (keeps_l1 n least x bad l hw hc hl h0 h1 h2 h3 _ 0 0 n rfl (by omega) (by omega) h0 h1 (by omega) (by simp))
theorem keeps_l0 : ∀ (d i : Nat), l.length - i = d → i ≤ l.length → Ends (fun k => papermilllaw40_SpliceKeeps.l0 k n bad l (i : Int) least x) true := by
 have hn : 0 ≤ n ∧ n ≤ 17179869184 := by unfold wide at hw; omega
 have hle : 1 ≤ least := by unfold wide at hw; omega
 have hfew := hk.few
 intro d
 induction d with
 | zero =>
  intro i hd hi
  obtain ⟨j1, j2, j3⟩ := joinOf_fit hc
  have hck := hk.check hw
  have hcm : bothOf l bad 1 = ([], 0) := common_none hck hc (fun y hy => by
   rw [hl]
   exact keepGo_out n least y (joinOf bad) 0 j1 ((j2 y).mpr hy))
  have htt : totalOf l = (tot l, 0) := by unfold totalOf; rw [if_pos hck, hk.join hw]
  have hkp : keepOf n bad least = (l, 0) := by
   unfold keepOf
   rw [if_neg hw, if_pos hc, ← hl, if_neg (by omega)]
  have hwst : wasteOf n bad least = (n - tot l, 0) := by unfold wasteOf; rw [hkp]; rfl
  have ht := hk.tot_
  have hww : wrap64 (tot l + (n - tot l)) = n := by unfold wrap64; omega
  refine Ends.succ ?_
  simp only [papermilllaw40_SpliceKeeps.l0]
  refine Ends.neg (by omega) (Ends.bind ((common_ends l bad).congr hcm) (Ends.bind ((total_ends l).congr htt) (Ends.bind ((swaste_ends n bad least).congr hwst) ?_)))
  refine Ends.pos rfl (Ends.pos rfl (Ends.pos rfl (Ends.pos rfl (Ends.succ ?_))))
  simp only [papermilllaw40_SpliceKeeps.j2, hww, span_Has.f, if_pos (show bad.length ≤ 1000000 by have := (check04_zero hc).1; omega), if_pos (show l.length ≤ 1000000 by omega), Option.bind_some]
  refine Ends.neg (by simp) ?_
  by_cases h0 : x < 0
  ·exact Ends.pos h0 (keeps_j3 n least x bad l hw hc hl true (by simp))
  ·refine Ends.neg h0 ?_
   by_cases h1 : x ≥ n
   ·exact Ends.pos h1 (keeps_j3 n least x bad l hw hc hl true (by simp))
   ·refine Ends.neg h1 ?_
    by_cases h2 : hasOf bad x = true
    ·exact Ends.pos h2 (keeps_j3 n least x bad l hw hc hl true (by simp))
    ·refine Ends.neg h2 (keeps_j3 n least x bad l hw hc hl _ (fun h3 => ⟨by omega, by omega, fun h => h2 ((hasOf_iff _ _).mpr h), fun h => ?_⟩))
     rw [(hasOf_iff _ _).mpr h] at h3
     cases h3
 | succ d ih =>
  intro i hd hi
  have hin := hk.in_ (rd_T49 l (i : Int)) (by rw [rd36 l i (by omega)]; exact List.getElem_mem _)
  have hprev : 0 < i → (rd_T49 l ((i - 1 : Nat) : Int)).f1 < (rd_T49 l (i : Int)).f0 := fun h => by
   rw [rd36 l i (by omega), rd36 l (i - 1) (by omega)]
   have h2 := sep_next l (-1) hk.sep_ (i - 1) l[i - 1] l[i] (List.getElem?_eq_getElem (by omega)) (by rw [show i - 1 + 1 = i by omega]; exact List.getElem?_eq_getElem (by omega))
   exact h2
  have hih := ih (i + 1) (by omega) (by omega)
  refine Ends.succ ?_
  have hww : wrap64 ((rd_T49 l (i : Int)).f1 - (rd_T49 l (i : Int)).f0) = (rd_T49 l (i : Int)).f1 - (rd_T49 l (i : Int)).f0 := by unfold wrap64; omega
  simp only [papermilllaw40_SpliceKeeps.l0, wrap_nat i (by omega), hww]
  refine Ends.pos (by omega) (Ends.pos (by omega) (Ends.neg (by omega) (Ends.neg (by omega) (Ends.neg (by omega) ?_))))
  by_cases h : (i : Int) > 0
  ·have hwp : wrap64 ((i : Int) - 1) = ((i - 1 : Nat) : Int) := by unfold wrap64; omega
   rw [hwp]
   have := hprev (by omega)
   exact Ends.pos h (Ends.pos (by omega) (Ends.pos (by omega) (Ends.neg (by omega) hih)))
  ·exact Ends.neg h hih
end
theorem SpliceKeeps : ∀ (a0 : Int) (l1 : List (S49)) (a2_0 : Int) (a2_1 : Int), (Lit.int .i64 a0).wf = true → (l1.length ≤ maxLen ∧ ∀ x ∈ l1, wf_49 x) → (Lit.int .i64 a2_0).wf = true → (Lit.int .i64 a2_1).wf = true → ∃ k, papermilllaw40_SpliceKeeps.f k a0 l1 a2_0 a2_1 = some true := by
 intro n bad least x _ _ _ _
 suffices h : Ends (fun k => papermilllaw40_SpliceKeeps.f k n bad least x) true from h.get
 unfold papermilllaw40_SpliceKeeps.f
 simp only [papermilllaw40_great.f, papermilllaw40_awake.f, splice_Keep.f, Option.bind_some]
 by_cases hg : (bad.length : Int) > 300
 ·exact Ends.pos (by simpa using hg) (Ends.ret _)
 ·refine Ends.neg (by simpa using hg) ?_
  by_cases h0 : (keepOf n bad least).2 = 0
  ·obtain ⟨h1, h2, h3, h4⟩ := keep_split n bad least h0
   have hn := h1
   unfold wide at hn
   refine Ends.pos h0 ?_
   generalize (keepOf n bad least).1 = l at *
   have hf := h4.few
   refine Ends.neg (by omega) (Ends.neg (by omega) (Ends.succ ?_))
   simp only [papermilllaw40_SpliceKeeps.j0]
   exact Ends.neg (by simp; omega) (keeps_l0 n least x bad l h1 h2 h3 h4 _ 0 rfl (by omega))
  ·refine Ends.neg h0 (Ends.pos ?_ (Ends.ret _))
   have : (keepOf n bad least).1 = [] := by
    unfold keepOf at h0 ⊢
    split at h0
    ·rename_i hw; rw [if_pos hw]
    ·rename_i hw
     rw [if_neg hw]
     split at h0
     ·rename_i hc
      rw [if_pos hc]
      split at h0
      ·rename_i hq; rw [if_pos hq]
      ·exact absurd rfl h0
     ·rename_i hc; rw [if_neg hc]
   rw [this]
   rfl
end Go.Proofs.Ytjkakgkiikjdmaa.G

namespace Go.Proofs.Ytjkakgkiikjdmaa.spliceKeeps
open Go.ChangeShapes Go.WideShapes Go.ChangeAt Go.RowKit Go.Proofs.YtjkakgkiikjdmaaW.PrintWords Go.Proofs.YtjkakgkiikjdmaaW.PrintLast Go.Proofs.Ytjkakgkiikjdmaa.G
open Go.ChangeMaps (open_string shut_string)
set_option linter.unusedVariables false
set_option linter.unusedSimpArgs false
theorem own : ownKnob Try.prog.godebug = none := by kernel_rfl
theorem laidOut : laidOutB Try.prog = true := by kernel_rfl
set_option maxRecDepth 100000 in
theorem okWide_arr44 {W : World} {base : Nat} {v : Value} (h : Value.okWide Try.prog W .any base 44 v) : ∃ cs, v = .agg cs := by
 simp only [Value.okWide, Try.underlying44] at h
 obtain ⟨cs, h1, _⟩ := h
 exact ⟨cs, h1⟩
set_option maxRecDepth 100000 in
theorem opens_arr44 {H : Type} (enc : TypeId × Value → H) (W : World) (fuel : Nat) (cs : List Value) (x : DataW H × List MemPlace) (h : DataW.trod enc Try.prog W 0 (fun _ => true) true fuel 44 cs = some x) : ∃ v0 v1 : Int, cs = [.int .i64 v0, .int .i64 v1] ∧ (Lit.int .i64 v0).wf = true ∧ (Lit.int .i64 v1).wf = true := by
 obtain ⟨xs, n, rfl, rfl, hlen, hxl, hf⟩ := DataW.trod_array Try.underlying44 h
 have hc : Try.prog.cellsOf 44 = 2 := by kernel_rfl
 have hc1 : Try.prog.cellsOf 3 = 1 := by kernel_rfl
 rw [hc] at hlen
 rw [hc1] at hf
 match cs, hlen with
 | [c0, c1], _ =>
  match xs, hxl with
  | [y0, y1], _ =>
   obtain ⟨v0, q0, w0⟩ := (Opens.int Try.underlying3) enc W n [c0] y0 (hf 0 (by omega))
   cases q0
   obtain ⟨v1, q1, w1⟩ := (Opens.int Try.underlying3) enc W n [c1] y1 (hf 1 (by omega))
   cases q1
   exact ⟨v0, v1, rfl, w0, w1⟩
set_option maxRecDepth 100000 in
theorem lifted (os : Os) (started : os.Started) (H : Type) (enc : TypeId × Value → H) :
  ReturnsInHanded {} Try.checked os 9 .any (Rows.spliceKeepsSpec.pre6 enc Try.prog Try.f9 Rows.spliceKeepsRow.domain false) (Rows.spliceKeepsSpec.post enc Try.prog Try.f9 false true false false) := by
 refine returnsInHanded_of_change_sized (C := Try.checked) own started (by kernel_rfl) Try.func9
  (ChangeSpec.witness6 (enc := enc) (C := Try.checked) false ⟨#[], #[.int .i64 0, .slice none 0 0, .agg #[.int .i64 0, .int .i64 0]], []⟩ 8 (by kernel_rfl) (by kernel_rfl) (by kernel_rfl) (by kernel_rfl)) ?_
 intro W base args ds gs before hval0 hW hcnd hsz0 _
 have hval : ∀ (j : Nat) t v, Try.f9.params[j]? = some t → args[j]? = some v → Value.okWide Try.prog W .any base t v := hval0
 have hW' := hW
 obtain ⟨p, q, hA0, hV, rfl, hfz, hnd⟩ := hW
 have hA : DataW.TrodAll enc Try.prog W 0 (fun _ => true) true Try.f9.params.toList args.toList ds p := hA0
 rw [Try.params9] at hA hval
 obtain ⟨v0, vs0, d0, ds0, p0, q0, hargs, rfl, rfl, h0, r0⟩ := trodAll_cons hA
 obtain ⟨v1, vs1, d1, ds1, p1, q1, rfl, rfl, rfl, h1, r1⟩ := trodAll_cons r0
 obtain ⟨v2, vs2, d2, ds2, p2, q2, rfl, rfl, rfl, h2, r2⟩ := trodAll_cons r1
 obtain ⟨rfl, rfl, rfl⟩ := trodAll_nil r2
 obtain rfl : args = #[v0, v1, v2] := by cases args; simp_all
 obtain ⟨rfl, rfl⟩ := trodVars_none hV
 have k0 := h0
 have lt0 : ∀ x ∈ p0, x.block < W.heap.size := by obtain ⟨m, hm⟩ := k0; exact DataW.trod_lt m _ _ _ hm
 obtain ⟨a0, rfl, rfl, rfl, hw0⟩ := open_int Try.underlying3 (hval 0 3 v0 rfl rfl) h0
 have k1 := h1
 have lt1 : ∀ x ∈ p1, x.block < W.heap.size := by obtain ⟨m, hm⟩ := k1; exact DataW.trod_lt m _ _ _ hm
 obtain ⟨a1, len1, cap1, rfl⟩ := okWide_slice Try.underlying22 (hval 1 22 v1 rfl rfl)
 obtain ⟨l1, ⟨A1, c1, hcs1, hlc1, hC1⟩, hw1⟩ : ∃ l, ((Kd.slice 49 k49)).K W l [.slice a1 len1 cap1] ∧ (l.length ≤ maxLen ∧ ∀ x ∈ l, wf_49 x) := by
  obtain ⟨fuel, hf⟩ := k1
  exact (Opens.slice Try.underlying22 (by kernel_rfl) opens_49) enc W fuel _ _ hf
 simp only [List.cons.injEq, and_true, Value.slice.injEq] at hcs1
 obtain ⟨rfl, rfl, rfl⟩ := hcs1
 have k2 := h2
 have lt2 : ∀ x ∈ p2, x.block < W.heap.size := by obtain ⟨m, hm⟩ := k2; exact DataW.trod_lt m _ _ _ hm
 obtain ⟨cs2, rfl⟩ := okWide_arr44 (hval 2 44 v2 rfl rfl)
 obtain ⟨a2_0, a2_1, hcs2, hw2⟩ : ∃ a2_0 a2_1 : Int, (Value.agg cs2).cells.toList = [.int .i64 a2_0, .int .i64 a2_1] ∧ (Lit.int .i64 a2_0).wf = true ∧ (Lit.int .i64 a2_1).wf = true := by
  obtain ⟨fuel, hf⟩ := k2
  exact opens_arr44 enc W fuel _ _ hf
 obtain rfl : cs2 = #[.int .i64 a2_0, .int .i64 a2_1] := by obtain ⟨cs⟩ := cs2; simpa [Value.cells] using hcs2
 clear hA0 hval0 hsz0
 obtain ⟨k, hk⟩ := SpliceKeeps a0 l1 a2_0 a2_1 hw0 hw1 hw2.1 hw2.2
 refine (papermilllaw40_SpliceKeeps.calls k a0 _ _ l1 a2_0 a2_1 true W hC1 hlc1 hk).mono fun e W' he => ?_
 obtain ⟨he, bel⟩ := he
 subst he
 exact ⟨_, rfl, _, _, _, [], _, [], hW', trodAll_mk1 (shut_bool Try.underlying4 _), (trodAll_cons_mk (Below.trod laidOut (by kernel_rfl) (of_decide_eq_true (by kernel_rfl)) k0 bel lt0) (trodAll_cons_mk (Below.trod laidOut (by kernel_rfl) (of_decide_eq_true (by kernel_rfl)) k1 bel lt1) (trodAll_cons_mk (Below.trod laidOut (by kernel_rfl) (of_decide_eq_true (by kernel_rfl)) k2 bel lt2) trodAll_mk0))), rfl, bel.frame _, fun h => by cases h⟩
theorem over : Rows.spliceKeepsRow.holds Try.pinned (OpenSpec.ofChange Rows.spliceKeepsSpec) :=
 OpenClaim.holds_of_wide 9 Try.f9 rfl rfl rfl rfl rfl rfl rfl ⟨rfl, rfl, rfl, rfl, rfl⟩ rfl rfl rfl rfl rfl (by kernel_rfl) Try.func9 (by kernel_rfl)
  (of_decide_eq_true (by kernel_rfl)) (by unfold Func.isWrapper; first | (rw [if_pos (by decide +kernel)]; kernel_rfl) | (rw [if_neg (by decide +kernel)]; exact ⟨rfl, rfl⟩))
  (fun os started H enc _ => lifted os started H enc)
theorem proved : Rows.SpliceKeepsSaid := over
#print axioms proved
end Go.Proofs.Ytjkakgkiikjdmaa.spliceKeeps
namespace Go.Proofs.Ytjkakgkiikjdmaa
theorem spliceKeeps_holds : Rows.SpliceKeepsSaid := spliceKeeps.proved
end Go.Proofs.Ytjkakgkiikjdmaa
