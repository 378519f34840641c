/- The law RewindCuts: whatever it is handed, it returns true, and what it is handed reads as before. No conditions. -/
import Derived.Test.YtalpegglbfobiaaD7
import Derived.Test.YtalpegglbfobiaaQ4
import Derived.Test.YtalpegglbfobiaaQ5
import Derived.Test.YtalpegglbfobiaaD6
import Derived.Test.YtalpegglbfobiaaRows
import Derived.WalkKit
import Derived.ProofKit
import Derived.OpenShut
import Derived.ShutString
import Derived.ChangeOld
import Derived.Below
import Derived.SizedLaws
namespace Go.Proofs.Ytalpegglbfobiaa.G
open Go.RowKit Go.Proofs.YtalpegglbfobiaaW.PrintWords Go.Proofs.YtalpegglbfobiaaW.PrintLast Go.Proofs.YtalpegglbfobiaaW.PrintMore
set_option linter.unusedVariables false
set_option linter.unusedSimpArgs false
def imgS (r : S44) : S55 := ⟨mn r.f0 (img r (r.f1 - 1)), mx r.f0 (img r (r.f1 - 1)) + 1⟩
theorem imgS_in {r : S44} (h : ¬ badR r) : 0 ≤ (imgS r).f0 ∧ (imgS r).f0 ≤ (imgS r).f1 ∧ (imgS r).f1 ≤ 17179869184 ∧ (imgS r).f1 - (imgS r).f0 = r.f1 := by
 unfold badR at h
 unfold imgS mn mx img
 dsimp only
 cases hb : r.f2 <;> simp [hb] at h ⊢ <;> (repeat' split) <;> omega
def image13 (l : List S44) : List S55 × Int := if check13 l = 0 then bothOf (l.map imgS) [] 0 else ([], check13 l)
def single13 (l : List S44) : Bool := if (image13 l).2 = 0 then (if (totalOf (image13 l).1).2 = 0 then (totalOf (image13 l).1).1 == tot13 l else false) else false
theorem rimg_is {r : S44} (h : ¬ badR r) : papermillref13_image.f r.f0 r.f1 r.f2 (wrap64 (r.f1 - 1)) = some (img r (r.f1 - 1)) := by
 have hf := fit_of h
 unfold fitR at hf
 have e : wrap64 (r.f1 - 1) = r.f1 - 1 := by unfold wrap64; omega
 have := image_is r (r.f1 - 1) ⟨by omega, by omega, by omega⟩ (by omega) (by omega)
 rw [e]
 exact this
theorem rimage_l0 (l : List S44) (hl : l.length ≤ 256) (hg : ∀ r ∈ l, ¬ badR r) : ∀ (d i : Nat) (o : List S55), l.length - i = d → i ≤ l.length → o.length ≤ i → Ends (fun k => papermillref13_Image.l0 k l o (i : Int)) (bothOf (o ++ (l.drop i).map imgS) [] 0) := by
 intro d
 induction d with
 | zero =>
  intro i o hd hi ho
  refine Ends.succ ?_
  simp only [papermillref13_Image.l0]
  rw [List.drop_of_length_le (by omega), List.map_nil, List.append_nil]
  exact Ends.neg (by omega) (Ends.bind (rnorm_ends o) (Ends.ret _))
 | succ d ih =>
  intro i o hd hi ho
  refine Ends.succ ?_
  have hx := hg (rd_T44 l (i : Int)) (by rw [rdR l i (by omega)]; exact List.getElem_mem _)
  rw [dropR l i (by omega)]
  simp only [papermillref13_Image.l0, wrap_nat i (by omega)]
  generalize rd_T44 l (i : Int) = r at *
  have hi2 := imgS_in hx
  have h1 : (imgS r).f1 = mx r.f0 (img r (r.f1 - 1)) + 1 := rfl
  have e2 : wrap64 (mx r.f0 (img r (r.f1 - 1)) + 1) = mx r.f0 (img r (r.f1 - 1)) + 1 := by unfold wrap64; omega
  refine Ends.pos (by omega) (Ends.pos (by omega) (Ends.bind (Ends.const (rimg_is hx)) (Ends.pos (by omega) ?_)))
  rw [e2]
  refine (ih (i + 1) (o ++ [imgS r]) (by omega) (by omega) (by simp; omega)).congr ?_
  rw [List.append_assoc]
  rfl
theorem rimage_ends (l : List S44) : Ends (fun k => papermillref13_Image.f k l) (image13 l) := by
 unfold papermillref13_Image.f image13
 refine Ends.bind (rcheck_ends l) ?_
 by_cases h : check13 l = 0
 ·rw [if_pos h]
  obtain ⟨hl, hg, _⟩ := check13_zero h
  exact Ends.pos h ((rimage_l0 l hl hg _ 0 [] rfl (by omega) (by simp)).congr (by simp))
 ·rw [if_neg h]
  exact Ends.neg h (Ends.ret _)
theorem image_fine {l : List S44} (h : check13 l = 0) : (image13 l).2 = 0 := by
 obtain ⟨hl, hg, _⟩ := check13_zero h
 have hc : check04 (l.map imgS) = 0 := by
  unfold check04
  rw [if_neg (by rw [List.length_map]; omega), if_neg]
  rintro ⟨s, hs, hb⟩
  obtain ⟨r, hr, rfl⟩ := List.mem_map.mp hs
  have := imgS_in (hg r hr)
  unfold badS at hb
  omega
 unfold image13
 rw [if_pos h, norm_fits hc]
theorem rsingle_ends (l : List S44) : Ends (fun k => papermillref13_Single.f k l) (single13 l) := by
 unfold papermillref13_Single.f single13
 refine Ends.bind (rcheck_ends l) ?_
 by_cases h : check13 l = 0
 ·obtain ⟨hl, hg, _⟩ := check13_zero h
  rw [if_pos (image_fine h)]
  refine Ends.pos h (Ends.bind (rimage_ends l) (Ends.bind (rtotal_ends _) ?_))
  by_cases h2 : (totalOf (image13 l).1).2 = 0
  ·rw [if_pos h2]
   exact Ends.pos h2 (Ends.bind (rlength_ends l (by omega) (fun r hr => by have := fit_of (hg r hr); unfold fitR at this; omega)) (Ends.ret _))
  ·rw [if_neg h2]
   exact Ends.neg h2 (Ends.ret _)
 ·have : (image13 l).2 = check13 l := by unfold image13; rw [if_neg h]
  rw [this, if_neg h]
  exact Ends.neg h (Ends.ret _)
def expS (s : S55) : List Int := (List.range (s.f1 - s.f0).toNat).map fun (i : Nat) => s.f0 + i
def expL (l : List S55) : List Int := l.flatMap expS
theorem mem_expS (s : S55) (x : Int) : x ∈ expS s ↔ s.f0 ≤ x ∧ x < s.f1 := by
 unfold expS
 rw [List.mem_map]
 constructor
 ·rintro ⟨i, hi, rfl⟩
  rw [List.mem_range] at hi
  omega
 ·rintro ⟨h0, h1⟩
  exact ⟨(x - s.f0).toNat, List.mem_range.mpr (by omega), by omega⟩
theorem mem_expL (l : List S55) (x : Int) : x ∈ expL l ↔ Mem l x := by
 unfold expL Mem
 rw [List.mem_flatMap]
 simp only [mem_expS]
theorem expS_up (s : S55) : (expS s).Pairwise (· < ·) := by
 unfold expS
 rw [List.pairwise_map]
 exact List.pairwise_lt_range.imp (by intro a b h; omega)
theorem expL_up : ∀ (l : List S55) (e : Int), sep e l → (expL l).Pairwise (· < ·)
 | [], _, _ => by simp [expL]
 | s :: l, e, h => by
  have ih := expL_up l s.f1 h.2.2
  have e1 : expL (s :: l) = expS s ++ expL l := by simp [expL]
  rw [e1, List.pairwise_append]
  refine ⟨expS_up s, ih, fun a ha b hb => ?_⟩
  have h1 := (mem_expS s a).mp ha
  have h2 := sep_mem h.2.2 ((mem_expL l b).mp hb)
  omega
theorem expL_len : ∀ (l : List S55) (e : Int), sep e l → ((expL l).length : Int) = tot l
 | [], _, _ => by simp [expL, tot]
 | s :: l, e, h => by
  have ih := expL_len l s.f1 h.2.2
  have e1 : expL (s :: l) = expS s ++ expL l := by simp [expL]
  have e2 : (expS s).length = (s.f1 - s.f0).toNat := by simp [expS]
  have := h.2.1
  rw [e1, List.length_append, tot_cons, e2]
  omega
theorem join_twice {l : List S55} (h0 : check04 l = 0) : check04 (joinOf l) = 0 ∧ joinOf (joinOf l) = joinOf l ∧ sep (-1) (joinOf l) ∧ ∀ x, Mem (joinOf l) x ↔ Mem l x := by
 obtain ⟨g0, v0⟩ := good04 h0
 have u0 : ∀ s ∈ l, -1 < s.f0 ∧ s.f0 ≤ s.f1 := fun s hs => by have := v0 s hs; omega
 have n0 := joinOf_len l (-1) u0
 have b0 := joinOf_bound l (-1) 17179869184 (fun s hs => by have := v0 s hs; omega)
 obtain ⟨k1, k2⟩ := joinOf_ok l (-1) u0
 obtain ⟨k3, k4⟩ := joinOf_ok (joinOf l) (-1) (fun s hs => by have := b0 s hs; omega)
 refine ⟨?_, sep_unique k3 k1 k4, k1, k2⟩
 unfold check04
 rw [if_neg (by omega), if_neg]
 rintro ⟨s, hs, hb⟩
 have := b0 s hs
 unfold badS at hb
 omega
theorem mem_imgS {r : S44} (h : ¬ badR r) (y : Int) : ((imgS r).f0 ≤ y ∧ y < (imgS r).f1) ↔ y ∈ imgs r := by
 have hf := fit_of h
 unfold fitR at hf
 unfold imgs
 rw [List.mem_map]
 unfold imgS
 dsimp only
 cases hb : r.f2 with
 | true =>
  have e : ∀ i, img r i = r.f0 - i := fun i => by unfold img; rw [if_pos hb]
  have e0 : mn r.f0 (img r (r.f1 - 1)) = r.f0 - (r.f1 - 1) := by rw [e]; unfold mn; split <;> omega
  have e1 : mx r.f0 (img r (r.f1 - 1)) = r.f0 := by rw [e]; unfold mx; split <;> omega
  rw [e0, e1]
  constructor
  ·rintro ⟨h0, h1⟩
   exact ⟨(r.f0 - y).toNat, List.mem_range.mpr (by omega), by rw [e]; omega⟩
  ·rintro ⟨i, hi, rfl⟩
   rw [List.mem_range] at hi
   rw [e]
   omega
 | false =>
  have e : ∀ i, img r i = r.f0 + i := fun i => by unfold img; rw [if_neg (by simp [hb])]
  have e0 : mn r.f0 (img r (r.f1 - 1)) = r.f0 := by rw [e]; unfold mn; split <;> omega
  have e1 : mx r.f0 (img r (r.f1 - 1)) = r.f0 + (r.f1 - 1) := by rw [e]; unfold mx; split <;> omega
  rw [e0, e1]
  constructor
  ·rintro ⟨h0, h1⟩
   exact ⟨(y - r.f0).toNat, List.mem_range.mpr (by omega), by rw [e]; omega⟩
  ·rintro ⟨i, hi, rfl⟩
   rw [List.mem_range] at hi
   rw [e]
   omega
theorem mem_images {l : List S44} (hg : ∀ r ∈ l, ¬ badR r) (y : Int) : Mem (l.map imgS) y ↔ y ∈ sem l := by
 unfold Mem sem
 rw [List.mem_flatMap]
 constructor
 ·rintro ⟨s, hs, h⟩
  obtain ⟨r, hr, rfl⟩ := List.mem_map.mp hs
  exact ⟨r, hr, (mem_imgS (hg r hr) y).mp h⟩
 ·rintro ⟨r, hr, h⟩
  exact ⟨imgS r, List.mem_map_of_mem hr, (mem_imgS (hg r hr) y).mpr h⟩
theorem images_check {l : List S44} (h : check13 l = 0) : check04 (l.map imgS) = 0 := by
 obtain ⟨hl, hg, _⟩ := check13_zero h
 unfold check04
 rw [if_neg (by rw [List.length_map]; omega), if_neg]
 rintro ⟨s, hs, hb⟩
 obtain ⟨r, hr, rfl⟩ := List.mem_map.mp hs
 have := imgS_in (hg r hr)
 unfold badS at hb
 omega
theorem image_is13 {l : List S44} (h : check13 l = 0) : image13 l = (joinOf (l.map imgS), 0) := by
 unfold image13
 rw [if_pos h, norm_fits (images_check h)]
theorem total_is13 {l : List S44} (h : check13 l = 0) : totalOf (joinOf (l.map imgS)) = (tot (joinOf (l.map imgS)), 0) := by
 obtain ⟨h1, h2, _⟩ := join_twice (images_check h)
 unfold totalOf
 rw [if_pos h1, h2]
theorem single_is13 {l : List S44} (h : check13 l = 0) : single13 l = (tot (joinOf (l.map imgS)) == tot13 l) := by
 unfold single13
 rw [image_is13 h, if_pos rfl, total_is13 h, if_pos rfl]
theorem keepGo_low (n least : Int) : ∀ (G : List S55) (a : Int), ∀ u ∈ keepGo n least a G, sep (a - 1) G → a ≤ u.f0
 | [], a, u, hu, _ => by
  unfold keepGo at hu
  split at hu
  ·rw [List.mem_singleton.mp hu]; dsimp only; omega
  ·simp at hu
 | s :: l, a, u, hu, hs => by
  obtain ⟨s1, s2, s3⟩ := sep_down hs
  unfold keepGo at hu
  rcases List.mem_append.mp hu with hu | hu
  ·split at hu
   ·rw [List.mem_singleton.mp hu]; dsimp only; omega
   ·simp at hu
  ·have := keepGo_low n least l s.f1 u hu s3
   omega
theorem keepGo_out (n least x : Int) : ∀ (G : List S55) (a : Int), sep (a - 1) G → Mem G x → ¬ Mem (keepGo n least a G) x
 | [], a, hs, hx => fun _ => by obtain ⟨s, h, _⟩ := hx; simp at h
 | s :: l, a, hs, hx => fun hk => by
  obtain ⟨s1, s2, s3⟩ := sep_down hs
  unfold keepGo at hk
  obtain ⟨u, hu, u1, u2⟩ := hk
  rcases List.mem_append.mp hu with hu | hu
  ·split at hu
   ·rw [List.mem_singleton.mp hu] at u1 u2
    dsimp only at u1 u2
    have := sep_mem (e := s.f0 - 1) (show sep (s.f0 - 1) (s :: l) from ⟨by omega, s2, hs.2.2⟩) hx
    omega
   ·simp at hu
  ·rcases mem_cons.mp hx with h | h
   ·have hl := keepGo_low n least l s.f1 u hu s3
    omega
   ·exact keepGo_out n least x l s.f1 s3 h ⟨u, hu, u1, u2⟩
theorem rLen5_ends (l : List S44) : Ends (fun k => papermillref13_Length.f k l) (if check13 l = 0 then (tot13 l, 0) else (0, check13 l)) := by
 unfold papermillref13_Length.f
 refine Ends.bind (rcheck_ends l) ?_
 by_cases h : check13 l = 0
 ·obtain ⟨hl, hg, _⟩ := check13_zero h
  rw [if_pos h]
  exact Ends.pos h (Ends.bind (rlength_ends l (by omega) (fun r hr => by have := fit_of (hg r hr); unfold fitR at this; omega)) (Ends.ret _))
 ·rw [if_neg h]
  exact Ends.neg h (Ends.ret _)
theorem wf_in {x : Int} (h : (Lit.int .i64 x).wf = true) : -9223372036854775808 ≤ x ∧ x ≤ 9223372036854775807 := by
 simp [Lit.wf, IntKind.min, IntKind.max, IntKind.signed, IntKind.bits] at h
 omega
theorem sem_runs (l : List S55) : sem (l.map runS) = expL l := by
 unfold sem expL
 rw [List.flatMap_map]
 have e : ∀ s : S55, imgs (runS s) = expS s := fun s => by simp [imgs, expS, runS, img]
 simp only [e]
theorem rev_get (xs : List Int) (i : Nat) (h : i < xs.length) : xs.reverse.getD i 0 = xs.getD (xs.length - 1 - i) 0 := by
 rw [List.getD_eq_getElem?_getD, List.getD_eq_getElem?_getD, List.getElem?_reverse h]
theorem get_mem (xs : List Int) (i : Nat) (h : i < xs.length) : xs.getD i 0 ∈ xs := by
 rw [List.getD_eq_getElem?_getD, List.getElem?_eq_getElem h]
 exact List.getElem_mem h
theorem get_up {xs : List Int} (h : xs.Pairwise (· < ·)) (i j : Nat) (hij : i < j) (hj : j < xs.length) : xs.getD i 0 < xs.getD j 0 := by
 rw [List.getD_eq_getElem?_getD, List.getD_eq_getElem?_getD, List.getElem?_eq_getElem (by omega), List.getElem?_eq_getElem hj]
 exact List.pairwise_iff_getElem.mp h i j (by omega) hj hij
structure Culled (n : Int) (bad : List S55) (m : List S44) (xs : List Int) : Prop where
 check : check13 m = 0
 sem_ : sem m = xs.reverse
 tot_ : tot13 m = xs.length
 pos : 1 ≤ xs.length
 low : (xs.length : Int) ≤ n
 big : (xs.length : Int) ≤ 17179869184
 up : xs.Pairwise (· < ·)
 in_ : ∀ x ∈ xs, x < n
 out_ : ∀ x ∈ xs, ¬ Mem bad x
 once : single13 m = true
 fair : check13 (nrm xs) = 0
 few : (nrm xs).length ≤ 256
theorem culled {n : Int} {bad : List S55} {least : Int} (h : (cullOf n bad least).2 = 0) : ∃ xs, Culled n bad (cullOf n bad least).1 xs := by
 unfold cullOf at h ⊢
 by_cases h0 : (keepOf n bad least).2 = 0
 ·rw [if_pos h0] at h ⊢
  obtain ⟨h1, h2, h3, h4⟩ := keep_split n bad least h0
  by_cases h5 : (keepOf n bad least).1 = []
  ·rw [if_pos h5] at h; cases h
  ·rw [if_neg h5] at h ⊢
   generalize (keepOf n bad least).1 = K at *
   have ho : own04 K := ⟨h4.check h1, h4.join h1⟩
   obtain ⟨g1, g2, g3, g4, g5⟩ := own_sep ho
   have hc := runs_check g1 g2 (fun s hs => (g3 s hs).2.2) g5
   have hx := sem_runs K
   have hlen := expL_len K (-1) g1
   have hup := expL_up K (-1) g1
   have hmem := mem_expL K
   have hfair := nrm_fair hc
   have hfew := nrm_few hc
   have hrev := rev_fair hc
   have hr : revOf (K.map runS) = (nrm (sem (K.map runS)).reverse, 0) := by unfold revOf; rw [if_pos hc]
   rw [hr]
   rw [hx] at hfair hfew hrev ⊢
   rw [List.length_map] at hfew
   have hpos : 1 ≤ tot K := by
    match K, h5, g1 with
    | s :: l, _, g1 =>
     have ht := h4.tot_
     have h6 := g3 s (by simp)
     obtain ⟨f1, f2, f3⟩ := joinOf_fit ho.1
     rw [← hlen]
     have : s.f0 ∈ expL (s :: l) := (hmem s.f0).mpr ⟨s, by simp, by omega, by omega⟩
     have := List.length_pos_of_mem this
     omega
   have ht := h4.tot_
   refine ⟨expL K, hrev, by rw [sem_nrm], by rw [tot_nrm, List.length_reverse], by omega, by omega, by omega, hup, fun x hx => ?_, fun x hx => ?_, ?_, hfair, by omega⟩
   ·obtain ⟨s, hs, _, h7⟩ := (hmem x).mp hx
    have := (h4.in_ s hs).2.2
    omega
   ·intro hb
    obtain ⟨f1, f2, _⟩ := joinOf_fit h2
    exact keepGo_out n least x (joinOf bad) 0 f1 ((f2 x).mpr hb) (by rw [← h3]; exact (hmem x).mp hx)
   ·rw [single_is13 hrev, tot_nrm, List.length_reverse]
    obtain ⟨_, _, s1, s2⟩ := join_twice (images_check hrev)
    have e : joinOf ((nrm (expL K).reverse).map imgS) = K := sep_unique s1 g1 (fun y => by
     rw [s2, mem_images (check13_zero hrev).2.1 y, sem_nrm, List.mem_reverse, hmem])
    rw [e, hlen]
    simp
 ·rw [if_neg h0] at h
  exact absurd h h0
theorem cull_bad {n : Int} {bad : List S55} {least : Int} (h : ¬ (cullOf n bad least).2 = 0) : (cullOf n bad least).1 = [] := by
 unfold cullOf at h ⊢
 split
 ·rename_i h0
  rw [if_pos h0] at h
  split
  ·rfl
  ·rename_i h1
   rw [if_neg h1] at h
   unfold revOf at h ⊢
   split
   ·rename_i h2
    rw [if_pos h2] at h
    exact absurd rfl h
   ·rfl
 ·rfl
theorem Culled.again {n : Int} {bad : List S55} {m : List S44} {xs : List Int} (h : Culled n bad m xs) : afterOf [m, [backR ((xs.length : Int) - 1) xs.length]] = (nrm xs, 0) := by
 have hp := h.pos
 have hb := h.big
 have hl : long (xs.length : Int) := by unfold long; omega
 have hc := back_check ((xs.length : Int) - 1) xs.length hl (by omega) (by omega)
 have ho : okR (backR ((xs.length : Int) - 1) xs.length) := ⟨by show 1 ≤ (xs.length : Int); omega, fun e => by unfold backR at e ⊢; dsimp only at e ⊢; exact decide_eq_false (by omega)⟩
 have hf : ∀ r ∈ [backR ((xs.length : Int) - 1) xs.length], farR (tot13 m) r = false := by
  intro r hr
  rw [List.mem_singleton.mp hr, h.tot_]
  unfold farR
  rw [show (backR ((xs.length : Int) - 1) xs.length).f1 = xs.length from rfl, show (backR ((xs.length : Int) - 1) xs.length).f0 = (xs.length : Int) - 1 from rfl, back_img _ _ ((xs.length : Int) - 1) (by omega) (by omega)]
  exact decide_eq_false (by omega)
 have e : cmp [backR ((xs.length : Int) - 1) xs.length] m = xs := by
  unfold cmp
  rw [back_sem, h.sem_]
  apply List.ext_getElem?
  intro i
  rw [List.getElem?_map]
  by_cases hi : i < xs.length
  ·rw [imgs_get (backR ((xs.length : Int) - 1) xs.length) i (by show (i : Int) < xs.length; omega), Option.map_some, back_img _ _ i (by omega) (by omega), List.getElem?_eq_getElem hi]
   unfold lookOf
   rw [rev_get xs _ (by omega), show xs.length - 1 - ((xs.length : Int) - 1 - i).toNat = i by omega, List.getD_eq_getElem?_getD, List.getElem?_eq_getElem hi]
   rfl
  ·rw [List.getElem?_eq_none (by rw [imgs_len]; show (xs.length : Int).toNat ≤ i; omega), List.getElem?_eq_none (by omega)]
   rfl
 unfold afterOf
 rw [if_neg (by simp), if_pos (by simp [badGo, hc, h.check])]
 show aftGo [m] (nrm (sem [backR ((xs.length : Int) - 1) xs.length])) = _
 rw [back_sem, nrm_one _ ho]
 have e2 : compOf13 [backR ((xs.length : Int) - 1) xs.length] m = (nrm xs, 0) := by rw [comp_is hc h.check hf, e, if_neg (by have := h.few; omega)]
 unfold aftGo
 rw [e2, if_pos rfl]
 rfl
section
variable (n : Int) (bad : List S55) (m : List S44) (xs : List Int) (x : Int) (hc : Culled n bad m xs) (hb : bad.length ≤ 300) (hx : -9223372036854775808 ≤ x ∧ x ≤ 9223372036854775807)
include hc in
theorem at_m (i : Int) (h0 : 0 ≤ i) (h1 : i < xs.length) : Ends (fun k => papermillref13_At.f k m i) (xs.getD (xs.length - 1 - i.toNat) 0, 0) := by
 have := rat_ends m hc.check i h0 (by rw [hc.tot_]; exact h1)
 have e : atOf13 m i = (xs.getD (xs.length - 1 - i.toNat) 0, 0) := by
  unfold atOf13
  rw [if_pos hc.check, if_neg (by rw [hc.tot_]; omega), hc.sem_, rev_get xs i.toNat (by omega)]
 rwa [e] at this
include hc in
theorem at_two (i : Int) (h0 : 0 ≤ i) (h1 : i < xs.length) : Ends (fun k => papermillref13_At.f k (nrm xs) i) (xs.getD i.toNat 0, 0) := by
 have := rat_ends (nrm xs) hc.fair i h0 (by rw [tot_nrm]; exact h1)
 have e : atOf13 (nrm xs) i = (xs.getD i.toNat 0, 0) := by
  unfold atOf13
  rw [if_pos hc.fair, if_neg (by rw [tot_nrm]; omega), sem_nrm]
 rwa [e] at this
include hc hx in
theorem cuts_j3 (h0 : 0 ≤ x) (h1 : x < xs.length) : Ends (fun k => papermilllaw41_RewindCuts.j3 k x m (xs.getD (xs.length - 1 - x.toNat) 0) false) true := by
 refine Ends.succ ?_
 simp only [papermilllaw41_RewindCuts.j3, papermilllaw41_awake.f, Option.bind_some]
 refine Ends.neg (by simp) ?_
 by_cases hz : x = 0
 ·exact Ends.pos hz (Ends.ret _)
 ·have hw : wrap64 (x - 1) = x - 1 := by unfold wrap64; omega
  rw [hw]
  refine Ends.neg hz (Ends.bind (at_m n bad m xs hc (x - 1) (by omega) (by omega)) (Ends.pos rfl (Ends.pos ?_ (Ends.ret _))))
  exact get_up hc.up _ _ (by omega) (by omega)
include hc hb hx in
theorem cuts_j2 (z : Bool) (hz : z = false → 0 ≤ x ∧ x < xs.length) : Ends (fun k => papermilllaw41_RewindCuts.j2 k n bad x m (xs.length : Int) (nrm xs) z) true := by
 refine Ends.succ ?_
 simp only [papermilllaw41_RewindCuts.j2, papermilllaw41_awake.f, Option.bind_some]
 cases z with
 | true => exact Ends.pos rfl (Ends.ret _)
 | false =>
  obtain ⟨h0, h1⟩ := hz rfl
  have hbig := hc.big
  have hw : wrap64 (wrap64 ((xs.length : Int) - 1) - x) = (xs.length : Int) - 1 - x := by unfold wrap64; omega
  rw [hw]
  have hm := get_mem xs (xs.length - 1 - x.toNat) (by omega)
  have e : ((xs.length : Int) - 1 - x).toNat = xs.length - 1 - x.toNat := by omega
  refine Ends.neg (by simp) (Ends.bind (at_m n bad m xs hc x h0 h1) (Ends.bind (at_two n bad m xs hc ((xs.length : Int) - 1 - x) (by omega) (by omega)) ?_))
  rw [e]
  have hj := cuts_j3 n bad m xs x hc hx h0 h1
  have hn : hasOf bad (xs.getD (xs.length - 1 - x.toNat) 0) = false := by
   rw [Bool.eq_false_iff]
   exact fun k => hc.out_ _ hm ((hasOf_iff bad _).mp k)
  refine Ends.pos rfl (Ends.pos rfl (Ends.pos rfl (Ends.neg (by have := hc.in_ _ hm; dsimp only; omega) (Ends.bind (has_ends bad _ (by omega)) ?_))))
  rw [hn]
  exact hj
include hc hb hx in
theorem cuts_j0 : Ends (fun k => papermilllaw41_RewindCuts.j0 k n bad x m (xs.length : Int) false) true := by
 have hl : long (xs.length : Int) := by have := hc.pos; have := hc.big; unfold long; omega
 have hw : wholeOf (xs.length : Int) = ([backR ((xs.length : Int) - 1) xs.length], 0) := by unfold wholeOf; rw [if_pos hl]
 have hj1 : Ends (fun k => papermilllaw41_RewindCuts.j1 k n bad x m (xs.length : Int) (nrm xs) false) true := by
  refine Ends.succ ?_
  simp only [papermilllaw41_RewindCuts.j1]
  refine Ends.neg (by simp) ?_
  by_cases h0 : x < 0
  ·exact Ends.pos h0 (cuts_j2 n bad m xs x hc hb hx true (by simp))
  ·exact Ends.neg h0 (cuts_j2 n bad m xs x hc hb hx _ (fun h => by have := of_decide_eq_false h; omega))
 refine Ends.succ ?_
 simp only [papermilllaw41_RewindCuts.j0, whole_is, hw, Option.bind_some]
 have ha : Ends (fun k => rewind_After_2.f k m [backR ((xs.length : Int) - 1) xs.length]) (nrm xs, 0) := by
  have := after_ends [m, [backR ((xs.length : Int) - 1) xs.length]]
  rw [hc.again] at this
  exact this
 refine Ends.neg (by simp) (Ends.bind ha ?_)
 refine Ends.pos (by first | trivial | rfl) (Ends.pos (by first | trivial | rfl) (Ends.bind (rcheck_ends _) ?_))
 rw [hc.fair]
 exact hj1
end
theorem RewindCuts : ∀ (a0 : Int) (l1 : List (S55)) (a2 : Int) (a3 : Int), (Lit.int .i64 a0).wf = true → (l1.length ≤ maxLen ∧ ∀ x ∈ l1, wf_55 x) → (Lit.int .i64 a2).wf = true → (Lit.int .i64 a3).wf = true → ∃ k, papermilllaw41_RewindCuts.f k a0 l1 a2 a3 = some true := by
 intro n bad least x _ _ _ h3
 suffices h : Ends (fun k => papermilllaw41_RewindCuts.f k n bad least x) true from h.get
 unfold papermilllaw41_RewindCuts.f
 simp only [papermilllaw41_awake.f, Option.bind_some]
 by_cases hb : (bad.length : Int) > 300
 ·exact Ends.pos hb (Ends.ret _)
 ·refine Ends.neg hb (Ends.bind (cull_ends n bad least) ?_)
  by_cases h : (cullOf n bad least).2 = 0
  ·obtain ⟨xs, hc⟩ := culled h
   refine Ends.pos h ?_
   generalize (cullOf n bad least).1 = m at *
   refine Ends.bind (rLen5_ends m) ?_
   rw [if_pos hc.check, hc.tot_]
   have h1 := hc.pos
   have h2 := hc.low
   refine Ends.pos rfl (Ends.neg (by dsimp only; omega) (Ends.neg (by dsimp only; omega) (Ends.bind (rsingle_ends m) ?_)))
   rw [hc.once]
   exact cuts_j0 n bad m xs x hc (by omega) (wf_in h3)
  ·refine Ends.neg h ?_
   rw [cull_bad h]
   exact Ends.pos rfl (Ends.ret _)
end Go.Proofs.Ytalpegglbfobiaa.G

namespace Go.Proofs.Ytalpegglbfobiaa.rewindCuts
open Go.ChangeShapes Go.WideShapes Go.ChangeAt Go.RowKit Go.Proofs.YtalpegglbfobiaaW.PrintWords Go.Proofs.YtalpegglbfobiaaW.PrintLast Go.Proofs.Ytalpegglbfobiaa.G
open Go.ChangeMaps (open_string shut_string)
set_option linter.unusedVariables false
set_option linter.unusedSimpArgs false
theorem own : ownKnob Try.prog.godebug = none := by kernel_rfl
theorem laidOut : laidOutB Try.prog = true := by kernel_rfl
set_option maxRecDepth 100000 in
theorem lifted (os : Os) (started : os.Started) (H : Type) (enc : TypeId × Value → H) :
  ReturnsInHanded {} Try.checked os 9 .any (Rows.rewindCutsSpec.pre6 enc Try.prog Try.f9 Rows.rewindCutsRow.domain false) (Rows.rewindCutsSpec.post enc Try.prog Try.f9 false true false false) := by
 refine returnsInHanded_of_change_sized (C := Try.checked) own started (by kernel_rfl) Try.func9
  (ChangeSpec.witness6 (enc := enc) (C := Try.checked) false ⟨#[], #[.int .i64 0, .slice none 0 0, .int .i64 0, .int .i64 0], []⟩ 8 (by kernel_rfl) (by kernel_rfl) (by kernel_rfl) (by kernel_rfl)) ?_
 intro W base args ds gs before hval0 hW hcnd hsz0 _
 have hval : ∀ (j : Nat) t v, Try.f9.params[j]? = some t → args[j]? = some v → Value.okWide Try.prog W .any base t v := hval0
 have hW' := hW
 obtain ⟨p, q, hA0, hV, rfl, hfz, hnd⟩ := hW
 have hA : DataW.TrodAll enc Try.prog W 0 (fun _ => true) true Try.f9.params.toList args.toList ds p := hA0
 rw [Try.params9] at hA hval
 obtain ⟨v0, vs0, d0, ds0, p0, q0, hargs, rfl, rfl, h0, r0⟩ := trodAll_cons hA
 obtain ⟨v1, vs1, d1, ds1, p1, q1, rfl, rfl, rfl, h1, r1⟩ := trodAll_cons r0
 obtain ⟨v2, vs2, d2, ds2, p2, q2, rfl, rfl, rfl, h2, r2⟩ := trodAll_cons r1
 obtain ⟨v3, vs3, d3, ds3, p3, q3, rfl, rfl, rfl, h3, r3⟩ := trodAll_cons r2
 obtain ⟨rfl, rfl, rfl⟩ := trodAll_nil r3
 obtain rfl : args = #[v0, v1, v2, v3] := by cases args; simp_all
 obtain ⟨rfl, rfl⟩ := trodVars_none hV
 have k0 := h0
 have lt0 : ∀ x ∈ p0, x.block < W.heap.size := by obtain ⟨m, hm⟩ := k0; exact DataW.trod_lt m _ _ _ hm
 obtain ⟨a0, rfl, rfl, rfl, hw0⟩ := open_int Try.underlying3 (hval 0 3 v0 rfl rfl) h0
 have k1 := h1
 have lt1 : ∀ x ∈ p1, x.block < W.heap.size := by obtain ⟨m, hm⟩ := k1; exact DataW.trod_lt m _ _ _ hm
 obtain ⟨a1, len1, cap1, rfl⟩ := okWide_slice Try.underlying29 (hval 1 29 v1 rfl rfl)
 obtain ⟨l1, ⟨A1, c1, hcs1, hlc1, hC1⟩, hw1⟩ : ∃ l, ((Kd.slice 55 k55)).K W l [.slice a1 len1 cap1] ∧ (l.length ≤ maxLen ∧ ∀ x ∈ l, wf_55 x) := by
  obtain ⟨fuel, hf⟩ := k1
  exact (Opens.slice Try.underlying29 (by kernel_rfl) opens_55) enc W fuel _ _ hf
 simp only [List.cons.injEq, and_true, Value.slice.injEq] at hcs1
 obtain ⟨rfl, rfl, rfl⟩ := hcs1
 have k2 := h2
 have lt2 : ∀ x ∈ p2, x.block < W.heap.size := by obtain ⟨m, hm⟩ := k2; exact DataW.trod_lt m _ _ _ hm
 obtain ⟨a2, rfl, rfl, rfl, hw2⟩ := open_int Try.underlying3 (hval 2 3 v2 rfl rfl) h2
 have k3 := h3
 have lt3 : ∀ x ∈ p3, x.block < W.heap.size := by obtain ⟨m, hm⟩ := k3; exact DataW.trod_lt m _ _ _ hm
 obtain ⟨a3, rfl, rfl, rfl, hw3⟩ := open_int Try.underlying3 (hval 3 3 v3 rfl rfl) h3
 clear hA0 hval0 hsz0
 obtain ⟨k, hk⟩ := RewindCuts a0 l1 a2 a3 hw0 hw1 hw2 hw3
 refine (papermilllaw41_RewindCuts.calls k a0 _ _ l1 a2 a3 true W hC1 hlc1 hk).mono fun e W' he => ?_
 obtain ⟨he, bel⟩ := he
 subst he
 exact ⟨_, rfl, _, _, _, [], _, [], hW', trodAll_mk1 (shut_bool Try.underlying4 _), (trodAll_cons_mk (Below.trod laidOut (by kernel_rfl) (of_decide_eq_true (by kernel_rfl)) k0 bel lt0) (trodAll_cons_mk (Below.trod laidOut (by kernel_rfl) (of_decide_eq_true (by kernel_rfl)) k1 bel lt1) (trodAll_cons_mk (Below.trod laidOut (by kernel_rfl) (of_decide_eq_true (by kernel_rfl)) k2 bel lt2) (trodAll_cons_mk (Below.trod laidOut (by kernel_rfl) (of_decide_eq_true (by kernel_rfl)) k3 bel lt3) trodAll_mk0)))), rfl, bel.frame _, fun h => by cases h⟩
theorem over : Rows.rewindCutsRow.holds Try.pinned (OpenSpec.ofChange Rows.rewindCutsSpec) :=
 OpenClaim.holds_of_wide 9 Try.f9 rfl rfl rfl rfl rfl rfl rfl ⟨rfl, rfl, rfl, rfl, rfl⟩ rfl rfl rfl rfl rfl (by kernel_rfl) Try.func9 (by kernel_rfl)
  (of_decide_eq_true (by kernel_rfl)) (by unfold Func.isWrapper; first | (rw [if_pos (by decide +kernel)]; kernel_rfl) | (rw [if_neg (by decide +kernel)]; exact ⟨rfl, rfl⟩))
  (fun os started H enc _ => lifted os started H enc)
theorem proved : Rows.RewindCutsSaid := over
#print axioms proved
end Go.Proofs.Ytalpegglbfobiaa.rewindCuts
namespace Go.Proofs.Ytalpegglbfobiaa
theorem rewindCuts_holds : Rows.RewindCutsSaid := rewindCuts.proved
end Go.Proofs.Ytalpegglbfobiaa
