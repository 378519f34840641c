import Derived.Test.YtcnkmdonbpgjiaaQ4
import Derived.Test.YtcnkmdonbpgjiaaQ5
namespace Go.Proofs.Ytcnkmdonbpgjiaa.G
open Go.RowKit Go.Proofs.YtcnkmdonbpgjiaaW.PrintWords Go.Proofs.YtcnkmdonbpgjiaaW.PrintLast Go.Proofs.YtcnkmdonbpgjiaaW.PrintMore
set_option linter.unusedVariables false
set_option linter.unusedSimpArgs false
def fitX (xs : List Int) : Prop := ∀ x ∈ xs, 0 ≤ x ∧ x < 17179869184
theorem img_in {r : S32} (h : ¬ badR r) (i : Int) (h0 : 0 ≤ i) (h1 : i < r.f1) : 0 ≤ img r i ∧ img r i < 17179869184 := by
 unfold badR at h
 unfold img
 cases hb : r.f2 <;> simp [hb] at h ⊢ <;> omega
theorem sem_fit {l : List S32} (h : ∀ r ∈ l, ¬ badR r) : fitX (sem l) := by
 intro x hx
 obtain ⟨r, hr, hx⟩ := List.mem_flatMap.mp hx
 simp only [imgs, List.mem_map, List.mem_range] at hx
 obtain ⟨i, hi, rfl⟩ := hx
 exact img_in (h r hr) i (by omega) (by omega)
theorem mem_sem {l : List S32} {t : S32} (h : t ∈ l) (i : Nat) (hi : (i : Int) < t.f1) : img t i ∈ sem l := by
 refine List.mem_flatMap.mpr ⟨t, h, ?_⟩
 exact List.mem_iff_getElem?.mpr ⟨i, imgs_get t i hi⟩
theorem len_sem_mem {l : List S32} {t : S32} (h : t ∈ l) : t.f1.toNat ≤ (sem l).length := by
 induction l with
 | nil => simp at h
 | cons r l ih =>
  rw [sem_cons, List.length_append, imgs_len]
  rcases List.mem_cons.mp h with rfl | h
  ·omega
  ·have := ih h; omega
theorem check_nrm (xs : List Int) (h : fitX xs) (hl : xs.length ≤ 17179869184) (hn : (nrm xs).length ≤ 256) : check13 (nrm xs) = 0 := by
 have hok := nrm_ok xs
 have hg : ∀ t ∈ nrm xs, ¬ badR t := by
  intro t ht
  have h1 := (hok t ht).1
  have m0 := mem_sem ht 0 (by omega)
  have m1 := mem_sem ht (t.f1 - 1).toNat (by omega)
  have hlen := len_sem_mem ht
  rw [sem_nrm] at m0 m1 hlen
  have b0 := h _ m0
  have b1 := h _ m1
  rw [show (((t.f1 - 1).toNat : Nat) : Int) = t.f1 - 1 by omega] at b1
  unfold img at b0 b1
  unfold badR
  cases hb : t.f2 <;> simp [hb] at b0 b1 ⊢ <;> omega
 have ht := sem_len (nrm xs) (fun r hr => by have := (hok r hr).1; omega)
 rw [sem_nrm] at ht
 unfold check13
 rw [if_neg (by omega), if_neg, if_neg (by omega)]
 intro hb
 obtain ⟨t, ht2, hb⟩ := List.any_eq_true.mp hb
 exact hg t ht2 (by simpa using hb)
theorem tot_nrm (xs : List Int) : tot13 (nrm xs) = xs.length := by
 rw [← sem_len (nrm xs) (fun r hr => by have := (nrm_ok xs r hr).1; omega), sem_nrm]
theorem sem_small {l : List S32} (h : check13 l = 0) : (sem l).length ≤ 17179869184 := by
 have h1 := sem_tot h
 have h2 := (check13_zero h).2.2
 omega
theorem nrm_few {l : List S32} (h : check13 l = 0) : (nrm (sem l)).length ≤ l.length :=
 nrm_len l (fun r hr => (fit_of ((check13_zero h).2.1 r hr)).2.2.1)
theorem nrm_fair {l : List S32} (h : check13 l = 0) : check13 (nrm (sem l)) = 0 :=
 check_nrm _ (sem_fit (check13_zero h).2.1) (sem_small h) (by have := nrm_few h; have := (check13_zero h).1; omega)
theorem rev_few {l : List S32} (h : check13 l = 0) : (nrm (sem l).reverse).length ≤ l.length := by
 have hp : ∀ r ∈ l, 1 ≤ r.f1 := fun r hr => (fit_of ((check13_zero h).2.1 r hr)).2.2.1
 have := nrm_len (revL l) (revL_pos l hp)
 rw [sem_rev l hp, revL_len] at this
 exact this
theorem rev_fair {l : List S32} (h : check13 l = 0) : check13 (nrm (sem l).reverse) = 0 :=
 check_nrm _ (fun x hx => sem_fit (check13_zero h).2.1 x (List.mem_reverse.mp hx)) (by rw [List.length_reverse]; exact sem_small h) (by have := rev_few h; have := (check13_zero h).1; omega)
theorem normOf_nrm {l : List S32} (h : check13 l = 0) : normOf (nrm (sem l)) = (nrm (sem l), 0) := by unfold normOf; rw [if_pos (nrm_fair h), sem_nrm]
theorem at_nrm {l : List S32} (h : check13 l = 0) (x : Int) : atOf13 (nrm (sem l)) x = atOf13 l x := by
 unfold atOf13
 rw [if_pos (nrm_fair h), if_pos h, tot_nrm, ← sem_tot h, sem_nrm]
theorem rsame13_l0 (l : List S32) (hl : l.length ≤ 1000000) : ∀ (d i : Nat), l.length - i = d → i ≤ l.length → Ends (fun k => papermillref13_Same.l0 k l l (i : Int)) true := by
 intro d
 induction d with
 | zero =>
  intro i hd hi
  refine Ends.succ ?_
  simp only [papermillref13_Same.l0]
  exact Ends.neg (by omega) (Ends.ret _)
 | succ d ih =>
  intro i hd hi
  refine Ends.succ ?_
  simp only [papermillref13_Same.l0, wrap_nat i (by omega)]
  exact Ends.pos (by omega) (Ends.pos (by omega) (Ends.pos (by omega) (Ends.neg (by simp) (ih (i + 1) (by omega) (by omega)))))
theorem rsame13_ends (l : List S32) (hl : l.length ≤ 1000000) : Ends (fun k => papermillref13_Same.f k l l) true := by
 unfold papermillref13_Same.f
 exact Ends.pos rfl (rsame13_l0 l hl _ 0 rfl (by omega))
end Go.Proofs.Ytcnkmdonbpgjiaa.G

namespace Go.Proofs.Ytcnkmdonbpgjiaa.G
open Go.RowKit Go.Proofs.YtcnkmdonbpgjiaaW.PrintWords Go.Proofs.YtcnkmdonbpgjiaaW.PrintLast Go.Proofs.YtcnkmdonbpgjiaaW.PrintMore
set_option linter.unusedVariables false
set_option linter.unusedSimpArgs false
def cmp (a b : List S32) : List Int := (sem a).map (lookOf (sem b))
theorem comp_ok {a b : List S32} (h : (compOf13 a b).2 = 0) : check13 a = 0 ∧ check13 b = 0 ∧ (∀ r ∈ a, farR (tot13 b) r = false) ∧ (compOf13 a b).1 = nrm (cmp a b) ∧ (nrm (cmp a b)).length ≤ 256 := by
 unfold compOf13 at h ⊢
 by_cases h0 : check13 a = 0
 ·rw [if_pos h0] at h ⊢
  by_cases h1 : check13 b = 0
  ·rw [if_pos h1] at h ⊢
   by_cases h2 : a.any (farR (tot13 b)) = true
   ·rw [if_pos h2] at h; cases h
   ·rw [if_neg h2] at h ⊢
    by_cases h3 : (nrm ((sem a).map (lookOf (sem b)))).length > 256
    ·rw [if_pos h3] at h; cases h
    ·rw [if_neg h3]
     refine ⟨h0, h1, fun r hr => ?_, rfl, by unfold cmp; omega⟩
     cases hf : farR (tot13 b) r with
     | false => rfl
     | true => exact absurd (List.any_eq_true.mpr ⟨r, hr, hf⟩) h2
  ·rw [if_neg h1] at h; exact absurd h h1
 ·rw [if_neg h0] at h; exact absurd h h0
theorem comp_is {a b : List S32} (h0 : check13 a = 0) (h1 : check13 b = 0) (h2 : ∀ r ∈ a, farR (tot13 b) r = false) : compOf13 a b = if (nrm (cmp a b)).length > 256 then ([], 8) else (nrm (cmp a b), 0) := by
 unfold compOf13
 rw [if_pos h0, if_pos h1, if_neg]
 ·rfl
 ·intro h
  obtain ⟨r, hr, hf⟩ := List.any_eq_true.mp h
  rw [h2 r hr] at hf
  cases hf
theorem far_sem {n : Int} {a : List S32} (hg : ∀ r ∈ a, ¬ badR r) (h : ∀ r ∈ a, farR n r = false) : ∀ y ∈ sem a, 0 ≤ y ∧ y < n := by
 intro y hy
 refine ⟨(sem_fit hg y hy).1, ?_⟩
 obtain ⟨r, hr, hy⟩ := List.mem_flatMap.mp hy
 simp only [imgs, List.mem_map, List.mem_range] at hy
 obtain ⟨i, hi, rfl⟩ := hy
 have := h r hr
 unfold farR at this
 simp only [decide_eq_false_iff_not, Int.not_le] at this
 unfold img at this ⊢
 cases hb : r.f2 <;> simp [hb] at this ⊢ <;> omega
theorem far_nrm {n : Int} {xs : List Int} (h : ∀ y ∈ xs, y < n) : ∀ t ∈ nrm xs, farR n t = false := by
 intro t ht
 have h1 := (nrm_ok xs t ht).1
 have m0 := mem_sem ht 0 (by omega)
 have m1 := mem_sem ht (t.f1 - 1).toNat (by omega)
 rw [sem_nrm] at m0 m1
 have b0 := h _ m0
 have b1 := h _ m1
 rw [show (((t.f1 - 1).toNat : Nat) : Int) = t.f1 - 1 by omega] at b1
 have e0 : img t ((0 : Nat) : Int) = t.f0 := by unfold img; split <;> simp
 rw [e0] at b0
 unfold farR
 simp only [decide_eq_false_iff_not, Int.not_le]
 omega
theorem look_mem {b : List Int} {y : Int} (h0 : 0 ≤ y) (h1 : y < b.length) : lookOf b y ∈ b := by
 have : y.toNat < b.length := by omega
 unfold lookOf
 rw [List.getD_eq_getElem?_getD, List.getElem?_eq_getElem this]
 exact List.getElem_mem _
theorem look_map {b : List Int} {y : Int} (g : Int → Int) (h0 : 0 ≤ y) (h1 : y < b.length) : lookOf (b.map g) y = g (lookOf b y) := by
 have : y.toNat < b.length := by omega
 unfold lookOf
 rw [List.getD_eq_getElem?_getD, List.getD_eq_getElem?_getD, List.getElem?_map, List.getElem?_eq_getElem this]
 rfl
theorem cmp_mem {a b : List S32} (h0 : check13 a = 0) (h1 : check13 b = 0) (h2 : ∀ r ∈ a, farR (tot13 b) r = false) : ∀ x ∈ cmp a b, x ∈ sem b := by
 intro x hx
 obtain ⟨y, hy, rfl⟩ := List.mem_map.mp hx
 have h := far_sem (check13_zero h0).2.1 h2 y hy
 exact look_mem h.1 (by rw [sem_tot h1]; exact h.2)
theorem cmp_fair {a b : List S32} (h : (compOf13 a b).2 = 0) : check13 (nrm (cmp a b)) = 0 := by
 obtain ⟨h0, h1, h2, _, h4⟩ := comp_ok h
 refine check_nrm _ (fun x hx => sem_fit (check13_zero h1).2.1 x (cmp_mem h0 h1 h2 x hx)) ?_ h4
 unfold cmp
 rw [List.length_map]
 exact sem_small h0
theorem cmp_assoc {a b c : List S32} (h : (compOf13 a b).2 = 0) (k : (compOf13 b c).2 = 0) : compOf13 (compOf13 a b).1 c = compOf13 a (compOf13 b c).1 ∧ ((compOf13 a (compOf13 b c).1).2 = 0 ∨ (compOf13 a (compOf13 b c).1).2 = 8) := by
 obtain ⟨h0, h1, h2, h3, h4⟩ := comp_ok h
 obtain ⟨_, k1, k2, k3, k4⟩ := comp_ok k
 rw [h3, k3]
 have hb := far_sem (check13_zero h1).2.1 k2
 have e1 := comp_is (a := nrm (cmp a b)) (b := c) (cmp_fair h) k1 (far_nrm (fun y hy => (hb y (cmp_mem h0 h1 h2 y hy)).2))
 have htot : tot13 (nrm (cmp b c)) = tot13 b := by rw [tot_nrm, ← sem_tot h1]; simp [cmp]
 have e2 := comp_is (a := a) (b := nrm (cmp b c)) h0 (cmp_fair k) (fun r hr => by rw [htot]; exact h2 r hr)
 have e3 : cmp (nrm (cmp a b)) c = cmp a (nrm (cmp b c)) := by
  unfold cmp
  rw [sem_nrm, sem_nrm, List.map_map]
  refine List.map_congr_left fun y hy => ?_
  have hy2 := far_sem (check13_zero h0).2.1 h2 y hy
  exact (look_map (lookOf (sem c)) hy2.1 (by rw [sem_tot h1]; exact hy2.2)).symm
 rw [e1, e2, e3]
 refine ⟨rfl, ?_⟩
 split
 ·exact .inr rfl
 ·exact .inl rfl
end Go.Proofs.Ytcnkmdonbpgjiaa.G
