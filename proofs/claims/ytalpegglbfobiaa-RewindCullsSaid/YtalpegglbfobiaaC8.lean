import Derived.Test.YtalpegglbfobiaaQ3
import Derived.Test.YtalpegglbfobiaaC6
import Derived.Test.YtalpegglbfobiaaC7
import Derived.Test.YtalpegglbfobiaaQ5
namespace Go.Proofs.Ytalpegglbfobiaa.G
open Go.RowKit Go.Proofs.YtalpegglbfobiaaW.PrintWords Go.Proofs.YtalpegglbfobiaaW.PrintLast Go.Proofs.YtalpegglbfobiaaW.PrintMore
set_option linter.unusedVariables false
set_option linter.unusedSimpArgs false
theorem rgood_ends (r : S44) : Ends (fun k => papermillref13_good.f k r.f0 r.f1 r.f2) (decide (¬ badR r)) := by
 have key : ∀ z : Bool, z = decide (r.f1 < 1 ∨ r.f1 > 17179869184 ∨ r.f0 < 0 ∨ r.f0 ≥ 17179869184) → Ends (fun k => papermillref13_good.j0 k z r.f0 r.f1 r.f2) (decide (¬ badR r)) := fun z hz => by
  refine Ends.succ ?_
  simp only [papermillref13_good.j0]
  by_cases hb : r.f1 < 1 ∨ r.f1 > 17179869184 ∨ r.f0 < 0 ∨ r.f0 ≥ 17179869184
  ·exact Ends.pos (by rw [hz]; simpa using hb) ((Ends.ret false).congr (by symm; rw [decide_eq_false_iff_not, Classical.not_not]; unfold badR; omega))
  ·refine Ends.neg (by rw [hz]; simpa using hb) ?_
   cases hf : r.f2 with
   | true =>
    have ew : wrap64 (wrap64 (r.f0 - r.f1) + 1) = r.f0 - r.f1 + 1 := by
     have : wrap64 (r.f0 - r.f1) = r.f0 - r.f1 := by unfold wrap64; omega
     rw [this]; unfold wrap64; omega
    refine Ends.pos rfl ((Ends.ret _).congr ?_)
    rw [ew]
    unfold badR
    rw [decide_eq_decide]
    simp [hf]
    omega
   | false =>
    have ew : wrap64 (r.f0 + r.f1) = r.f0 + r.f1 := by unfold wrap64; omega
    refine Ends.neg (by simp) ((Ends.ret _).congr ?_)
    rw [ew]
    unfold badR
    rw [decide_eq_decide]
    simp [hf]
    omega
 unfold papermillref13_good.f
 by_cases c1 : r.f1 < 1
 ·exact Ends.pos c1 (key true (by simp [c1]))
 ·refine Ends.neg c1 ?_
  by_cases c2 : r.f1 > 17179869184
  ·exact Ends.pos c2 (key true (by simp [c2]))
  ·refine Ends.neg c2 ?_
   by_cases c3 : r.f0 < 0
   ·exact Ends.pos c3 (key true (by simp [c3]))
   ·exact Ends.neg c3 (key _ (by simp [c1, c2, c3]))
theorem rlength_l0 (l : List S44) (hl : l.length ≤ 65536) (hv : ∀ r ∈ l, 0 ≤ r.f1 ∧ r.f1 ≤ 17179869184) : ∀ (d i : Nat) (n : Int), l.length - i = d → i ≤ l.length → 0 ≤ n → n ≤ i * 17179869184 → Ends (fun k => papermillref13_length.l0 k l n (i : Int)) (n + tot13 (l.drop i)) := by
 intro d
 induction d with
 | zero =>
  intro i n hd hi h0 h1
  refine Ends.succ ?_
  simp only [papermillref13_length.l0]
  rw [List.drop_of_length_le (by omega)]
  exact Ends.neg (by omega) ((Ends.ret _).congr (by simp [tot13]))
 | succ d ih =>
  intro i n hd hi h0 h1
  refine Ends.succ ?_
  have hx := hv (rd_T44 l (i : Int)) (by rw [rdR l i (by omega)]; exact List.getElem_mem _)
  rw [dropR l i (by omega), tot13_cons]
  simp only [papermillref13_length.l0, wrap_nat i (by omega)]
  generalize rd_T44 l (i : Int) = r at *
  have ew : wrap64 (n + r.f1) = n + r.f1 := by unfold wrap64; omega
  rw [ew]
  exact Ends.pos (by omega) (Ends.pos (by omega) ((ih (i + 1) (n + r.f1) (by omega) (by omega) (by omega) (by omega)).congr (by rw [Int.add_assoc])))
theorem rlength_ends (l : List S44) (hl : l.length ≤ 65536) (hv : ∀ r ∈ l, 0 ≤ r.f1 ∧ r.f1 ≤ 17179869184) : Ends (fun k => papermillref13_length.f k l) (tot13 l) := by
 unfold papermillref13_length.f
 exact (rlength_l0 l hl hv _ 0 0 rfl (by omega) (by omega) (by omega)).congr (by simp)
theorem rcheck_l0 (l : List S44) (hl : l.length ≤ 256) : ∀ (d i : Nat), l.length - i = d → i ≤ l.length → anyBad (l.take i) = false → Ends (fun k => papermillref13_Check.l0 k l (i : Int)) (if anyBad l = true then 1 else if tot13 l > 17179869184 then 21 else 0) := by
 intro d
 induction d with
 | zero =>
  intro i hd hi hn
  refine Ends.succ ?_
  simp only [papermillref13_Check.l0]
  rw [List.take_of_length_le (by omega)] at hn
  have hg : ∀ r ∈ l, ¬ badR r := fun r hr hb => by
   have : anyBad l = true := List.any_eq_true.mpr ⟨r, hr, by simpa using hb⟩
   rw [hn] at this; cases this
  refine Ends.neg (by omega) (Ends.bind (rlength_ends l (by omega) (fun r hr => by have := fit_of (hg r hr); unfold fitR at this; omega)) ?_)
  by_cases h : tot13 l > 17179869184
  ·exact Ends.pos h ((Ends.ret 21).congr (by rw [hn, if_neg (by simp), if_pos h]))
  ·exact Ends.neg h ((Ends.ret 0).congr (by rw [hn, if_neg (by simp), if_neg h]))
 | succ d ih =>
  intro i hd hi hn
  refine Ends.succ ?_
  simp only [papermillref13_Check.l0, wrap_nat i (by omega)]
  have hmem : rd_T44 l (i : Int) ∈ l := by rw [rdR l i (by omega)]; exact List.getElem_mem _
  have htk : l.take (i + 1) = l.take i ++ [rd_T44 l (i : Int)] := by rw [List.take_succ_eq_append_getElem (by omega : i < l.length), rdR l i (by omega)]
  generalize rd_T44 l (i : Int) = r at *
  refine Ends.pos (by omega) (Ends.pos (by omega) (Ends.bind (rgood_ends r) ?_))
  by_cases hb : badR r
  ·have : anyBad l = true := List.any_eq_true.mpr ⟨r, hmem, by simpa using hb⟩
   rw [if_pos this]
   exact Ends.neg (by simpa using hb) (Ends.ret _)
  ·exact Ends.pos (by simpa using hb) (ih (i + 1) (by omega) (by omega) (by rw [htk]; simp only [anyBad, List.any_append] at hn ⊢; rw [hn]; simpa using hb))
theorem rcheck_ends (l : List S44) : Ends (fun k => papermillref13_Check.f k l) (check13 l) := by
 unfold papermillref13_Check.f check13
 by_cases h : l.length > 256
 ·rw [if_pos h]; exact Ends.pos (by omega) (Ends.ret _)
 ·rw [if_neg h]
  exact Ends.neg (by omega) (rcheck_l0 l (by omega) _ 0 rfl (by omega) (by simp [anyBad]))
end Go.Proofs.Ytalpegglbfobiaa.G

namespace Go.Proofs.Ytalpegglbfobiaa.G
open Go.RowKit Go.Proofs.YtalpegglbfobiaaW.PrintWords Go.Proofs.YtalpegglbfobiaaW.PrintLast Go.Proofs.YtalpegglbfobiaaW.PrintMore
set_option linter.unusedVariables false
set_option linter.unusedSimpArgs false
theorem fit_imgs {r : S44} (h : ¬ badR r) : fitX (imgs r) := by
 have e : sem [r] = imgs r := by simp [sem]
 rw [← e]
 exact sem_fit (fun x hx => by rw [List.mem_singleton.mp hx]; exact h)
theorem fit_join {xs ys : List Int} (h : fitX xs) (k : fitX ys) : fitX (xs ++ ys) := by
 intro x hx
 rcases List.mem_append.mp hx with hx | hx
 ·exact h x hx
 ·exact k x hx
theorem tot_pos {l : List S44} (hg : ∀ r ∈ l, ¬ badR r) : 0 ≤ tot13 l := by
 rw [← sem_len l (fun x hx => by have := fit_of (hg x hx); unfold fitR at this; omega)]
 omega
theorem rall_l0 (l : List S44) (hl : l.length ≤ 1000000) (hg : ∀ r ∈ l, ¬ badR r) : ∀ (d i : Nat) (xs : List Int), l.length - i = d → i ≤ l.length → fitX xs → xs.length + tot13 (l.drop i) ≤ 17179869184 → Ends (fun k => papermillref13_all.l0 k l (nrm xs) (i : Int)) (nrm (xs ++ sem (l.drop i))) := by
 intro d
 induction d with
 | zero =>
  intro i xs hd hi hf ht
  refine Ends.succ ?_
  simp only [papermillref13_all.l0]
  rw [List.drop_of_length_le (by omega), sem_nil, List.append_nil]
  exact Ends.neg (by omega) (Ends.ret _)
 | succ d ih =>
  intro i xs hd hi hf ht
  refine Ends.succ ?_
  have hx := hg (rd_T44 l (i : Int)) (by rw [rdR l i (by omega)]; exact List.getElem_mem _)
  rw [dropR l i (by omega)] at ht ⊢
  simp only [papermillref13_all.l0, wrap_nat i (by omega)]
  generalize rd_T44 l (i : Int) = r at *
  have hr := fit_of hx
  unfold fitR at hr
  rw [tot13_cons] at ht
  have h0 : 0 ≤ tot13 (l.drop (i + 1)) := tot_pos (fun x hx => hg x (List.mem_of_mem_drop hx))
  refine Ends.pos (by omega) (Ends.pos (by omega) (Ends.bind (rmore_nrm xs hf r (by omega) ⟨by omega, by omega, by omega⟩ (by omega)) ?_))
  refine (ih (i + 1) (xs ++ imgs r) (by omega) (by omega) (fit_join hf (fit_imgs hx)) (by rw [List.length_append, imgs_len]; omega)).congr ?_
  rw [sem_cons, List.append_assoc]
theorem rall_ends (l : List S44) (hl : l.length ≤ 1000000) (hg : ∀ r ∈ l, ¬ badR r) (ht : tot13 l ≤ 17179869184) : Ends (fun k => papermillref13_all.f k l) (nrm (sem l)) := by
 unfold papermillref13_all.f
 exact (rall_l0 l hl hg _ 0 [] rfl (by omega) (by intro x hx; simp at hx) (by simpa using ht)).congr (by simp)
end Go.Proofs.Ytalpegglbfobiaa.G

namespace Go.Proofs.Ytalpegglbfobiaa.G
open Go.RowKit Go.Proofs.YtalpegglbfobiaaW.PrintWords Go.Proofs.YtalpegglbfobiaaW.PrintLast Go.Proofs.YtalpegglbfobiaaW.PrintMore
set_option linter.unusedVariables false
set_option linter.unusedSimpArgs false
theorem rnorm13_ends (l : List S44) : Ends (fun k => papermillref13_Norm.f k l) (normOf l) := by
 unfold papermillref13_Norm.f normOf
 refine Ends.bind (rcheck_ends l) ?_
 by_cases h : check13 l = 0
 ·obtain ⟨hl, hg, ht⟩ := check13_zero h
  rw [if_pos h]
  exact Ends.pos h (Ends.bind (rall_ends l (by omega) hg ht) (Ends.ret _))
 ·rw [if_neg h]
  exact Ends.neg h (Ends.ret _)
end Go.Proofs.Ytalpegglbfobiaa.G

namespace Go.Proofs.Ytalpegglbfobiaa.G
open Go.RowKit Go.Proofs.YtalpegglbfobiaaW.PrintWords Go.Proofs.YtalpegglbfobiaaW.PrintLast Go.Proofs.YtalpegglbfobiaaW.PrintMore
set_option linter.unusedVariables false
set_option linter.unusedSimpArgs false
theorem rsame2_l0 (l m : List S55) (h : l.length = m.length) (hl : l.length ≤ 1000) : ∀ (d i : Nat), l.length - i = d → i ≤ l.length → Ends (fun k => papermillref04_Same.l0 k l m (i : Int)) (decide (l.drop i = m.drop i)) := by
 intro d
 induction d with
 | zero =>
  intro i hd hi
  refine Ends.succ ?_
  simp only [papermillref04_Same.l0]
  rw [List.drop_of_length_le (by omega), List.drop_of_length_le (by omega)]
  exact Ends.neg (by omega) (Ends.ret _)
 | succ d ih =>
  intro i hd hi
  refine Ends.succ ?_
  have ih := ih (i + 1) (by omega) (by omega)
  rw [drop36 l i (by omega), drop36 m i (by omega)]
  simp only [papermillref04_Same.l0, wrap_nat i (by omega)]
  generalize rd_T55 l (i : Int) = p at *
  generalize rd_T55 m (i : Int) = q at *
  refine Ends.pos (by omega) (Ends.pos (by omega) (Ends.pos (by omega) ?_))
  by_cases he : p = q
  ·subst he
   exact Ends.neg (by simp) (ih.congr (by simp))
  ·refine Ends.pos ?_ ((Ends.ret false).congr ?_)
   ·obtain ⟨p0, p1⟩ := p
    obtain ⟨q0, q1⟩ := q
    dsimp only
    by_cases h0 : p0 = q0
    ·have h1 : ¬ p1 = q1 := fun h1 => he (by rw [h0, h1])
     simp [h0, h1]
    ·simp [h0]
   ·simp [he]
theorem rsame2_ends (l m : List S55) (hl : l.length ≤ 1000) : Ends (fun k => papermillref04_Same.f k l m) (decide (l = m)) := by
 unfold papermillref04_Same.f
 by_cases h : l.length = m.length
 ·exact Ends.pos (by omega) ((rsame2_l0 l m h hl _ 0 rfl (by omega)).congr (by simp))
 ·refine Ends.neg (by omega) ((Ends.ret false).congr ?_)
  have : ¬ l = m := fun e => h (by rw [e])
  simp [this]
theorem rruns_l0 (l : List S55) (hl : l.length ≤ 256) (hv : ∀ s ∈ l, 0 ≤ s.f0 ∧ s.f0 < s.f1 ∧ s.f1 ≤ 17179869184) : ∀ (d i : Nat) (o : List S44), l.length - i = d → i ≤ l.length → o.length ≤ i → Ends (fun k => papermillref40_Runs.l0 k l o (i : Int)) (normOf (o ++ (l.drop i).map runS)) := by
 intro d
 induction d with
 | zero =>
  intro i o hd hi ho
  refine Ends.succ ?_
  simp only [papermillref40_Runs.l0]
  rw [List.drop_of_length_le (by omega), List.map_nil, List.append_nil]
  exact Ends.neg (by omega) (Ends.bind (rnorm13_ends o) (Ends.ret _))
 | succ d ih =>
  intro i o hd hi ho
  refine Ends.succ ?_
  have hx := hv (rd_T55 l (i : Int)) (by rw [rd36 l i (by omega)]; exact List.getElem_mem _)
  rw [drop36 l i (by omega)]
  simp only [papermillref40_Runs.l0, wrap_nat i (by omega)]
  generalize rd_T55 l (i : Int) = s at *
  have hw : wrap64 (s.f1 - s.f0) = s.f1 - s.f0 := by unfold wrap64; omega
  rw [hw]
  refine Ends.pos (by omega) (Ends.pos (by omega) (Ends.pos (by omega) ?_))
  refine (ih (i + 1) (o ++ [runS s]) (by omega) (by omega) (by simp; omega)).congr ?_
  rw [List.append_assoc]
  rfl
theorem rruns_ends (l : List S55) : Ends (fun k => papermillref40_Runs.f k l) (runsOf l) := by
 unfold papermillref40_Runs.f runsOf
 refine Ends.bind (rnorm_ends l) ?_
 by_cases hc : check04 l = 0
 ·have hj := joinOf_few hc
  rw [norm_fits hc, if_pos hc]
  refine Ends.pos rfl (Ends.bind (rsame2_ends (joinOf l) l (by omega)) ?_)
  by_cases he : joinOf l = l
  ·obtain ⟨h1, h2, h3, _⟩ := own_sep (l := l) ⟨hc, he⟩
   rw [if_pos he]
   refine Ends.pos (by simpa using he) ((rruns_l0 l h2 h3 _ 0 [] rfl (by omega) (by simp)).congr ?_)
   simpa using normOf_runs ⟨hc, he⟩
  ·rw [if_neg he]
   exact Ends.neg (by simpa using he) (Ends.ret _)
 ·have e : bothOf l [] 0 = ([], check04 l) := by unfold bothOf; rw [if_neg hc]
  rw [e, if_neg hc]
  exact Ends.neg hc (Ends.ret _)
end Go.Proofs.Ytalpegglbfobiaa.G

namespace Go.Proofs.Ytalpegglbfobiaa.G
open Go.RowKit Go.Proofs.YtalpegglbfobiaaW.PrintWords Go.Proofs.YtalpegglbfobiaaW.PrintLast Go.Proofs.YtalpegglbfobiaaW.PrintMore
set_option linter.unusedVariables false
set_option linter.unusedSimpArgs false
theorem rrev_l0 (l : List S44) (hl : l.length ≤ 256) (hg : ∀ r ∈ l, ¬ badR r) : ∀ (i : Nat) (xs : List Int), i ≤ l.length → fitX xs → xs.length + tot13 (l.take i) ≤ 17179869184 → Ends (fun k => papermillref13_Reverse.l0 k l (nrm xs) ((i : Int) - 1)) (nrm (xs ++ (sem (l.take i)).reverse), 0) := by
 intro i
 induction i with
 | zero =>
  intro xs hi hf ht
  refine Ends.succ ?_
  simp only [papermillref13_Reverse.l0]
  rw [List.take_zero, sem_nil, List.reverse_nil, List.append_nil]
  exact Ends.neg (by omega) (Ends.ret _)
 | succ i ih =>
  intro xs hi hf ht
  refine Ends.succ ?_
  have hx := hg (rd_T44 l (i : Int)) (by rw [rdR l i (by omega)]; exact List.getElem_mem _)
  have et : l.take (i + 1) = l.take i ++ [rd_T44 l (i : Int)] := by rw [rdR l i (by omega), List.take_succ_eq_append_getElem (by omega)]
  rw [et, tot13_append] at ht
  rw [et, sem_append, List.reverse_append]
  have e0 : ((i + 1 : Nat) : Int) - 1 = (i : Int) := by omega
  have e1 : wrap64 ((i : Int) - 1) = (i : Int) - 1 := by unfold wrap64; omega
  rw [e0]
  simp only [papermillref13_Reverse.l0, e1]
  generalize rd_T44 l (i : Int) = r at *
  have hr := fit_of hx
  unfold fitR at hr
  have es : sem [r] = imgs r := by simp [sem]
  rw [tot13_cons] at ht
  have ht0 : tot13 ([] : List S44) = 0 := rfl
  have hT : 0 ≤ tot13 (l.take i) := tot_pos (fun x hx => hg x (List.mem_of_mem_take hx))
  have ew : wrap64 (r.f1 - 1) = r.f1 - 1 := by unfold wrap64; omega
  have hi1 : papermillref13_image.f r.f0 r.f1 r.f2 (r.f1 - 1) = some (img r (r.f1 - 1)) := image_is r (r.f1 - 1) ⟨by omega, by omega, by omega⟩ (by omega) (by omega)
  have hin := img_in hx (r.f1 - 1) (by omega) (by omega)
  have hm := rmore_nrm xs hf (revR r) (by simp only [revR]; omega) ⟨by simp only [revR]; omega, by simp only [revR]; omega, by simp only [revR]; omega⟩ (by omega)
  rw [imgs_rev r (by omega)] at hm
  have hnext := ih (xs ++ (imgs r).reverse) (by omega) (fit_join hf (fun x hx2 => fit_imgs hx x (List.mem_reverse.mp hx2))) (by rw [List.length_append, List.length_reverse, imgs_len]; omega)
  rw [es, ← List.append_assoc]
  rw [ew]
  refine Ends.pos (by omega) (Ends.pos (by omega) (Ends.pos (by omega) (Ends.bind (Ends.const hi1) ?_)))
  unfold revR at hm
  cases hb : r.f2 with
  | true =>
   rw [hb] at hm
   exact Ends.pos (by simp) (Ends.bind (by simpa using hm) hnext)
  | false =>
   rw [hb] at hm
   exact Ends.neg (by simp) (Ends.bind (by simpa using hm) hnext)
theorem rrev_ends (l : List S44) : Ends (fun k => papermillref13_Reverse.f k l) (revOf l) := by
 unfold papermillref13_Reverse.f revOf
 refine Ends.bind (rcheck_ends l) ?_
 by_cases h : check13 l = 0
 ·rw [if_pos h]
  obtain ⟨hl, hg, ht⟩ := check13_zero h
  have e : wrap64 ((l.length : Int) - 1) = (l.length : Int) - 1 := by unfold wrap64; omega
  rw [e]
  refine Ends.pos h ((rrev_l0 l hl hg l.length [] (by omega) (by intro x hx; simp at hx) (by simpa using ht)).congr ?_)
  rw [List.take_length, List.nil_append]
 ·rw [if_neg h]
  exact Ends.neg h (Ends.ret _)
end Go.Proofs.Ytalpegglbfobiaa.G
