import Derived.Test.YtjkakgkiikjdmaaQ3
import Derived.Test.YtjkakgkiikjdmaaA5
import Derived.Test.YtjkakgkiikjdmaaQ4
import Derived.Test.YtjkakgkiikjdmaaQ1
namespace Go.Proofs.Ytjkakgkiikjdmaa.G
open Go.RowKit Go.Proofs.YtjkakgkiikjdmaaW.PrintWords Go.Proofs.YtjkakgkiikjdmaaW.PrintLast Go.Proofs.YtjkakgkiikjdmaaW.PrintMore
set_option linter.unusedVariables false
set_option linter.unusedSimpArgs false
def lowT (t : S56) : Prop := (-1099511627776 ≤ t.f0 ∧ t.f0 ≤ 1099511627776) ∧ 1 ≤ t.f1 ∧ t.f1 ≤ 1125899906842623
theorem rcut_is (r : S56) (x n : Int) (h : nearR r) (h0 : -1099511627776 ≤ x) (h1 : x ≤ 1099511627776) : papermillref13_cut.f r.f0 r.f1 r.f2 x n = some ((partR r x n).f0, (partR r x n).f1, (partR r x n).f2) := part_is r x n h h0 h1
theorem rmore_j1 (k0 : Unit) (l : List S56) (m : Int) (s : Int) (r t : S56) (hn : nearR r) (hl : l.length ≤ 20000000000) : Ends (fun k => papermillref13_more.j1 k l m s true r.f0 r.f1 r.f2 t.f0 t.f1 t.f2) (l ++ [partR r 0 r.f1]) := by
 refine Ends.succ ?_
 simp only [papermillref13_more.j1]
 exact Ends.pos (by simp) (Ends.bind (Ends.const (rcut_is r 0 r.f1 hn (by omega) (by omega))) (Ends.pos (by omega) (Ends.ret _)))
theorem joins_z1 {r t : S56} (h : goes r t = 1) : (if t.f1 > 1 then (t.f2 != (goes r t == -1)) else false) = !decide (joins r t) := by
 have hj : joins r t ↔ (t.f1 > 1 → t.f2 = false) := by
  constructor
  ·intro k h2; have := k.2 h2; rw [← this]; simp [h]
  ·intro k; exact ⟨.inl h, fun h2 => by rw [k h2]; simp [h]⟩
 rw [show (goes r t == -1) = false by rw [h]; rfl]
 by_cases h2 : t.f1 > 1
 ·rw [if_pos h2]
  cases hb : t.f2 with
  | false => rw [decide_eq_true (hj.mpr (fun _ => hb))]; rfl
  | true => rw [decide_eq_false (fun k => by have := hj.mp k h2; rw [hb] at this; cases this)]; rfl
 ·rw [if_neg h2, decide_eq_true (hj.mpr (fun k => absurd k h2))]; rfl
theorem joins_zm {r t : S56} (h : goes r t = -1) : (if t.f1 > 1 then (t.f2 != (goes r t == -1)) else false) = !decide (joins r t) := by
 have hj : joins r t ↔ (t.f1 > 1 → t.f2 = true) := by
  constructor
  ·intro k h2; have := k.2 h2; rw [← this]; simp [h]
  ·intro k; exact ⟨.inr h, fun h2 => by rw [k h2]; simp [h]⟩
 rw [show (goes r t == -1) = true by rw [h]; rfl]
 by_cases h2 : t.f1 > 1
 ·rw [if_pos h2]
  cases hb : t.f2 with
  | true => rw [decide_eq_true (hj.mpr (fun _ => hb))]; rfl
  | false => rw [decide_eq_false (fun k => by have := hj.mp k h2; rw [hb] at this; cases this)]; rfl
 ·rw [if_neg h2, decide_eq_true (hj.mpr (fun k => absurd k h2))]; rfl
theorem rmore_last (d : List S56) (t r : S56) (hl : (d ++ [t]).length ≤ 20000000000) (ht : lowT t) (hn : nearR r) (h1 : 1 ≤ r.f1) (q : List S56)
  (hj1 : ∀ z : Bool, z = !decide (joins r t) → Ends (fun k => papermillref13_more.j1 k (d ++ [t]) (d.length : Int) (goes r t) z r.f0 r.f1 r.f2 t.f0 t.f1 t.f2) q) : Ends (fun k => papermillref13_more.l0 k (d ++ [t]) r.f0 r.f1 r.f2) q := by
 refine Ends.succ ?_
 have hlen : (d ++ [t]).length = d.length + 1 := by simp
 have hw : wrap64 (((d ++ [t]).length : Int) - 1) = (d.length : Int) := by unfold wrap64; omega
 have hrd : rd_T56 (d ++ [t]) (d.length : Int) = t := by simp [rd_T56]
 have hlo := ht.1
 have hlo2 := ht.2
 have hnn := hn.1
 have hnn2 := hn.2.1
 have ew : wrap64 (t.f1 - 1) = t.f1 - 1 := by unfold wrap64; omega
 have eg : wrap64 (r.f0 - img t (t.f1 - 1)) = goes r t := by
  unfold wrap64 goes img
  split <;> omega
 have ei : papermillref13_image.f t.f0 t.f1 t.f2 (t.f1 - 1) = some (img t (t.f1 - 1)) := image_far t (t.f1 - 1) ⟨hlo, hlo2.1, by omega⟩ (by omega) (by omega)
 simp only [papermillref13_more.l0, hw, hrd, ew, ei, Option.bind_some, eg]
 refine Ends.pos (by omega) (Ends.neg (by omega) (Ends.pos (by omega) (Ends.pos (by omega) ?_)))
 by_cases e1 : goes r t = 1
 ·refine Ends.pos e1 ?_
  have hz := joins_z1 e1
  by_cases e2 : t.f1 > 1
  ·rw [if_pos e2] at hz; exact Ends.pos e2 (hj1 _ hz)
  ·rw [if_neg e2] at hz; exact Ends.neg e2 (hj1 _ hz)
 ·refine Ends.neg e1 ?_
  by_cases e3 : goes r t = -1
  ·refine Ends.pos e3 ?_
   have hz := joins_zm e3
   by_cases e2 : t.f1 > 1
   ·rw [if_pos e2] at hz; exact Ends.pos e2 (hj1 _ hz)
   ·rw [if_neg e2] at hz; exact Ends.neg e2 (hj1 _ hz)
  ·exact Ends.neg e3 (hj1 _ (by rw [decide_eq_false (fun k => by rcases k.1 with h | h; exact e1 h; exact e3 h)]; rfl))
theorem rmore_new (d : List S56) (t r : S56) (hl : (d ++ [t]).length ≤ 20000000000) (ht : lowT t) (hn : nearR r) (h1 : 1 ≤ r.f1) (hj : ¬ joins r t) : Ends (fun k => papermillref13_more.l0 k (d ++ [t]) r.f0 r.f1 r.f2) (d ++ [t] ++ [partR r 0 r.f1]) :=
 rmore_last d t r hl ht hn h1 _ (fun z hz => by
  have : z = true := by rw [hz]; simpa using hj
  rw [this]
  exact rmore_j1 () (d ++ [t]) _ _ r t hn hl)
theorem rmore_l0 (l : List S56) (r : S56) (hr : sane r) (hl : l.length ≤ 19999999990) (hlow : ∀ t ∈ l, lowT t ∧ t.f1 ≤ 1125899906842622) : Ends (fun k => papermillref13_more.l0 k l r.f0 r.f1 r.f2) (addOf l r) := by
 by_cases h0 : r.f1 < 1
 ·refine Ends.succ ?_
  simp only [papermillref13_more.l0]
  rw [addOf, if_pos h0]
  exact Ends.neg (by omega) (Ends.ret _)
 have h1 : 1 ≤ r.f1 := by omega
 rcases List.eq_nil_or_concat l with rfl | ⟨d, t, rfl⟩
 ·refine Ends.succ ?_
  simp only [papermillref13_more.l0]
  rw [addOf, if_neg h0]
  exact Ends.pos (by omega) (Ends.pos (by simp only [List.length_nil]; unfold wrap64; omega) (Ends.bind (Ends.const (rcut_is r 0 r.f1 hr.near (by omega) (by omega))) (Ends.pos (by simp) (Ends.ret _))))
 ·rw [List.concat_eq_append] at *
  obtain ⟨ht, ht9⟩ := hlow t (by simp)
  have hset : ∀ x, (d ++ [t]).set (d.length : Int).toNat x = d ++ [x] := fun x => by simp
  by_cases hj : joins r t
  ·have hadd : addOf (d ++ [t]) r = if r.f1 > 1 ∧ r.f2 ≠ decide (goes r t = -1) then d ++ [⟨t.f0, t.f1 + 1, decide (goes r t = -1)⟩] ++ [partR r 1 (r.f1 - 1)] else d ++ [⟨t.f0, t.f1 + r.f1, decide (goes r t = -1)⟩] := by
    rw [addOf, if_neg h0]
    simp only [List.reverse_append, List.reverse_cons, List.reverse_nil, List.nil_append, List.singleton_append, addR, if_pos hj]
    split <;> simp
   refine rmore_last d t r (by omega) ht hr.near h1 _ (fun z hz => ?_)
   have : z = false := by rw [hz]; simpa using hj
   rw [this]
   have hlo2 := ht.2
   have hs3 := hr.2.2
   have e1 : wrap64 (t.f1 + 1) = t.f1 + 1 := by unfold wrap64; omega
   have e2 : wrap64 (t.f1 + r.f1) = t.f1 + r.f1 := by unfold wrap64; omega
   have e3 : wrap64 (r.f1 - 1) = r.f1 - 1 := by unfold wrap64; omega
   have eb : (goes r t == -1) = decide (goes r t = -1) := rfl
   have hlen : (d ++ [t]).length = d.length + 1 := by simp
   have j2f : ¬ (r.f1 > 1 ∧ r.f2 ≠ decide (goes r t = -1)) → Ends (fun k => papermillref13_more.j2 k (d ++ [t]) (d.length : Int) (goes r t) r.f1 false r.f0 r.f1 r.f2 t.f0 t.f1 t.f2) (addOf (d ++ [t]) r) := fun hc => by
    refine Ends.succ ?_
    simp only [papermillref13_more.j2, Option.bind_some, hset, e2, eb]
    rw [hadd, if_neg hc]
    exact Ends.neg (by simp) (Ends.pos (by omega) (Ends.pos (by omega) (Ends.pos (by simp) (Ends.ret _))))
   refine Ends.succ ?_
   simp only [papermillref13_more.j1]
   refine Ends.neg (by simp) ?_
   by_cases h2 : r.f1 > 1
   ·refine Ends.pos h2 ?_
    by_cases hf : r.f2 = decide (goes r t = -1)
    ·have hb : (r.f2 != (goes r t == -1)) = false := by rw [eb, ← hf]; simp
     rw [hb]
     exact j2f (fun k => k.2 hf)
    ·have hb : (r.f2 != (goes r t == -1)) = true := by rw [eb]; simpa using hf
     rw [hb]
     refine Ends.succ ?_
     simp only [papermillref13_more.j2, Option.bind_some, hset, e1, e3, eb]
     have hp := rcut_is r 1 (r.f1 - 1) hr.near (by omega) (by omega)
     refine Ends.pos (by simp) (Ends.pos (by omega) (Ends.pos (by omega) (Ends.neg (by omega) (Ends.bind (Ends.const hp) ?_))))
     rw [hadd, if_pos ⟨h2, hf⟩]
     exact (rmore_new d ⟨t.f0, t.f1 + 1, decide (goes r t = -1)⟩ (partR r 1 (r.f1 - 1)) (by simp at hl ⊢; omega) ⟨ht.1, by dsimp only; omega, by dsimp only; omega⟩ (hr.part (by omega) (by omega) (by omega)) (by simp only [partR]; omega) (not_joins r t ht.2.1 hj hf _)).congr (by rw [show (partR r 1 (r.f1 - 1)).f1 = r.f1 - 1 from rfl, partR_part])
   ·exact Ends.neg h2 (j2f (fun k => h2 k.1))
  ·have hadd : addOf (d ++ [t]) r = d ++ [t] ++ [partR r 0 r.f1] := by
    rw [addOf, if_neg h0]
    simp only [List.reverse_append, List.reverse_cons, List.reverse_nil, List.nil_append, List.singleton_append, addR, if_neg hj]
    simp
   rw [hadd]
   exact rmore_new d t r (by omega) ht hr.near h1 hj
theorem rmore_ends (l : List S56) (r : S56) (hr : sane r) (hl : l.length ≤ 19999999990) (hlow : ∀ t ∈ l, lowT t ∧ t.f1 ≤ 1125899906842622) : Ends (fun k => papermillref13_more.f k l r.f0 r.f1 r.f2) (addOf l r) := by
 unfold papermillref13_more.f
 simp only [Option.bind_some, List.nil_append]
 exact Ends.pos (by simp; omega) (rmore_l0 l r hr hl hlow)
end Go.Proofs.Ytjkakgkiikjdmaa.G

namespace Go.Proofs.Ytjkakgkiikjdmaa.G
open Go.RowKit Go.Proofs.YtjkakgkiikjdmaaW.PrintWords Go.Proofs.YtjkakgkiikjdmaaW.PrintLast Go.Proofs.YtjkakgkiikjdmaaW.PrintMore
set_option linter.unusedVariables false
set_option linter.unusedSimpArgs false
theorem addOf_nrm (xs : List Int) (p : S56) (h : 1 ≤ p.f1) : addOf (nrm xs) p = nrm (xs ++ imgs p) := by
 unfold nrm
 rw [List.foldl_append, ← addR_fold p h _ (fold_ok xs [] (by simp))]
 rw [addOf, if_neg (by omega), List.reverse_reverse]
theorem nrm_short (xs : List Int) : (nrm xs).length ≤ xs.length := by
 have key : ∀ (xs : List Int) (l : List S56), (xs.foldl one l).length ≤ l.length + xs.length := by
  intro xs
  induction xs with
  | nil => intro l; simp
  | cons x xs ih => intro l; have := ih (one l x); have := addR_len ⟨x, 1, false⟩ l; simp only [List.foldl_cons, List.length_cons]; unfold one at *; omega
 have := key xs []
 unfold nrm
 simpa using this
theorem nrm_low (xs : List Int) (hf : fitX xs) (hl : xs.length ≤ 17179869184) : ∀ t ∈ nrm xs, lowT t ∧ t.f1 ≤ 1125899906842622 := by
 intro t ht
 have h1 := (nrm_ok xs t ht).1
 have m0 := mem_sem ht 0 (by omega)
 have hlen := len_sem_mem ht
 rw [sem_nrm] at m0 hlen
 have b0 := hf _ m0
 have e0 : img t ((0 : Nat) : Int) = t.f0 := by unfold img; split <;> simp
 rw [e0] at b0
 unfold lowT
 omega
theorem rmore_nrm (xs : List Int) (hf : fitX xs) (r : S56) (h1 : 1 ≤ r.f1) (hr : sane r) (hl : xs.length ≤ 17179869184) : Ends (fun k => papermillref13_more.f k (nrm xs) r.f0 r.f1 r.f2) (nrm (xs ++ imgs r)) :=
 (rmore_ends (nrm xs) r hr (by have := nrm_short xs; omega) (nrm_low xs hf hl)).congr (addOf_nrm xs r h1)
end Go.Proofs.Ytjkakgkiikjdmaa.G

namespace Go.Proofs.Ytjkakgkiikjdmaa.G
open Go.RowKit Go.Proofs.YtjkakgkiikjdmaaW.PrintWords Go.Proofs.YtjkakgkiikjdmaaW.PrintLast Go.Proofs.YtjkakgkiikjdmaaW.PrintMore
set_option linter.unusedVariables false
set_option linter.unusedSimpArgs false
theorem rgood_ends (r : S56) : Ends (fun k => papermillref13_good.f k r.f0 r.f1 r.f2) (decide (¬ badR r)) := by
 have key : ∀ z : Bool, z = decide (r.f1 < 1 ∨ r.f1 > 17179869184 ∨ r.f0 < 0 ∨ r.f0 ≥ 17179869184) → Ends (fun k => papermillref13_good.j0 k z r.f0 r.f1 r.f2) (decide (¬ badR r)) := fun z hz => by
  refine Ends.succ ?_
  simp only [papermillref13_good.j0]
  by_cases hb : r.f1 < 1 ∨ r.f1 > 17179869184 ∨ r.f0 < 0 ∨ r.f0 ≥ 17179869184
  ·exact Ends.pos (by rw [hz]; simpa using hb) ((Ends.ret false).congr (by symm; rw [decide_eq_false_iff_not, Classical.not_not]; unfold badR; omega))
  ·refine Ends.neg (by rw [hz]; simpa using hb) ?_
   cases hf : r.f2 with
   | true =>
    have ew : wrap64 (wrap64 (r.f0 - r.f1) + 1) = r.f0 - r.f1 + 1 := by
     have : wrap64 (r.f0 - r.f1) = r.f0 - r.f1 := by unfold wrap64; omega
     rw [this]; unfold wrap64; omega
    refine Ends.pos rfl ((Ends.ret _).congr ?_)
    rw [ew]
    unfold badR
    rw [decide_eq_decide]
    simp [hf]
    omega
   | false =>
    have ew : wrap64 (r.f0 + r.f1) = r.f0 + r.f1 := by unfold wrap64; omega
    refine Ends.neg (by simp) ((Ends.ret _).congr ?_)
    rw [ew]
    unfold badR
    rw [decide_eq_decide]
    simp [hf]
    omega
 unfold papermillref13_good.f
 by_cases c1 : r.f1 < 1
 ·exact Ends.pos c1 (key true (by simp [c1]))
 ·refine Ends.neg c1 ?_
  by_cases c2 : r.f1 > 17179869184
  ·exact Ends.pos c2 (key true (by simp [c2]))
  ·refine Ends.neg c2 ?_
   by_cases c3 : r.f0 < 0
   ·exact Ends.pos c3 (key true (by simp [c3]))
   ·exact Ends.neg c3 (key _ (by simp [c1, c2, c3]))
theorem rlength_l0 (l : List S56) (hl : l.length ≤ 65536) (hv : ∀ r ∈ l, 0 ≤ r.f1 ∧ r.f1 ≤ 17179869184) : ∀ (d i : Nat) (n : Int), l.length - i = d → i ≤ l.length → 0 ≤ n → n ≤ i * 17179869184 → Ends (fun k => papermillref13_length.l0 k l n (i : Int)) (n + tot13 (l.drop i)) := by
 intro d
 induction d with
 | zero =>
  intro i n hd hi h0 h1
  refine Ends.succ ?_
  simp only [papermillref13_length.l0]
  rw [List.drop_of_length_le (by omega)]
  exact Ends.neg (by omega) ((Ends.ret _).congr (by simp [tot13]))
 | succ d ih =>
  intro i n hd hi h0 h1
  refine Ends.succ ?_
  have hx := hv (rd_T56 l (i : Int)) (by rw [rdR l i (by omega)]; exact List.getElem_mem _)
  rw [dropR l i (by omega), tot13_cons]
  simp only [papermillref13_length.l0, wrap_nat i (by omega)]
  generalize rd_T56 l (i : Int) = r at *
  have ew : wrap64 (n + r.f1) = n + r.f1 := by unfold wrap64; omega
  rw [ew]
  exact Ends.pos (by omega) (Ends.pos (by omega) ((ih (i + 1) (n + r.f1) (by omega) (by omega) (by omega) (by omega)).congr (by rw [Int.add_assoc])))
theorem rlength_ends (l : List S56) (hl : l.length ≤ 65536) (hv : ∀ r ∈ l, 0 ≤ r.f1 ∧ r.f1 ≤ 17179869184) : Ends (fun k => papermillref13_length.f k l) (tot13 l) := by
 unfold papermillref13_length.f
 exact (rlength_l0 l hl hv _ 0 0 rfl (by omega) (by omega) (by omega)).congr (by simp)
theorem rcheck_l0 (l : List S56) (hl : l.length ≤ 256) : ∀ (d i : Nat), l.length - i = d → i ≤ l.length → anyBad (l.take i) = false → Ends (fun k => papermillref13_Check.l0 k l (i : Int)) (if anyBad l = true then 1 else if tot13 l > 17179869184 then 21 else 0) := by
 intro d
 induction d with
 | zero =>
  intro i hd hi hn
  refine Ends.succ ?_
  simp only [papermillref13_Check.l0]
  rw [List.take_of_length_le (by omega)] at hn
  have hg : ∀ r ∈ l, ¬ badR r := fun r hr hb => by
   have : anyBad l = true := List.any_eq_true.mpr ⟨r, hr, by simpa using hb⟩
   rw [hn] at this; cases this
  refine Ends.neg (by omega) (Ends.bind (rlength_ends l (by omega) (fun r hr => by have := fit_of (hg r hr); unfold fitR at this; omega)) ?_)
  by_cases h : tot13 l > 17179869184
  ·exact Ends.pos h ((Ends.ret 21).congr (by rw [hn, if_neg (by simp), if_pos h]))
  ·exact Ends.neg h ((Ends.ret 0).congr (by rw [hn, if_neg (by simp), if_neg h]))
 | succ d ih =>
  intro i hd hi hn
  refine Ends.succ ?_
  simp only [papermillref13_Check.l0, wrap_nat i (by omega)]
  have hmem : rd_T56 l (i : Int) ∈ l := by rw [rdR l i (by omega)]; exact List.getElem_mem _
  have htk : l.take (i + 1) = l.take i ++ [rd_T56 l (i : Int)] := by rw [List.take_succ_eq_append_getElem (by omega : i < l.length), rdR l i (by omega)]
  generalize rd_T56 l (i : Int) = r at *
  refine Ends.pos (by omega) (Ends.pos (by omega) (Ends.bind (rgood_ends r) ?_))
  by_cases hb : badR r
  ·have : anyBad l = true := List.any_eq_true.mpr ⟨r, hmem, by simpa using hb⟩
   rw [if_pos this]
   exact Ends.neg (by simpa using hb) (Ends.ret _)
  ·exact Ends.pos (by simpa using hb) (ih (i + 1) (by omega) (by omega) (by rw [htk]; simp only [anyBad, List.any_append] at hn ⊢; rw [hn]; simpa using hb))
theorem rcheck_ends (l : List S56) : Ends (fun k => papermillref13_Check.f k l) (check13 l) := by
 unfold papermillref13_Check.f check13
 by_cases h : l.length > 256
 ·rw [if_pos h]; exact Ends.pos (by omega) (Ends.ret _)
 ·rw [if_neg h]
  exact Ends.neg (by omega) (rcheck_l0 l (by omega) _ 0 rfl (by omega) (by simp [anyBad]))
end Go.Proofs.Ytjkakgkiikjdmaa.G

namespace Go.Proofs.Ytjkakgkiikjdmaa.G
open Go.RowKit Go.Proofs.YtjkakgkiikjdmaaW.PrintWords Go.Proofs.YtjkakgkiikjdmaaW.PrintLast Go.Proofs.YtjkakgkiikjdmaaW.PrintMore
set_option linter.unusedVariables false
set_option linter.unusedSimpArgs false
theorem fit_imgs {r : S56} (h : ¬ badR r) : fitX (imgs r) := by
 have e : sem [r] = imgs r := by simp [sem]
 rw [← e]
 exact sem_fit (fun x hx => by rw [List.mem_singleton.mp hx]; exact h)
theorem fit_join {xs ys : List Int} (h : fitX xs) (k : fitX ys) : fitX (xs ++ ys) := by
 intro x hx
 rcases List.mem_append.mp hx with hx | hx
 ·exact h x hx
 ·exact k x hx
theorem tot_pos {l : List S56} (hg : ∀ r ∈ l, ¬ badR r) : 0 ≤ tot13 l := by
 rw [← sem_len l (fun x hx => by have := fit_of (hg x hx); unfold fitR at this; omega)]
 omega
theorem rall_l0 (l : List S56) (hl : l.length ≤ 1000000) (hg : ∀ r ∈ l, ¬ badR r) : ∀ (d i : Nat) (xs : List Int), l.length - i = d → i ≤ l.length → fitX xs → xs.length + tot13 (l.drop i) ≤ 17179869184 → Ends (fun k => papermillref13_all.l0 k l (nrm xs) (i : Int)) (nrm (xs ++ sem (l.drop i))) := by
 intro d
 induction d with
 | zero =>
  intro i xs hd hi hf ht
  refine Ends.succ ?_
  simp only [papermillref13_all.l0]
  rw [List.drop_of_length_le (by omega), sem_nil, List.append_nil]
  exact Ends.neg (by omega) (Ends.ret _)
 | succ d ih =>
  intro i xs hd hi hf ht
  refine Ends.succ ?_
  have hx := hg (rd_T56 l (i : Int)) (by rw [rdR l i (by omega)]; exact List.getElem_mem _)
  rw [dropR l i (by omega)] at ht ⊢
  simp only [papermillref13_all.l0, wrap_nat i (by omega)]
  generalize rd_T56 l (i : Int) = r at *
  have hr := fit_of hx
  unfold fitR at hr
  rw [tot13_cons] at ht
  have h0 : 0 ≤ tot13 (l.drop (i + 1)) := tot_pos (fun x hx => hg x (List.mem_of_mem_drop hx))
  refine Ends.pos (by omega) (Ends.pos (by omega) (Ends.bind (rmore_nrm xs hf r (by omega) ⟨by omega, by omega, by omega⟩ (by omega)) ?_))
  refine (ih (i + 1) (xs ++ imgs r) (by omega) (by omega) (fit_join hf (fit_imgs hx)) (by rw [List.length_append, imgs_len]; omega)).congr ?_
  rw [sem_cons, List.append_assoc]
theorem rall_ends (l : List S56) (hl : l.length ≤ 1000000) (hg : ∀ r ∈ l, ¬ badR r) (ht : tot13 l ≤ 17179869184) : Ends (fun k => papermillref13_all.f k l) (nrm (sem l)) := by
 unfold papermillref13_all.f
 exact (rall_l0 l hl hg _ 0 [] rfl (by omega) (by intro x hx; simp at hx) (by simpa using ht)).congr (by simp)
end Go.Proofs.Ytjkakgkiikjdmaa.G

namespace Go.Proofs.Ytjkakgkiikjdmaa.G
open Go.RowKit Go.Proofs.YtjkakgkiikjdmaaW.PrintWords Go.Proofs.YtjkakgkiikjdmaaW.PrintLast Go.Proofs.YtjkakgkiikjdmaaW.PrintMore
set_option linter.unusedVariables false
set_option linter.unusedSimpArgs false
theorem rnorm13_ends (l : List S56) : Ends (fun k => papermillref13_Norm.f k l) (normOf l) := by
 unfold papermillref13_Norm.f normOf
 refine Ends.bind (rcheck_ends l) ?_
 by_cases h : check13 l = 0
 ·obtain ⟨hl, hg, ht⟩ := check13_zero h
  rw [if_pos h]
  exact Ends.pos h (Ends.bind (rall_ends l (by omega) hg ht) (Ends.ret _))
 ·rw [if_neg h]
  exact Ends.neg h (Ends.ret _)
end Go.Proofs.Ytjkakgkiikjdmaa.G

namespace Go.Proofs.Ytjkakgkiikjdmaa.G
open Go.RowKit Go.Proofs.YtjkakgkiikjdmaaW.PrintWords Go.Proofs.YtjkakgkiikjdmaaW.PrintLast Go.Proofs.YtjkakgkiikjdmaaW.PrintMore
attribute [local go_sem] max2_int min2_int max_two min_two max_three min_three max_four min_four   -- for this text's walks alone
set_option linter.unusedVariables false
set_option linter.unusedSimpArgs false

def papermillref40_Count.f (k : Nat) (l0 : List (S56)) : Option (Int × Int) := (papermillref40_Places.f k l0).bind fun bt25001 => (some ((bt25001.1.length : Int), bt25001.2))
theorem papermillref40_Count.mono : ∀ a0 k, LeO (papermillref40_Count.f k a0) (papermillref40_Count.f (k + 1) a0) := by
 intro a0 k
 unfold papermillref40_Count.f
 repeat' first
   | (with_reducible exact papermillref40_Places.mono _ _)
   | (with_reducible exact LeO.refl _)
   | (with_reducible exact LeO.none _)
   | (with_reducible refine LeO.ite ?_ ?_)
   | (with_reducible refine LeO.bind ?_ (fun _ => ?_))
   | exact papermillref40_Places.mono _ _
   | exact LeO.none _
   | refine LeO.ite ?_ ?_
   | refine LeO.bind ?_ (fun _ => ?_)
set_option maxHeartbeats 8000000 in
set_option maxRecDepth 100000 in
theorem papermillref40_Count.calls (k : Nat) (A0 : Option Addr) (c0 : Nat) (l0 : List (S56)) (r1 : Int) (r2 : Int) (w : World) (hr0 : Kd.C k56 w A0 l0.length l0) (hc0 : l0.length ≤ c0) (h : papermillref40_Count.f k l0 = some (r1, r2)) :
  Calls Try.prog 24 #[.slice A0 l0.length c0] w fun e w' => e = .returned (.tuple #[.int .i64 r1, .int .i64 r2]) ∧ Below w.heap.size w w' := by
 have HR0 := Aside0.mk hr0
 have HC0 := Aside0.mk hc0
 clear hr0 hc0
 have HB := Aside0.mk (Below.refl w.heap.size w)
 have H : ((papermillref40_Places.f k l0).bind fun bt25001 => (some ((bt25001.1.length : Int), bt25001.2))) = some (r1, r2) := h
 clear h
 replace H := Option.bind_eq_some_iff.mp H
 obtain ⟨⟨t25001, t25002⟩, A20, H⟩ := H
 replace H : (some ((t25001.length : Int), t25002)) = some (r1, r2) := H
 have A2 := Aside0.mk A20
 clear A20
 simp only [Option.some.injEq, Prod.mk.injEq] at H
 obtain ⟨rfl, rfl⟩ := H
 go_enter Try.func24, Try.ntmps24
 go_wp2_with (first | ((with_reducible refine gate_callee (f := 22) rfl ?_); refine goesL_ (some 8) rfl rfl Try.func22 (by kernel_rfl) rfl #[.slice A0 l0.length c0] rfl (by (try simp only [List.map_toArray, List.map_cons, List.map_nil]); first | done | rfl | (simp only [List.length_drop, List.length_take]; rfl)) ?_; (with_reducible refine (papermillref40_Places.calls k _ _ l0 t25001 t25002 _ ?side1 ?side2 A2.out).mono ?_); (case side1 => exact HR0.out); (case side2 => exact HC0.out); rintro e w3 ⟨v25003, rfl, ho0, hb⟩; refine ⟨_, rfl, ?_⟩; have n0_ := Aside0.mk (Kd.R_lower ho0 (below_size (by repeat (first | exact HB.out | apply below_alloc | apply pw_below_drewN | apply below_drew1)))); have n1_ := Aside0.mk (below_step (by repeat (first | exact HB.out | apply below_alloc | apply pw_below_drewN | apply below_drew1)) hb); clear HB; have HO25004 := n0_; have HB := n1_; clear n0_ n1_; (try clear hb); (try clear hb2); (try clear hk); (try clear hi); (try clear ho0); obtain ⟨Ao4, co4, eo4⟩ := Kd.R_slice HO25004.out; subst eo4))
 go_ret2
 exact ⟨by first | rfl | (simp [errW_none, errW_some] <;> rfl) | (simp [*, errW_none, errW_some] <;> rfl), by repeat (first | exact HB.out | apply below_alloc | apply pw_below_drewN | apply below_drew1)⟩

end Go.Proofs.Ytjkakgkiikjdmaa.G

namespace Go.Proofs.Ytjkakgkiikjdmaa.G
open Go.RowKit Go.Proofs.YtjkakgkiikjdmaaW.PrintWords Go.Proofs.YtjkakgkiikjdmaaW.PrintLast Go.Proofs.YtjkakgkiikjdmaaW.PrintMore
set_option linter.unusedVariables false
set_option linter.unusedSimpArgs false
theorem rplaces_l0 (l : List S56) (hl : l.length ≤ 256) (hv : ∀ r ∈ l, 0 ≤ r.f1 ∧ r.f1 ≤ 17179869184) : ∀ (d i : Nat) (o : List Int) (a : Int), l.length - i = d → i ≤ l.length → o = places (l.take i) → a = tot13 (l.take i) → Ends (fun k => papermillref40_Places.l0 k l o a (i : Int)) (places l, 0) := by
 intro d
 induction d with
 | zero =>
  intro i o a hd hi ho ha
  refine Ends.succ ?_
  simp only [papermillref40_Places.l0]
  rw [List.take_of_length_le (by omega)] at ho
  rw [ho]
  exact Ends.neg (by omega) (Ends.ret _)
 | succ d ih =>
  intro i o a hd hi ho ha
  refine Ends.succ ?_
  have hb := tot13_bound (l.take i) (fun r hr => hv r (List.mem_of_mem_take hr))
  have hlt : (l.take i).length = i := by rw [List.length_take]; omega
  have hx := hv (rd_T56 l (i : Int)) (by rw [rdR l i (by omega)]; exact List.getElem_mem _)
  have hsn : l.take (i + 1) = l.take i ++ [rd_T56 l (i : Int)] := by rw [List.take_succ_eq_append_getElem (by omega), rdR l i (by omega)]
  have hol : o.length ≤ i := by rw [ho, places_len]; omega
  have hw : wrap64 (a + (rd_T56 l (i : Int)).f1) = a + (rd_T56 l (i : Int)).f1 := by unfold wrap64; omega
  have ht : a + (rd_T56 l (i : Int)).f1 = tot13 (l.take (i + 1)) := by rw [hsn, tot13_append, ha]; simp [tot13]
  simp only [papermillref40_Places.l0, wrap_nat i (by omega), hw]
  refine Ends.pos (by omega) ?_
  cases i with
  | zero =>
   refine Ends.neg (by omega) (Ends.pos (by omega) (ih 1 o _ (by omega) (by omega) ?_ ht))
   rw [ho, hsn, places_snoc]
   simp
  | succ i =>
   refine Ends.pos (by omega) (Ends.pos (by omega) (Ends.pos (by omega) (ih (i + 1 + 1) (o ++ [a]) _ (by omega) (by omega) ?_ ht)))
   rw [hsn, places_snoc, if_neg (fun e => by rw [e] at hlt; simp at hlt), ho, ha]
theorem rplaces_ends (m : List S56) : Ends (fun k => papermillref40_Places.f k m) (placesOf m) := by
 unfold papermillref40_Places.f placesOf
 refine Ends.bind (rnorm13_ends m) ?_
 unfold normOf
 by_cases h : check13 m = 0
 ·obtain ⟨h1, h2, _⟩ := nrm_fit h
  rw [if_pos h, if_pos h]
  exact Ends.pos rfl (rplaces_l0 _ h1 (fun r hr => by have := h2 r hr; omega) _ 0 [] 0 rfl (by omega) rfl rfl)
 ·rw [if_neg h, if_neg h]
  exact Ends.neg h (Ends.ret _)
theorem rcount_ends (m : List S56) : Ends (fun k => papermillref40_Count.f k m) (((placesOf m).1.length : Int), (placesOf m).2) := by
 unfold papermillref40_Count.f
 exact Ends.bind (rplaces_ends m) (Ends.ret _)
theorem rints_l0 (l : List Int) (hl : l.length ≤ 1000) : ∀ (d i : Nat), l.length - i = d → i ≤ l.length → Ends (fun k => papermillref40_Ints.l0 k l l (i : Int)) true := by
 intro d
 induction d with
 | zero =>
  intro i hd hi
  refine Ends.succ ?_
  simp only [papermillref40_Ints.l0]
  exact Ends.neg (by omega) (Ends.ret _)
 | succ d ih =>
  intro i hd hi
  refine Ends.succ ?_
  simp only [papermillref40_Ints.l0, wrap_nat i (by omega)]
  exact Ends.pos (by omega) (Ends.pos (by omega) (Ends.pos (by omega) (Ends.pos trivial (ih (i + 1) (by omega) (by omega)))))
theorem rints_ends (l : List Int) (hl : l.length ≤ 1000) : Ends (fun k => papermillref40_Ints.f k l l) true := by
 unfold papermillref40_Ints.f
 exact Ends.pos (by trivial) (rints_l0 l hl _ 0 rfl (by omega))
theorem placesOf_len (m : List S56) : (placesOf m).1.length ≤ 255 := by
 unfold placesOf
 split
 ·rename_i h
  have := (nrm_fit h).1
  rw [places_len]
  omega
 ·simp
end Go.Proofs.Ytjkakgkiikjdmaa.G

namespace Go.Proofs.Ytjkakgkiikjdmaa.G
open Go.RowKit Go.Proofs.YtjkakgkiikjdmaaW.PrintWords Go.Proofs.YtjkakgkiikjdmaaW.PrintLast Go.Proofs.YtjkakgkiikjdmaaW.PrintMore
set_option linter.unusedVariables false
set_option linter.unusedSimpArgs false
theorem rsplices_l0 (p : List Int) (x size : Int) (hl : p.length ≤ 1000) (hx : 0 ≤ x ∧ x ≤ 17179869184) (hs : 1 ≤ size ∧ size ≤ 17179869184) : ∀ (d i : Nat) (n : Nat), p.length - i = d → i ≤ p.length → n ≤ i → Ends (fun k => papermillref40_splices.l0 k p x size (n : Int) (i : Int)) ((n + cnt40 (p.drop i) x size : Nat) : Int) := by
 have hw : wrap64 (x + size) = x + size := by unfold wrap64; omega
 intro d
 induction d with
 | zero =>
  intro i n hd hi hn
  refine Ends.succ ?_
  simp only [papermillref40_splices.l0, hw]
  rw [List.drop_of_length_le (by omega)]
  exact Ends.neg (by omega) (Ends.ret _)
 | succ d ih =>
  intro i n hd hi hn
  refine Ends.succ ?_
  have hc : cnt40 (p.drop i) x size = cnt40 (p.drop (i + 1)) x size + (if inRoll x size (rd p (i : Int)) = true then 1 else 0) := by
   rw [dropI p i (by omega)]; unfold cnt40; rw [List.countP_cons]
  rw [hc]
  simp only [papermillref40_splices.l0, wrap_nat i (by omega), wrap_nat n (by omega), hw]
  generalize rd p (i : Int) = y at *
  refine Ends.pos (by omega) (Ends.pos (by omega) ?_)
  by_cases h1 : x < y
  ·refine Ends.pos h1 ?_
   by_cases h2 : y < x + size
   ·rw [if_pos (by unfold inRoll; simp; omega)]
    exact Ends.pos h2 ((ih (i + 1) (n + 1) (by omega) (by omega) (by omega)).congr (by congr 1; omega))
   ·rw [if_neg (by unfold inRoll; simp; omega)]
    exact Ends.neg h2 ((ih (i + 1) n (by omega) (by omega) (by omega)).congr (by congr 1))
  ·rw [if_neg (by unfold inRoll; simp; omega)]
   exact Ends.neg h1 ((ih (i + 1) n (by omega) (by omega) (by omega)).congr (by congr 1))
theorem rsplices_ends (p : List Int) (x size : Int) (hl : p.length ≤ 1000) (hx : 0 ≤ x ∧ x ≤ 17179869184) (hs : 1 ≤ size ∧ size ≤ 17179869184) : Ends (fun k => papermillref40_splices.f k p x size) (cnt40 p x size : Int) := by
 unfold papermillref40_splices.f
 exact (rsplices_l0 p x size hl hx hs _ 0 0 rfl (by omega) (by omega)).congr (by simp)
section
variable (p : List Int) (size most length : Int) (hl : p.length ≤ 1000) (hs : 1 ≤ size ∧ size ≤ 17179869184) (hlen : size ≤ length ∧ length ≤ 17179869184) (hv : ∀ y ∈ p, 0 ≤ y ∧ y ≤ 17179869184)
include hl hs hlen hv
omit hlen in
theorem rallow_l1 (out : List S49) (x : Int) (hx : 0 ≤ x ∧ x ≤ 17179869184) (ho : (out.length : Int) ≤ x) (nx : Int) (r : List S49 × Int)
  (h : Ends (fun k => papermillref40_Allowed.l0 k size most p length (if (cnt40 p x size : Int) ≤ most then push out x nx else out) nx) r) :
  ∀ (d i : Nat) (n : Int), p.length - i = d → i ≤ p.length → 0 ≤ n → n ≤ 17179869185 → nextOf (p.drop i) x size n = nx → Ends (fun k => papermillref40_Allowed.l1 k size most p length out x n (i : Int)) r := by
 have hcE := rsplices_ends p x size hl hx hs
 intro d
 induction d with
 | zero =>
  intro i n hd hi hn0 hn1 hnx
  rw [List.drop_of_length_le (by omega)] at hnx
  have hnx : n = nx := hnx
  subst hnx
  refine Ends.succ ?_
  simp only [papermillref40_Allowed.l1]
  refine Ends.neg (by omega) (Ends.bind hcE ?_)
  have happ : (cnt40 p x size : Int) ≤ most → push out x n = out ++ [⟨x, n⟩] → Ends (fun k => papermillref40_Allowed.j3 k size most p length out x n (wrap64 ((out.length : Int) - 1)) false) r := by
   intro hc e
   rw [if_pos hc, e] at h
   refine Ends.succ ?_
   simp only [papermillref40_Allowed.j3]
   exact Ends.neg (by simp) (Ends.bind hcE (Ends.pos hc (Ends.pos (by omega) h)))
  by_cases hc : (cnt40 p x size : Int) ≤ most
  ·refine Ends.pos hc ?_
   by_cases h0 : out.length = 0
   ·have e : out = [] := List.length_eq_zero_iff.1 h0
    subst e
    exact Ends.neg (by simp [wrap64]) (happ hc rfl)
   ·have hw : wrap64 ((out.length : Int) - 1) = ((out.length - 1 : Nat) : Int) := by unfold wrap64; omega
    have hg := getLast_rd out h0
    rw [hw] at happ ⊢
    refine Ends.pos (by omega) (Ends.pos (by omega) (Ends.pos (by omega) ?_))
    by_cases h1 : (rd_T49 out ((out.length - 1 : Nat) : Int)).f1 = x
    ·rw [show ((rd_T49 out ((out.length - 1 : Nat) : Int)).f1 == x) = true by simpa using h1]
     refine Ends.succ ?_
     simp only [papermillref40_Allowed.j3, Int.toNat_natCast]
     refine Ends.pos (by trivial) (Ends.pos (by omega) (Ends.pos (by omega) ?_))
     rw [dropLast_set out h0]
     rw [if_pos hc] at h
     simpa [push, hg, h1] using h
    ·rw [show ((rd_T49 out ((out.length - 1 : Nat) : Int)).f1 == x) = false by simpa using h1]
     exact happ hc (by simp [push, hg, h1])
  ·refine Ends.neg hc (Ends.succ ?_)
   simp only [papermillref40_Allowed.j3]
   rw [if_neg hc] at h
   exact Ends.neg (by simp) (Ends.bind hcE (Ends.neg hc h))
 | succ d ih =>
  intro i n hd hi hn0 hn1 hnx
  refine Ends.succ ?_
  have hy := hv (rd p (i : Int)) (by rw [rdI p i (by omega)]; exact List.getElem_mem _)
  rw [dropI p i (by omega)] at hnx
  have hnx : nextOf (p.drop (i + 1)) x size (nextStep x size n (rd p (i : Int))) = nx := hnx
  have hw : wrap64 (wrap64 (rd p (i : Int) - size) + 1) = rd p (i : Int) - size + 1 := by unfold wrap64; omega
  have hmn : ∀ q r : Int, mn q r = min q r := fun q r => by unfold mn; split <;> omega
  simp only [papermillref40_Allowed.l1, wrap_nat i (by omega), hw, hmn]
  unfold nextStep at hnx
  generalize rd p (i : Int) = y at *
  refine Ends.pos (by omega) (Ends.pos (by omega) ?_)
  by_cases h1 : y > x
  ·rw [if_pos h1] at hnx
   refine Ends.pos h1 ?_
   by_cases h2 : y - size + 1 > x
   ·rw [if_pos h2] at hnx
    exact Ends.pos h2 (ih (i + 1) _ (by omega) (by omega) (by omega) (by omega) hnx)
   ·rw [if_neg h2] at hnx
    exact Ends.neg h2 (ih (i + 1) _ (by omega) (by omega) (by omega) (by omega) hnx)
  ·rw [if_neg h1] at hnx
   refine Ends.neg h1 ?_
   by_cases h2 : y - size + 1 > x
   ·rw [if_pos h2] at hnx
    exact Ends.pos h2 (ih (i + 1) _ (by omega) (by omega) (by omega) (by omega) hnx)
   ·rw [if_neg h2] at hnx
    exact Ends.neg h2 (ih (i + 1) _ (by omega) (by omega) (by omega) (by omega) hnx)
theorem rallow_l0 : ∀ (d : Nat) (x : Int) (out : List S49), (length - size + 1 - x).toNat ≤ d → 0 ≤ x → x ≤ length - size + 1 → sep (-1) out → (∀ t ∈ out, t.f1 ≤ x) → (out.length : Int) ≤ x →
  ∃ F, Ends (fun k => papermillref40_Allowed.l0 k size most p length out x) (F, 0) ∧ Swept p size most (length - size + 1) out x F := by
 have hw : wrap64 (length - size) = length - size := by unfold wrap64; omega
 have hw1 : wrap64 (length - size + 1) = length - size + 1 := by unfold wrap64; omega
 have hend : ∀ (x : Int) (out : List S49), ¬ x ≤ length - size → Ends (fun k => papermillref40_Allowed.l0 k size most p length out x) (out, 0) := fun x out hx => by
  refine Ends.succ ?_
  simp only [papermillref40_Allowed.l0, hw]
  exact Ends.neg hx (Ends.ret _)
 intro d
 induction d with
 | zero =>
  intro x out hd h0 hx h1 h2 h3
  exact ⟨out, hend x out (by omega), Swept.here h1 (by omega)⟩
 | succ d ih =>
  intro x out hd h0 hx h1 h2 h3
  by_cases hk : x ≤ length - size
  ·obtain ⟨n1, n2, n3⟩ := nextOf_ok x size p (length - size + 1) (by omega)
   have hpl : (push out x (nextOf p x size (length - size + 1))).length ≤ out.length + 1 := by
    unfold push
    split
    ·simp
    ·split
     ·simp <;> omega
     ·simp
   obtain ⟨p1, p2, p3⟩ := push_ok h1 h2 (by omega) n1
   have step : ∃ F, Ends (fun k => papermillref40_Allowed.l0 k size most p length (if (cnt40 p x size : Int) ≤ most then push out x (nextOf p x size (length - size + 1)) else out) (nextOf p x size (length - size + 1))) (F, 0) ∧ Swept p size most (length - size + 1) out x F := by
    by_cases hc : (cnt40 p x size : Int) ≤ most
    ·rw [if_pos hc]
     obtain ⟨F, f1, f2⟩ := ih _ _ (by omega) (by omega) n2 p1 p2 (by omega)
     exact ⟨F, f1, Swept.step (by omega) h0 h1 h2 hc f2⟩
    ·rw [if_neg hc]
     obtain ⟨F, f1, f2⟩ := ih (nextOf p x size (length - size + 1)) out (by omega) (by omega) n2 h1 (fun t ht => by have := h2 t ht; omega) (by omega)
     exact ⟨F, f1, Swept.skip (by omega) hc f2⟩
   obtain ⟨F, f1, f2⟩ := step
   refine ⟨F, Ends.succ ?_, f2⟩
   simp only [papermillref40_Allowed.l0, hw, hw1]
   exact Ends.pos hk (rallow_l1 p size most length hl hs hv out x (by omega) h3 _ _ f1 _ 0 (length - size + 1) rfl (by omega) (by omega) (by omega) rfl)
  ·exact ⟨out, hend x out hk, Swept.here h1 (by omega)⟩
end
theorem rLen_ends (l : List S56) : Ends (fun k => papermillref13_Length.f k l) (if check13 l = 0 then (tot13 l, 0) else (0, check13 l)) := by
 unfold papermillref13_Length.f
 refine Ends.bind (rcheck_ends l) ?_
 by_cases h : check13 l = 0
 ·obtain ⟨hl, hg, _⟩ := check13_zero h
  rw [if_pos h]
  exact Ends.pos h (Ends.bind (rlength_ends l (by omega) (fun r hr => by have := fit_of (hg r hr); unfold fitR at this; omega)) (Ends.ret _))
 ·rw [if_neg h]
  exact Ends.neg h (Ends.ret _)
theorem rallow_j0 (m : List S56) (size most : Int) (h : check13 m = 0) (z : Bool) (hz : z = true → offA size most) (hz2 : z = false → ¬ offA size most) : Ends (fun k => papermillref40_Allowed.j0 k m size most (places (nrm (sem m))) z) (allowOf m size most) := by
 refine Ends.succ ?_
 simp only [papermillref40_Allowed.j0]
 unfold allowOf
 rw [if_pos h]
 cases z with
 | true =>
  have := hz rfl
  unfold offA at this
  rw [if_pos this]
  exact Ends.pos rfl (Ends.ret _)
 | false =>
  have ho := hz2 rfl
  unfold offA at ho
  rw [if_neg ho]
  refine Ends.neg (by simp) (Ends.bind (rLen_ends m) ?_)
  rw [if_pos h]
  dsimp only
  obtain ⟨h1, h2, h3⟩ := nrm_fit h
  obtain ⟨p1, p2⟩ := places_up (l := nrm (sem m)) (fun r hr => (h2 r hr).1)
  have p3 := places_len (nrm (sem m))
  have ht := (check13_zero h).2.2
  have ht0 := tot_nonneg h
  have hv : ∀ y ∈ places (nrm (sem m)), 0 ≤ y ∧ y ≤ 17179869184 := fun y hy => by have := p2 y hy; omega
  by_cases hs : tot13 m < size
  ·rw [if_pos hs]
   refine Ends.succ ?_
   have hw : wrap64 (tot13 m - size) = tot13 m - size := by unfold wrap64; omega
   simp only [papermillref40_Allowed.l0, hw]
   exact Ends.neg (by omega) (Ends.ret _)
  ·rw [if_neg hs]
   obtain ⟨F, f1, f2⟩ := rallow_l0 (places (nrm (sem m))) size most (tot13 m) (by omega) (by omega) (by omega) hv _ 0 [] (Nat.le_refl _) (by omega) (by omega) trivial (by simp) (by simp)
   obtain ⟨a1, a2⟩ := allowL_ok (places (nrm (sem m))) (tot13 m) size most p1 (by omega) (by omega) (by omega) hv
   have e : F = allowL (places (nrm (sem m))) (tot13 m) size most := sep_unique f2.sep_ a1 (fun z => by
    rw [f2.mem_, a2]
    constructor
    ·rintro (hz | hz)
     ·exact absurd hz (mem_nil z)
     ·exact hz
    ·exact .inr)
   rw [← e]
   exact f1
theorem rallow_ends (m : List S56) (size most : Int) : Ends (fun k => papermillref40_Allowed.f k m size most) (allowOf m size most) := by
 unfold papermillref40_Allowed.f
 refine Ends.bind (rplaces_ends m) ?_
 by_cases h : check13 m = 0
 ·have e : placesOf m = (places (nrm (sem m)), 0) := by unfold placesOf; rw [if_pos h]
  rw [e]
  refine Ends.pos rfl ?_
  by_cases h1 : size < 1
  ·exact Ends.pos h1 (rallow_j0 m size most h true (fun _ => .inl h1) (by simp))
  ·refine Ends.neg h1 ?_
   by_cases h2 : size > 17179869184
   ·exact Ends.pos h2 (rallow_j0 m size most h true (fun _ => .inr (.inl h2)) (by simp))
   ·refine Ends.neg h2 ?_
    by_cases h3 : most < 0
    ·exact Ends.pos h3 (rallow_j0 m size most h true (fun _ => .inr (.inr (.inl h3))) (by simp))
    ·refine Ends.neg h3 (rallow_j0 m size most h _ (fun hh => .inr (.inr (.inr (by simpa using hh)))) (fun hh => ?_))
     have := of_decide_eq_false hh
     unfold offA
     omega
 ·have e : placesOf m = ([], check13 m) := by unfold placesOf; rw [if_neg h]
  rw [e]
  unfold allowOf
  rw [if_neg h]
  exact Ends.neg h (Ends.ret _)
theorem allowOf_len (m : List S56) (size most : Int) : (allowOf m size most).1.length ≤ 1000 := by
 unfold allowOf
 split
 ·rename_i h
  split
  ·simp
  ·split
   ·simp
   ·obtain ⟨h1, h2, h3⟩ := nrm_fit h
    obtain ⟨p1, p2⟩ := places_up (l := nrm (sem m)) (fun r hr => (h2 r hr).1)
    have p3 := places_len (nrm (sem m))
    have ht := (check13_zero h).2.2
    have := allowL_few (places (nrm (sem m))) (tot13 m) size most p1 (by omega) (by omega) (by omega) (fun y hy => by have := p2 y hy; omega)
    have := badsGo_len (places (nrm (sem m))) size most.toNat ((places (nrm (sem m))).length - most.toNat) most.toNat
    unfold badsOf at *
    dsimp only
    omega
 ·simp
end Go.Proofs.Ytjkakgkiikjdmaa.G

namespace Go.Proofs.Ytjkakgkiikjdmaa.G
open Go.RowKit Go.Proofs.YtjkakgkiikjdmaaW.PrintWords Go.Proofs.YtjkakgkiikjdmaaW.PrintLast Go.Proofs.YtjkakgkiikjdmaaW.PrintMore
set_option linter.unusedVariables false
set_option linter.unusedSimpArgs false
theorem same_l0 (l : List S49) (hl : l.length ≤ 1000000) : ∀ (d i : Nat), l.length - i = d → i ≤ l.length → Ends (fun k => papermillref04_Same.l0 k l l (i : Int)) true := by
 intro d
 induction d with
 | zero =>
  intro i hd hi
  refine Ends.succ ?_
  simp only [papermillref04_Same.l0]
  exact Ends.neg (by omega) (Ends.ret _)
 | succ d ih =>
  intro i hd hi
  refine Ends.succ ?_
  simp only [papermillref04_Same.l0, wrap_nat i (by omega)]
  exact Ends.pos (by omega) (Ends.pos (by omega) (Ends.pos (by omega) (Ends.neg (by simp) (ih (i + 1) (by omega) (by omega)))))
theorem same_ends (l : List S49) (hl : l.length ≤ 1000000) : Ends (fun k => papermillref04_Same.f k l l) true := by
 unfold papermillref04_Same.f
 exact Ends.pos rfl (same_l0 l hl _ 0 rfl (by omega))
end Go.Proofs.Ytjkakgkiikjdmaa.G
