import Derived.Test.YtalpegglbfobiaaQ2
import Derived.Test.YtalpegglbfobiaaQ4
import Derived.Test.YtalpegglbfobiaaQ1
import Derived.Test.YtalpegglbfobiaaQ3
import Derived.Deep.LoopGhost
import Derived.Sort.QuietIn
import Derived.Deep.Fields
import Derived.RangeFuncRecord
import Derived.StillTailTactics
namespace Go.Proofs.Ytalpegglbfobiaa.G
open Go.RowKit Go.Proofs.YtalpegglbfobiaaW.PrintWords Go.Proofs.YtalpegglbfobiaaW.PrintLast Go.Proofs.YtalpegglbfobiaaW.PrintMore
set_option linter.unusedVariables false
set_option linter.unusedSimpArgs false
theorem scheck_l0 (l : List S55) (hl : l.length ≤ 256) : ∀ (d i : Nat), l.length - i = d → i ≤ l.length → Ends (fun k => span_Check.l0 k l (l.length : Int) (i : Int)) (if ∃ s ∈ l.drop i, badS s then 1 else 0) := by
 intro d
 induction d with
 | zero =>
  intro i hd hi
  refine Ends.succ ?_
  simp only [span_Check.l0]
  refine Ends.neg (by omega) ?_
  rw [List.drop_of_length_le (by omega), if_neg (by simp)]
  exact Ends.ret _
 | succ d ih =>
  intro i hd hi
  refine Ends.succ ?_
  simp only [span_Check.l0, wrap_nat i (by omega)]
  refine Ends.pos (by omega) (Ends.pos (by omega) (Ends.pos (by omega) ?_))
  rw [drop36 l i (by omega)]
  generalize rd_T55 l (i : Int) = x
  by_cases h : badS x
  ·rw [if_pos ⟨x, by simp, h⟩]
   unfold badS at h
   by_cases h1 : x.f0 < 0
   ·exact Ends.pos h1 (Ends.ret _)
   ·refine Ends.neg h1 ?_
    by_cases h2 : x.f0 > x.f1
    ·exact Ends.pos h2 (Ends.ret _)
    ·exact Ends.neg h2 (Ends.pos (by omega) (Ends.ret _))
  ·have e : (∃ s ∈ x :: l.drop (i + 1), badS s) ↔ ∃ s ∈ l.drop (i + 1), badS s := by simp [h]
   simp only [e]
   unfold badS at h
   exact Ends.neg (by omega) (Ends.neg (by omega) (Ends.neg (by omega) (ih (i + 1) (by omega) (by omega))))
theorem scheck_ends (l : List S55) : Ends (fun k => span_Check.f k l) (check04 l) := by
 unfold span_Check.f check04
 by_cases h : l.length > 256
 ·rw [if_pos h]
  exact Ends.pos (by omega) (Ends.ret _)
 ·rw [if_neg h]
  exact Ends.neg (by omega) (scheck_l0 l (by omega) _ 0 rfl (by omega))
def idx (a : List S55) (x : Int) : Nat := (a.takeWhile fun s => decide (s.f1 ≤ x)).length
theorem idx_le (a : List S55) (x : Int) : idx a x ≤ a.length := by unfold idx; exact (List.takeWhile_sublist _).length_le
theorem idx_cons (s : S55) (a : List S55) (x : Int) : idx (s :: a) x = if s.f1 ≤ x then idx a x + 1 else 0 := by
 unfold idx
 by_cases h : s.f1 ≤ x <;> simp [List.takeWhile_cons, h]
theorem idx_lt : ∀ (a : List S55) (x : Int) (i : Nat), i < idx a x → (rd_T55 a (i : Int)).f1 ≤ x
 | [], x, i, h => by simp [idx] at h
 | s :: a, x, i, h => by
  rw [idx_cons] at h
  split at h
  ·cases i with
   | zero => simpa [rd_T55]
   | succ i => have := idx_lt a x i (by omega); simpa [rd_T55] using this
  ·omega
theorem idx_at : ∀ (a : List S55) (x : Int), idx a x < a.length → x < (rd_T55 a (idx a x : Int)).f1
 | [], x, h => by simp at h
 | s :: a, x, h => by
  rw [idx_cons] at h ⊢
  split at h
  ·rename_i h1
   rw [if_pos h1]
   have := idx_at a x (by simp at h; omega)
   simpa [rd_T55] using this
  ·rename_i h1
   rw [if_neg h1]
   simp [rd_T55]; omega
theorem idx_mono (x y : Int) (h : x ≤ y) : ∀ (a : List S55), idx a x ≤ idx a y
 | [] => Nat.le_refl _
 | s :: a => by
  rw [idx_cons, idx_cons]
  have := idx_mono x y h a
  split
  ·rw [if_pos (by omega)]; omega
  ·omega
theorem hasOf_cons (s : S55) (a : List S55) (x : Int) : hasOf (s :: a) x = (decide (s.f0 ≤ x ∧ x < s.f1) || hasOf a x) := rfl
theorem sep_has {a : List S55} {e x : Int} (h : sep e a) (hx : x ≤ e) : hasOf a x = false := by
 cases hh : hasOf a x with
 | false => rfl
 | true => have := sep_mem h ((hasOf_iff a x).1 hh); omega
theorem has_idx : ∀ (a : List S55) (e x : Int), sep e a → hasOf a x = (decide (idx a x < a.length) && decide ((rd_T55 a (idx a x : Int)).f0 ≤ x))
 | [], e, x, _ => by simp [hasOf]
 | s :: a, e, x, h => by
  rw [hasOf_cons, idx_cons]
  by_cases h1 : s.f1 ≤ x
  ·rw [if_pos h1, has_idx a s.f1 x h.2.2]
   have e1 : decide (s.f0 ≤ x ∧ x < s.f1) = false := by simp; omega
   rw [e1]
   simp [rd_T55]
  ·rw [if_neg h1, sep_has h.2.2 (by omega)]
   have e1 : (s.f0 ≤ x ∧ x < s.f1) ↔ s.f0 ≤ x := by omega
   simp [e1, rd_T55]
section
variable (kf : Bool → Bool → Option Bool) (kp : Bool → Bool → Bool) (hk : ∀ p q, kf p q = some (kp p q))
variable (a b : List S55) (E : List Int)
theorem sets_l2 (out : List S55) (j x n : Int) (r : List S55 × Int) (ha : a.length < 1000000) (h : Ends (fun k => span_sets.j3 kf k a b E out (idx a x) j n x E (E.length : Int) n) r) :
  ∀ (d i : Nat), idx a x - i = d → i ≤ idx a x → Ends (fun k => span_sets.l2 kf k a b E out (i : Int) j n x E (E.length : Int) n) r := by
 have hle := idx_le a x
 intro d
 induction d with
 | zero =>
  intro i hd hi
  obtain rfl : i = idx a x := by omega
  refine Ends.succ ?_
  simp only [span_sets.l2, wrap_nat (idx a x) (by omega)]
  by_cases h1 : idx a x < a.length
  ·exact Ends.pos (by omega) (Ends.pos (by omega) (Ends.neg (by have := idx_at a x h1; omega) h))
  ·exact Ends.neg (by omega) h
 | succ d ih =>
  intro i hd hi
  refine Ends.succ ?_
  simp only [span_sets.l2, wrap_nat i (by omega)]
  exact Ends.pos (by omega) (Ends.pos (by omega) (Ends.pos (idx_lt a x i (by omega)) (ih (i + 1) (by omega) (by omega))))
theorem sets_l3 (out : List S55) (i x n : Int) (r : List S55 × Int) (hb : b.length < 1000000) (h : Ends (fun k => span_sets.j5 kf k a b E out i (idx b x) n x E (E.length : Int) n) r) :
  ∀ (d j : Nat), idx b x - j = d → j ≤ idx b x → Ends (fun k => span_sets.l3 kf k a b E out i (j : Int) n x E (E.length : Int) n) r := by
 have hle := idx_le b x
 intro d
 induction d with
 | zero =>
  intro j hd hj
  obtain rfl : j = idx b x := by omega
  refine Ends.succ ?_
  simp only [span_sets.l3, wrap_nat (idx b x) (by omega)]
  by_cases h1 : idx b x < b.length
  ·exact Ends.pos (by omega) (Ends.pos (by omega) (Ends.neg (by have := idx_at b x h1; omega) h))
  ·exact Ends.neg (by omega) h
 | succ d ih =>
  intro j hd hj
  refine Ends.succ ?_
  simp only [span_sets.l3, wrap_nat j (by omega)]
  exact Ends.pos (by omega) (Ends.pos (by omega) (Ends.pos (idx_lt b x j (by omega)) (ih (j + 1) (by omega) (by omega))))
def setsFin (o : List S55) : List S55 × Int := if (joinOf o).length > 256 then ([], 8) else (joinOf o, 0)
include hk in
theorem sets_j6 (ea eb : Int) (sa : sep ea a) (sb : sep eb b) (out : List S55) (n : Nat) (x : Int) (hn : n + 1 < E.length) (hE : E.length < 1000000) (ho : out.length < 1000000) (r : List S55 × Int)
  (h : Ends (fun k => span_sets.l1 kf k a b E (out ++ if kp (hasOf a x) (hasOf b x) = true then [⟨x, rd E ((n + 1 : Nat) : Int)⟩] else []) (idx a x) (idx b x) E (E.length : Int) ((n + 1 : Nat) : Int)) r) :
  Ends (fun k => span_sets.j6 kf k a b E out (idx a x) (idx b x) (n : Int) x E (E.length : Int) (n : Int) false) r := by
 refine Ends.succ ?_
 simp only [span_sets.j6, wrap_nat n (by omega), hk, Option.bind_some]
 have ga := has_idx a ea x sa
 have gb := has_idx b eb x sb
 have fin : ∀ c : Bool, c = kp (hasOf a x) (hasOf b x) → Ends (fun k => if c = true then (if 0 ≤ ((n + 1 : Nat) : Int) then (if ((n + 1 : Nat) : Int) < (E.length : Int) then (if out.length < 8796093022208 then (span_sets.l1 kf k a b E (out ++ [(⟨x, rd E ((n + 1 : Nat) : Int)⟩ : S55)]) (idx a x) (idx b x) E (E.length : Int) ((n + 1 : Nat) : Int)) else none) else none) else none) else (span_sets.l1 kf k a b E out (idx a x) (idx b x) E (E.length : Int) ((n + 1 : Nat) : Int))) r := by
  intro c hc
  subst hc
  cases hkp : kp (hasOf a x) (hasOf b x) with
  | true => rw [hkp] at h; exact Ends.pos rfl (Ends.pos (by omega) (Ends.pos (by omega) (Ends.pos (by omega) (by simpa using h))))
  | false => rw [hkp] at h; exact Ends.neg (by simp) (by simpa using h)
 refine Ends.neg (by simp) ?_
 by_cases h1 : idx a x < a.length
 ·have ea1 : hasOf a x = decide ((rd_T55 a (idx a x : Int)).f0 ≤ x) := by rw [ga]; simp [h1]
  refine Ends.pos (by omega) (Ends.pos (by omega) ?_)
  by_cases h2 : idx b x < b.length
  ·have eb1 : hasOf b x = decide ((rd_T55 b (idx b x : Int)).f0 ≤ x) := by rw [gb]; simp [h2]
   exact Ends.pos (by omega) (Ends.pos (by omega) (fin _ (by rw [ea1, eb1])))
  ·have eb1 : hasOf b x = false := by rw [gb]; simp [h2]
   exact Ends.neg (by omega) (fin _ (by rw [ea1, eb1]))
 ·have ea1 : hasOf a x = false := by rw [ga]; simp [h1]
  refine Ends.neg (by omega) ?_
  by_cases h2 : idx b x < b.length
  ·have eb1 : hasOf b x = decide ((rd_T55 b (idx b x : Int)).f0 ≤ x) := by rw [gb]; simp [h2]
   exact Ends.pos (by omega) (Ends.pos (by omega) (fin _ (by rw [ea1, eb1])))
  ·have eb1 : hasOf b x = false := by rw [gb]; simp [h2]
   exact Ends.neg (by omega) (fin _ (by rw [ea1, eb1]))
theorem sweep_in : ∀ (L : List Int), L.Pairwise (· ≤ ·) → ∀ s ∈ sweep kp a b L, s.f0 ∈ L ∧ s.f1 ∈ L ∧ s.f0 ≤ s.f1
 | [], _, s, h => by simp [sweep] at h
 | [c], _, s, h => by simp [sweep] at h
 | c :: d :: r, hp, s, h => by
  rw [List.pairwise_cons] at hp
  rw [sweep, List.mem_append] at h
  rcases h with h | h
  ·split at h
   ·obtain rfl := List.mem_singleton.1 h
    exact ⟨by simp, by simp, hp.1 d (by simp)⟩
   ·simp at h
  ·obtain ⟨h1, h2, h3⟩ := sweep_in (d :: r) hp.2 s h
   exact ⟨List.mem_cons_of_mem _ h1, List.mem_cons_of_mem _ h2, h3⟩
theorem sorted_rd (hE : E.Pairwise (· ≤ ·)) (n : Nat) (h : n + 1 < E.length) : rd E (n : Int) ≤ rd E ((n + 1 : Nat) : Int) := by
 rw [rdI E n (by omega), rdI E (n + 1) h]
 exact List.pairwise_iff_getElem.1 hE n (n + 1) (by omega) h (by omega)
include hk in
theorem sets_l1 (ea eb : Int) (sa : sep ea a) (sb : sep eb b) (ha : a.length < 1000000) (hb : b.length < 1000000) (hE : E.length < 400000) (hs : E.Pairwise (· ≤ ·)) : ∀ (d n i j : Nat) (out : List S55), E.length - n = d → n ≤ E.length → (n < E.length → i ≤ idx a (rd E (n : Int)) ∧ j ≤ idx b (rd E (n : Int))) → out.length + d < 400000 → okSpans (out ++ sweep kp a b (E.drop n)) = true →
  Ends (fun k => span_sets.l1 kf k a b E out (i : Int) (j : Int) E (E.length : Int) (n : Int)) (setsFin (out ++ sweep kp a b (E.drop n))) := by
 intro d
 induction d with
 | zero =>
  intro n i j out hd hn hij ho hok
  refine Ends.succ ?_
  simp only [span_sets.l1]
  refine Ends.neg (by omega) ?_
  rw [List.drop_of_length_le (by omega)] at hok ⊢
  rw [show sweep kp a b ([] : List Int) = [] from rfl, List.append_nil] at hok ⊢
  have e : span_joined.f out = some (joinOf out) := by unfold span_joined.f; rw [if_pos hok]
  simp only [e, Option.bind_some]
  unfold setsFin
  by_cases h : (joinOf out).length > 256
  ·rw [if_pos h]; exact Ends.pos (by omega) (Ends.ret _)
  ·rw [if_neg h]; exact Ends.neg (by omega) (Ends.ret _)
 | succ d ih =>
  intro n i j out hd hn hij ho hok
  refine Ends.succ ?_
  simp only [span_sets.l1, wrap_nat n (by omega)]
  refine Ends.pos (by omega) (Ends.pos (by omega) (Ends.pos (by omega) ?_))
  obtain ⟨hi, hj⟩ := hij (by omega)
  refine sets_l2 kf a b E out j _ n _ ha ?_ _ i rfl hi
  refine Ends.succ ?_
  simp only [span_sets.j3]
  refine sets_l3 kf a b E out _ _ n _ hb ?_ _ j rfl hj
  refine Ends.succ ?_
  simp only [span_sets.j5, wrap_nat n (by omega)]
  have next : ∀ (out' : List S55), out'.length + d < 400000 → out' ++ sweep kp a b (E.drop (n + 1)) = out ++ sweep kp a b (E.drop n) → Ends (fun k => span_sets.l1 kf k a b E out' (idx a (rd E (n : Int)) : Int) (idx b (rd E (n : Int)) : Int) E (E.length : Int) ((n + 1 : Nat) : Int)) (setsFin (out ++ sweep kp a b (E.drop n))) := by
   intro out' ho' he
   rw [← he]
   refine ih (n + 1) _ _ out' (by omega) (by omega) (fun h => ?_) ho' (by rw [he]; exact hok)
   exact ⟨idx_mono _ _ (sorted_rd E hs n h) a, idx_mono _ _ (sorted_rd E hs n h) b⟩
  by_cases hl : n + 1 = E.length
  ·refine Ends.pos (by omega) (Ends.succ ?_)
   simp only [span_sets.j6, wrap_nat n (by omega)]
   refine Ends.pos trivial (next out (by omega) ?_)
   rw [dropI E n (by omega), List.drop_of_length_le (by omega)]
   simp [sweep]
  ·refine Ends.neg (by omega) (Ends.pos (by omega) (Ends.pos (by omega) ?_))
   have e1 := dropI E n (by omega)
   have e2 := dropI E (n + 1) (by omega)
   by_cases hx : rd E ((n + 1 : Nat) : Int) = rd E (n : Int)
   ·have hb : (rd E ((n + 1 : Nat) : Int) == rd E (n : Int)) = true := by simpa using hx
    simp only [hb]
    refine Ends.succ ?_
    simp only [span_sets.j6, wrap_nat n (by omega)]
    refine Ends.pos trivial (next out (by omega) ?_)
    rw [e1, e2, sweep, ← e2, hx]
    simp
   ·have hb : (rd E ((n + 1 : Nat) : Int) == rd E (n : Int)) = false := by simpa using hx
    simp only [hb]
    refine sets_j6 kf kp hk a b E ea eb sa sb out n _ (by omega) (by omega) (by omega) _ (next _ ?_ ?_)
    ·rw [List.length_append]; split <;> simp <;> omega
    ·rw [e1, e2, sweep, ← e2, List.append_assoc]
     congr 2
     have hx' : rd E (n : Int) ≠ rd E ((n + 1 : Nat) : Int) := fun h => hx h.symm
     simp only [hx', ne_eq, not_false_eq_true, true_and]
include hk in
theorem sets_l0 (ea eb : Int) (sa : sep ea a) (sb : sep eb b) (ha : a.length ≤ 100000) (hb : b.length ≤ 100000) (c : List S55) (hc : c.length ≤ 200000) (hv : ∀ s ∈ c, (0 ≤ s.f0 ∧ s.f0 ≤ 17179869184) ∧ 0 ≤ s.f1 ∧ s.f1 ≤ 17179869184) (he : c.length ≤ 10000) : ∀ (d i : Nat) (o : List Int), c.length - i = d → i ≤ c.length → o.length + 2 * d ≤ 100000 → (∀ x ∈ o, 0 ≤ x ∧ x ≤ 17179869184) →
  Ends (fun k => span_sets.l0 kf k a b o c (c.length : Int) (i : Int)) (setsFin (sweep kp a b (sortI (o ++ (c.drop i).flatMap fun s => [s.f0, s.f1])))) := by
 intro d
 induction d with
 | zero =>
  intro i o hd hi ho hv1
  refine Ends.succ ?_
  simp only [span_sets.l0]
  refine Ends.neg (by omega) ?_
  rw [List.drop_of_length_le (by omega)]
  simp only [List.flatMap_nil, List.append_nil]
  have e : slices_Sort_int_int.f o = some (sortI o) := by unfold slices_Sort_int_int.f; rw [if_pos (by omega)]
  have hl : (sortI o).length = o.length := List.length_mergeSort _
  have hs : (sortI o).Pairwise (· ≤ ·) := by
   have := List.pairwise_mergeSort (le := fun a b : Int => decide (a ≤ b)) (by intro a b c h1 h2; simp at *; omega) (by intro a b; simp; omega) o
   exact this.imp (by intro a b h; simpa using h)
  simp only [e, Option.bind_some]
  rw [show (o.length : Int) = ((sortI o).length : Int) by rw [hl]]
  refine (sets_l1 kf kp hk a b (sortI o) ea eb sa sb (by omega) (by omega) (by omega) hs _ 0 0 0 [] rfl (by omega) (fun _ => ⟨Nat.zero_le _, Nat.zero_le _⟩) (by simp; omega) ?_).congr (by simp)
  rw [okSpans_iff]
  refine ⟨by have := sweep_len kp a b (sortI o); simp; omega, fun s h => ?_⟩
  have hm : ∀ x, x ∈ sortI o → x ∈ o := fun x hx => List.mem_mergeSort.1 hx
  obtain ⟨h1, h2, h3⟩ := sweep_in kp a b (sortI o) hs s (by simpa using h)
  have := hv1 _ (hm _ h1); have := hv1 _ (hm _ h2)
  exact ⟨by omega, h3, by omega⟩
 | succ d ih =>
  intro i o hd hi ho hv1
  refine Ends.succ ?_
  simp only [span_sets.l0, wrap_nat i (by omega), Option.bind_some]
  refine Ends.pos (by omega) (Ends.pos (by omega) (Ends.pos (by omega) (Ends.pos (by simp; omega) ?_)))
  rw [drop36 c i (by omega)]
  have hx := hv (rd_T55 c (i : Int)) (by rw [rd36 c i (by omega)]; exact List.getElem_mem _)
  refine (ih (i + 1) (o ++ [(rd_T55 c (i : Int)).f0, (rd_T55 c (i : Int)).f1]) (by omega) (by omega) (by simp; omega) ?_).congr (by simp)
  intro x h
  rcases List.mem_append.1 h with h | h
  ·exact hv1 x h
  ·simp at h; rcases h with rfl | rfl
   ·exact hx.1
   ·exact hx.2
theorem sweep_congr (kq : Bool → Bool → Bool) (h : ∀ x, kp (hasOf a x) (hasOf b x) = kq (hasOf a x) (hasOf b x)) : ∀ (L : List Int), sweep kp a b L = sweep kq a b L
 | [] => rfl
 | [c] => rfl
 | c :: d :: r => by rw [sweep, sweep, h, sweep_congr kq h (d :: r)]
theorem sortI_sorted (o : List Int) : (sortI o).Pairwise (· ≤ ·) := by
 have := List.pairwise_mergeSort (le := fun a b : Int => decide (a ≤ b)) (by intro a b c h1 h2; simp at *; omega) (by intro a b; simp; omega) o
 exact this.imp (by intro a b h; simpa using h)
theorem good04 {l : List S55} (h : check04 l = 0) : l.length ≤ 256 ∧ ∀ s ∈ l, 0 ≤ s.f0 ∧ s.f0 ≤ s.f1 ∧ s.f1 ≤ 17179869184 := by
 obtain ⟨h1, h2⟩ := check04_zero h
 exact ⟨h1, fun s hs => by have := h2 s hs; unfold badS at this; omega⟩
theorem okSpans_good {l : List S55} (h : check04 l = 0) : okSpans l = true := by
 obtain ⟨h1, h2⟩ := good04 h
 exact (okSpans_iff l).2 ⟨by omega, h2⟩
include hk in
theorem sets_ends (l0 l1 : List S55) (c : Bool) (w : Int) (hw : w = 0 ∨ w = 1 ∨ w = 2) (hkw : ∀ x, kp (hasOf (joinOf l0) x) (hasOf (joinOf l1) x) = wayOf w (hasOf (joinOf l0) x) (hasOf (joinOf l1) x)) : Ends (fun k => span_sets.f kf k l0 l1 c) (bothOf l0 l1 w) := by
 unfold span_sets.f bothOf
 refine Ends.bind (scheck_ends l0) ?_
 by_cases h0 : check04 l0 = 0
 ·rw [if_pos h0]
  refine Ends.pos h0 (Ends.bind (scheck_ends l1) ?_)
  by_cases h1 : check04 l1 = 0
  ·rw [if_pos h1]
   refine Ends.pos h1 ?_
   obtain ⟨g0, v0⟩ := good04 h0
   obtain ⟨g1, v1⟩ := good04 h1
   have u0 : ∀ s ∈ l0, -1 < s.f0 ∧ s.f0 ≤ s.f1 := fun s hs => by have := v0 s hs; omega
   have u1 : ∀ s ∈ l1, -1 < s.f0 ∧ s.f0 ≤ s.f1 := fun s hs => by have := v1 s hs; omega
   have n0 := joinOf_len l0 (-1) u0
   have n1 := joinOf_len l1 (-1) u1
   have b0 := joinOf_bound l0 (-1) 17179869184 (fun s hs => by have := v0 s hs; omega)
   have b1 := joinOf_bound l1 (-1) 17179869184 (fun s hs => by have := v1 s hs; omega)
   have e0 : span_joined.f l0 = some (joinOf l0) := by unfold span_joined.f; rw [if_pos (okSpans_good h0)]
   have e1 : span_joined.f l1 = some (joinOf l1) := by unfold span_joined.f; rw [if_pos (okSpans_good h1)]
   have e2 : slices_Concat_api_Span_api_Span_2.f (joinOf l0) (joinOf l1) = some (joinOf l0 ++ joinOf l1) := by unfold slices_Concat_api_Span_api_Span_2.f; rw [if_pos ⟨by omega, by omega⟩]
   simp only [e0, e1, e2, Option.bind_some]
   have hvv : ∀ s ∈ joinOf l0 ++ joinOf l1, (0 ≤ s.f0 ∧ s.f0 ≤ 17179869184) ∧ 0 ≤ s.f1 ∧ s.f1 ≤ 17179869184 := by
    intro s hs
    rcases List.mem_append.1 hs with hs | hs
    ·have := b0 s hs; omega
    ·have := b1 s hs; omega
   refine (sets_l0 kf kp hk (joinOf l0) (joinOf l1) (-1) (-1) (joinOf_ok l0 (-1) u0).1 (joinOf_ok l1 (-1) u1).1 (by omega) (by omega) (joinOf l0 ++ joinOf l1) (by simp; omega) hvv (by simp; omega) _ 0 [] rfl (by omega) (by simp; omega) (by simp)).congr ?_
   unfold setsFin
   rw [sweep_congr kp (joinOf l0) (joinOf l1) (wayOf w) hkw]
   rw [sets_comb l0 l1 w hw u0 u1 _ (sortI_sorted _) (fun x => by
    unfold sortI
    rw [List.mem_mergeSort]
    simp only [List.nil_append, List.drop_zero, List.mem_flatMap, List.mem_append, List.mem_cons, List.not_mem_nil, or_false])]
  ·rw [if_neg h1]
   exact Ends.neg h1 (Ends.ret _)
 ·rw [if_neg h0]
  exact Ends.neg h0 (Ends.ret _)
end
theorem wayOf_0 (p q : Bool) : wayOf 0 p q = (p || q) := by cases p <;> cases q <;> rfl
theorem wayOf_1 (p q : Bool) : wayOf 1 p q = (p && q) := by cases p <;> cases q <;> rfl
theorem wayOf_2 (p q : Bool) : wayOf 2 p q = (p && !q) := by cases p <;> cases q <;> rfl
end Go.Proofs.Ytalpegglbfobiaa.G

namespace Go.Proofs.Ytalpegglbfobiaa.G
open Go.RowKit Go.Proofs.YtalpegglbfobiaaW.PrintWords Go.Proofs.YtalpegglbfobiaaW.PrintLast Go.Proofs.YtalpegglbfobiaaW.PrintMore
attribute [local go_sem] max2_int min2_int max_two min_two max_three min_three max_four min_four   -- for this text's walks alone
set_option linter.unusedVariables false
set_option linter.unusedSimpArgs false

def span_sets_Norm.f (k : Nat) (l0 : List (S55)) (l1 : List (S55)) (a2 : Bool) : Option ((List (S55)) × Int) := span_sets.f span_Norm_1.f k l0 l1 a2
theorem span_sets_Norm.calls (k : Nat) (A0 : Option Addr) (c0 : Nat) (l0 : List (S55)) (A1 : Option Addr) (c1 : Nat) (l1 : List (S55)) (a2 : Bool) (r1 : List (S55)) (r2 : Int) (w : World) (hr0 : Kd.C k55 w A0 l0.length l0) (hc0 : l0.length ≤ c0) (hr1 : Kd.C k55 w A1 l1.length l1) (hc1 : l1.length ≤ c1) (h : span_sets_Norm.f k l0 l1 a2 = some (r1, r2)) :
 Calls Try.prog 67 #[.slice A0 l0.length c0, .slice A1 l1.length c1, .func (.func 68) #[] #[]] w fun e w' => ∃ v0_ : Value, e = .returned (.tuple #[v0_, .int .i64 r2]) ∧ Kd.R k55 55 w' w.heap.size (fun _ => True) v0_ r1 ∧ Below w.heap.size w w' :=
 span_sets.calls span_Norm_1.f 68 (enters_of Try.func68 (by kernel_rfl) rfl) (fun a0 a1 r w h => span_Norm_1.calls a0 a1 r w h) k A0 c0 l0 A1 c1 l1 a2 r1 r2 w hr0 hc0 hr1 hc1 h
end Go.Proofs.Ytalpegglbfobiaa.G

namespace Go.Proofs.Ytalpegglbfobiaa.G
open Go.RowKit Go.Proofs.YtalpegglbfobiaaW.PrintWords Go.Proofs.YtalpegglbfobiaaW.PrintLast Go.Proofs.YtalpegglbfobiaaW.PrintMore
attribute [local go_sem] max2_int min2_int max_two min_two max_three min_three max_four min_four   -- for this text's walks alone
set_option linter.unusedVariables false
set_option linter.unusedSimpArgs false

def span_Norm.f (k : Nat) (l0 : List (S55)) : Option ((List (S55)) × Int) := (span_sets_Norm.f k l0 ([] : List (S55)) true).bind fun bt52001 => (some (bt52001.1, bt52001.2))
set_option maxHeartbeats 8000000 in
set_option maxRecDepth 100000 in
theorem span_Norm.calls (k : Nat) (A0 : Option Addr) (c0 : Nat) (l0 : List (S55)) (r1 : List (S55)) (r2 : Int) (w : World) (hr0 : Kd.C k55 w A0 l0.length l0) (hc0 : l0.length ≤ c0) (h : span_Norm.f k l0 = some (r1, r2)) :
  Calls Try.prog 51 #[.slice A0 l0.length c0] w fun e w' => ∃ v0_ : Value, e = .returned (.tuple #[v0_, .int .i64 r2]) ∧ Kd.R k55 55 w' w.heap.size (fun _ => True) v0_ r1 ∧ Below w.heap.size w w' := by
 have HR0 := Aside0.mk hr0
 have HC0 := Aside0.mk hc0
 clear hr0 hc0
 have HB := Aside0.mk (Below.refl w.heap.size w)
 have H : ((span_sets_Norm.f k l0 ([] : List (S55)) true).bind fun bt52001 => (some (bt52001.1, bt52001.2))) = some (r1, r2) := h
 clear h
 replace H := Option.bind_eq_some_iff.mp H
 obtain ⟨⟨t52001, t52002⟩, A20, H⟩ := H
 try dsimp only at H
 have A2 := Aside0.mk A20
 clear A20
 simp only [Option.some.injEq, Prod.mk.injEq] at H
 obtain ⟨rfl, rfl⟩ := H
 go_enter Try.func51, Try.ntmps51
 go_wp2_with (first | ((with_reducible refine gate_callee (f := 67) rfl ?_); refine goesL_ (some 5) rfl rfl Try.func67 (by kernel_rfl) rfl #[.slice A0 l0.length c0, .slice none 0 0, .func (.func 68) #[] #[]] rfl (by (try simp only [List.map_toArray, List.map_cons, List.map_nil]); first | done | rfl | (simp only [List.length_drop, List.length_take]; rfl)) ?_; (refine (span_sets_Norm.calls k _ _ l0 _ _ ([] : List (S55)) true t52001 t52002 _ ?side1 ?side2 ?side3 ?side4 A2.out).mono ?_); (case side1 => exact HR0.out); (case side2 => exact HC0.out); (case side3 => exact Kd.C_nil _ _); (case side4 => exact Nat.le_refl _); rintro e w3 ⟨v52003, rfl, ho0, hb⟩; refine ⟨_, rfl, ?_⟩; have HO52004 := Aside0.mk (Kd.R_lower ho0 (below_size (by repeat (first | exact HB.out | apply below_alloc | apply pw_below_drewN | apply below_drew1)))); replace HB := Aside0.mk (below_step (by repeat (first | exact HB.out | apply below_alloc | apply pw_below_drewN | apply below_drew1)) hb); (try clear hb); (try clear hb2); (try clear hk); (try clear hi); (try clear ho0)))
 go_ret2
 exact ⟨_, by first | rfl | (simp [errW_none, errW_some] <;> rfl) | (simp [*, errW_none, errW_some] <;> rfl), by exact HO52004.out, by repeat (first | exact HB.out | apply below_alloc | apply pw_below_drewN | apply below_drew1)⟩

end Go.Proofs.Ytalpegglbfobiaa.G

namespace Go.Proofs.Ytalpegglbfobiaa.G
open Go.RowKit Go.Proofs.YtalpegglbfobiaaW.PrintWords Go.Proofs.YtalpegglbfobiaaW.PrintLast Go.Proofs.YtalpegglbfobiaaW.PrintMore
set_option linter.unusedVariables false
set_option linter.unusedSimpArgs false
theorem hasOf_nil (x : Int) : hasOf [] x = false := rfl
theorem joinOf_nil : joinOf [] = [] := rfl
theorem norm_ends (l : List S55) : Ends (fun k => span_Norm.f k l) (bothOf l [] 0) := by
 unfold span_Norm.f span_sets_Norm.f
 exact Ends.bind (sets_ends span_Norm_1.f (fun p _ => p) (fun p q => rfl) l [] true 0 (.inl rfl) (fun x => by rw [wayOf_0, joinOf_nil, hasOf_nil, Bool.or_false])) (Ends.ret _)
def tot (l : List S55) : Int := (l.map fun s => s.f1 - s.f0).sum
theorem tot_cons (s : S55) (l : List S55) : tot (s :: l) = s.f1 - s.f0 + tot l := by simp [tot]
def totalOf (l : List S55) : Int × Int := if check04 l = 0 then (tot (joinOf l), 0) else (0, check04 l)
theorem norm_fits {l : List S55} (h0 : check04 l = 0) : bothOf l [] 0 = (joinOf l, 0) := by
 obtain ⟨g0, v0⟩ := good04 h0
 have n0 := joinOf_len l (-1) (fun s hs => by have := v0 s hs; omega)
 unfold bothOf
 rw [if_pos h0, if_pos (show check04 [] = 0 from rfl)]
 unfold joinOf at n0 ⊢
 rw [if_neg (by omega)]
def movable (by_ : Int) (s : S55) : Prop := -s.f0 ≤ by_ ∧ by_ ≤ 17179869184 - s.f1
instance (by_ : Int) (s : S55) : Decidable (movable by_ s) := by unfold movable; infer_instance
def shift (by_ : Int) (s : S55) : S55 := ⟨s.f0 + by_, s.f1 + by_⟩
def moveOf (l : List S55) (by_ : Int) : List S55 × Int := if check04 l = 0 then (if ∀ s ∈ l, movable by_ s then (l.map (shift by_), 0) else ([], 1)) else ([], check04 l)
end Go.Proofs.Ytalpegglbfobiaa.G

namespace Go.Proofs.Ytalpegglbfobiaa.G
open Go.RowKit Go.Proofs.YtalpegglbfobiaaW.PrintWords Go.Proofs.YtalpegglbfobiaaW.PrintLast Go.Proofs.YtalpegglbfobiaaW.PrintMore
set_option linter.unusedVariables false
set_option linter.unusedSimpArgs false
instance decSpan : DecidableEq S55 := fun a b => if h : a.f0 = b.f0 ∧ a.f1 = b.f1 then .isTrue (by cases a; cases b; simp_all) else .isFalse (by rintro rfl; exact h ⟨rfl, rfl⟩)
def keepGo (n least : Int) : Int → List S55 → List S55
 | a, [] => if least ≤ n - a then [⟨a, n⟩] else []
 | a, s :: l => (if least ≤ min n s.f0 - a then [⟨a, min n s.f0⟩] else []) ++ keepGo n least s.f1 l
def wide (n least : Int) : Prop := n < 0 ∨ n > 17179869184 ∨ least < 1 ∨ least > 17179869184
instance (n least : Int) : Decidable (wide n least) := by unfold wide; infer_instance
def keepOf (n : Int) (bad : List S55) (least : Int) : List S55 × Int :=
 if wide n least then ([], 1) else if check04 bad = 0 then (if (keepGo n least 0 (joinOf bad)).length > 256 then ([], 8) else (keepGo n least 0 (joinOf bad), 0)) else ([], check04 bad)
theorem keepGo_len (n least : Int) : ∀ (l : List S55) (a : Int), (keepGo n least a l).length ≤ l.length + 1
 | [], a => by unfold keepGo; split <;> simp
 | s :: l, a => by
  have := keepGo_len n least l s.f1
  unfold keepGo
  rw [List.length_append, List.length_cons]
  split <;> simp <;> omega
theorem sep_down {e : Int} {s : S55} {l : List S55} (h : sep e (s :: l)) : e < s.f0 ∧ s.f0 < s.f1 ∧ sep (s.f1 - 1) l := ⟨h.1, h.2.1, sep_le (by omega) h.2.2⟩
theorem keepGo_sep (n least : Int) (hl : 1 ≤ least) : ∀ (l : List S55) (a e : Int), e < a → sep (a - 1) l → sep e (keepGo n least a l)
 | [], a, e, he, _ => by
  unfold keepGo
  split
  ·exact ⟨he, by dsimp only; omega, trivial⟩
  ·exact trivial
 | s :: l, a, e, he, hs => by
  obtain ⟨h1, h2, h3⟩ := sep_down hs
  unfold keepGo
  split
  ·rw [List.singleton_append]
   refine ⟨he, by dsimp only; omega, keepGo_sep n least hl l _ _ ?_ h3⟩
   dsimp only
   omega
  ·rw [List.nil_append]
   exact keepGo_sep n least hl l _ _ (by omega) h3
theorem keepGo_in (n least : Int) (hl : 1 ≤ least) : ∀ (l : List S55) (a : Int), sep (a - 1) l → ∀ s ∈ keepGo n least a l, a ≤ s.f0 ∧ s.f0 + least ≤ s.f1 ∧ s.f1 ≤ n
 | [], a, _, s, hs => by
  unfold keepGo at hs
  split at hs
  ·rw [List.mem_singleton.mp hs]
   dsimp only
   omega
  ·simp at hs
 | t :: l, a, h, s, hs => by
  obtain ⟨h1, h2, h3⟩ := sep_down h
  unfold keepGo at hs
  rcases List.mem_append.mp hs with hs | hs
  ·split at hs
   ·rw [List.mem_singleton.mp hs]
    dsimp only
    omega
   ·simp at hs
  ·have := keepGo_in n least hl l _ h3 s hs
   omega
theorem keepGo_tot (n least : Int) (hl : 1 ≤ least) : ∀ (l : List S55) (a : Int), sep (a - 1) l → 0 ≤ tot (keepGo n least a l) ∧ (tot (keepGo n least a l) ≤ n - a ∨ tot (keepGo n least a l) = 0)
 | [], a, _ => by
  unfold keepGo
  split
  ·simp [tot]; omega
  ·simp [tot]
 | s :: l, a, h => by
  obtain ⟨h1, h2, h3⟩ := sep_down h
  have h4 := keepGo_tot n least hl l _ h3
  unfold keepGo
  split
  ·rw [List.singleton_append, tot_cons]
   dsimp only
   omega
  ·rw [List.nil_append]
   omega
structure KeptL (n least : Int) (l : List S55) : Prop where
 few : l.length ≤ 256
 sep_ : sep (-1) l
 in_ : ∀ s ∈ l, 0 ≤ s.f0 ∧ s.f0 + least ≤ s.f1 ∧ s.f1 ≤ n
 tot_ : 0 ≤ tot l ∧ tot l ≤ n
theorem joinOf_fit {l : List S55} (h : check04 l = 0) : sep (-1) (joinOf l) ∧ (∀ x, Mem (joinOf l) x ↔ Mem l x) ∧ (∀ s ∈ joinOf l, 0 ≤ s.f0 ∧ s.f0 < s.f1 ∧ s.f1 ≤ 17179869184) := by
 obtain ⟨h1, h2⟩ := check04_zero h
 obtain ⟨h3, h4⟩ := joinOf_ok l (-1) (fun s hs => by have := h2 s hs; unfold badS at this; omega)
 refine ⟨h3, h4, fun s hs => ?_⟩
 have h5 := sep_in h3 s hs
 obtain ⟨t, ht, h6, h7⟩ := (h4 (s.f1 - 1)).mp ⟨s, hs, by omega, by omega⟩
 have := h2 t ht
 unfold badS at this
 omega
theorem joinOf_few {l : List S55} (h : check04 l = 0) : (joinOf l).length ≤ 256 := by
 have h1 := norm_fits h
 unfold bothOf at h1
 rw [if_pos h, if_pos (by rfl)] at h1
 split at h1
 ·simp at h1
 ·unfold joinOf; omega
theorem keep_kept {n least : Int} {bad l : List S55} (h : keepOf n bad least = (l, 0)) : ¬ wide n least ∧ check04 bad = 0 ∧ l = keepGo n least 0 (joinOf bad) ∧ KeptL n least l := by
 unfold keepOf at h
 split at h
 ·simp at h
 ·rename_i hw
  split at h
  ·rename_i hc
   obtain ⟨h1, h2, h3⟩ := joinOf_fit hc
   split at h
   ·simp at h
   ·rename_i hf
    obtain rfl := (Prod.mk.inj h).1
    unfold wide at hw
    have h4 := keepGo_tot n least (by omega) (joinOf bad) 0 h1
    exact ⟨hw, hc, rfl, ⟨by omega, keepGo_sep n least (by omega) _ _ _ (by omega) h1, keepGo_in n least (by omega) _ _ h1, by omega⟩⟩
  ·rename_i hc
   exact absurd (Prod.mk.inj h).2 hc
theorem KeptL.check {n least : Int} {l : List S55} (h : KeptL n least l) (hw : ¬ wide n least) : check04 l = 0 := by
 unfold wide at hw
 unfold check04
 rw [if_neg (by have := h.few; omega), if_neg]
 rintro ⟨s, hs, hb⟩
 have := h.in_ s hs
 unfold badS at hb
 omega
theorem KeptL.join {n least : Int} {l : List S55} (h : KeptL n least l) (hw : ¬ wide n least) : joinOf l = l := by
 obtain ⟨h1, h2, _⟩ := joinOf_fit (h.check hw)
 exact sep_unique h1 h.sep_ h2
def wasteOf (n : Int) (bad : List S55) (least : Int) : Int × Int := if (keepOf n bad least).2 = 0 then (n - tot (keepOf n bad least).1, 0) else (0, (keepOf n bad least).2)
theorem keep_split (n : Int) (bad : List S55) (least : Int) (h : (keepOf n bad least).2 = 0) : ¬ wide n least ∧ check04 bad = 0 ∧ (keepOf n bad least).1 = keepGo n least 0 (joinOf bad) ∧ KeptL n least (keepOf n bad least).1 :=
 keep_kept (l := (keepOf n bad least).1) (by rw [← h])
end Go.Proofs.Ytalpegglbfobiaa.G

namespace Go.Proofs.Ytalpegglbfobiaa.G
open Go.RowKit Go.Proofs.YtalpegglbfobiaaW.PrintWords Go.Proofs.YtalpegglbfobiaaW.PrintLast Go.Proofs.YtalpegglbfobiaaW.PrintMore
set_option linter.unusedVariables false
set_option linter.unusedSimpArgs false
def runS (s : S55) : S44 := ⟨s.f0, s.f1 - s.f0, false⟩
theorem addOf_apart (acc : List S44) (r : S44) (hr : 1 ≤ r.f1 ∧ r.f2 = false) (h : ∀ t ∈ acc, t.f2 = false ∧ 1 ≤ t.f1 ∧ t.f0 + t.f1 < r.f0) : addOf acc r = acc ++ [r] := by
 obtain ⟨a, n, b⟩ := r
 obtain ⟨hn, hb⟩ := hr
 dsimp only at hn hb
 subst hb
 have e : partR ⟨a, n, false⟩ 0 n = ⟨a, n, false⟩ := by simp [partR, img]
 unfold addOf
 rw [if_neg (by dsimp only; omega)]
 cases hq : acc.reverse with
 | nil =>
  have : acc = [] := by simpa using hq
  subst this
  simp [addR, e]
 | cons t d =>
  have ht : t ∈ acc := by rw [← List.mem_reverse, hq]; simp
  obtain ⟨h1, h2, h3⟩ := h t ht
  dsimp only at h3
  have hj : ¬ joins ⟨a, n, false⟩ t := by
   rintro ⟨hg, _⟩
   unfold goes img at hg
   rw [h1] at hg
   simp at hg
   omega
  have ea : addR ⟨a, n, false⟩ (t :: d) = ⟨a, n, false⟩ :: t :: d := by
   unfold addR
   dsimp only
   rw [if_neg hj, e]
  rw [ea, ← hq]
  simp
theorem runs_fold : ∀ (l : List S55) (e : Int) (acc : List S44), sep e l → (∀ t ∈ acc, t.f2 = false ∧ 1 ≤ t.f1 ∧ t.f0 + t.f1 ≤ e) → (l.map runS).foldl addOf acc = acc ++ l.map runS
 | [], e, acc, _, _ => by simp
 | s :: l, e, acc, h, ha => by
  obtain ⟨h1, h2, h3⟩ := h
  rw [List.map_cons, List.foldl_cons, addOf_apart acc (runS s) ⟨by simp [runS]; omega, rfl⟩ (fun t ht => by have := ha t ht; refine ⟨this.1, this.2.1, ?_⟩; show _ < s.f0; omega), runs_fold l s.f1 _ h3 ?_]
  ·simp
  ·intro t ht
   rcases List.mem_append.mp ht with ht | ht
   ·have := ha t ht
    exact ⟨this.1, this.2.1, by omega⟩
   ·rw [List.mem_singleton.mp ht]
    simp only [runS]
    exact ⟨trivial, by omega, by omega⟩
theorem runs_nrm {l : List S55} {e : Int} (h : sep e l) : nrm (sem (l.map runS)) = l.map runS := by
 rw [← addAll _ (fun r hr => by obtain ⟨s, hs, rfl⟩ := List.mem_map.mp hr; have := sep_in h s hs; simp only [runS]; omega)]
 simpa using runs_fold l e [] h (by simp)
theorem tot_runs : ∀ l : List S55, tot13 (l.map runS) = tot l
 | [] => rfl
 | s :: l => by rw [List.map_cons, tot13_cons, tot_cons, tot_runs l]; rfl
theorem sep_tot (N : Int) : ∀ (l : List S55) (e : Int), sep e l → (∀ s ∈ l, s.f1 ≤ N) → 0 ≤ tot l ∧ (tot l ≤ N - e ∨ l = [])
 | [], e, _, _ => by simp [tot]
 | s :: l, e, h, hv => by
  obtain ⟨h1, h2, h3⟩ := h
  have h4 := hv s (by simp)
  rcases sep_tot N l s.f1 h3 (fun t ht => hv t (by simp [ht])) with ⟨h5, h6 | h6⟩
  ·rw [tot_cons]; omega
  ·subst h6; rw [tot_cons]; simp [tot]; omega
theorem runs_check {l : List S55} (hs : sep (-1) l) (hl : l.length ≤ 256) (hv : ∀ s ∈ l, s.f1 ≤ 17179869184) (ht : tot l ≤ 17179869184) : check13 (l.map runS) = 0 := by
 have hb : anyBad (l.map runS) = false := by
  unfold anyBad
  rw [List.any_eq_false]
  intro r hr
  obtain ⟨s, h1, rfl⟩ := List.mem_map.mp hr
  have h2 := sep_in hs s h1
  have h3 := hv s h1
  rw [decide_eq_true_eq]
  unfold badR runS
  simp
  omega
 unfold check13
 rw [List.length_map, if_neg (by omega), hb, if_neg (by simp), tot_runs, if_neg (by omega)]
def own04 (l : List S55) : Prop := check04 l = 0 ∧ joinOf l = l
theorem own_sep {l : List S55} (h : own04 l) : sep (-1) l ∧ l.length ≤ 256 ∧ (∀ s ∈ l, 0 ≤ s.f0 ∧ s.f0 < s.f1 ∧ s.f1 ≤ 17179869184) ∧ 0 ≤ tot l ∧ tot l ≤ 17179869184 := by
 obtain ⟨h1, h2, h3⟩ := joinOf_fit h.1
 rw [h.2] at h1 h3
 have h5 : 0 ≤ tot l ∧ tot l ≤ 17179869184 := by
  match l, h1, h3 with
  | [], _, _ => simp [tot]
  | s :: q, h1, h3 =>
   have h6 := h3 s (by simp)
   rcases sep_tot 17179869184 q s.f1 h1.2.2 (fun t ht => (h3 t (by simp [ht])).2.2) with ⟨h7, h8 | h8⟩
   ·rw [tot_cons]; omega
   ·subst h8; rw [tot_cons]; simp [tot]; omega
 exact ⟨h1, (check04_zero h.1).1, h3, h5⟩
def runsOf (l : List S55) : List S44 × Int :=
 if check04 l = 0 then (if joinOf l = l then (l.map runS, 0) else ([], 9)) else ([], check04 l)
theorem normOf_runs {l : List S55} (h : own04 l) : normOf (l.map runS) = (l.map runS, 0) := by
 obtain ⟨h1, h2, h3, h4, h5⟩ := own_sep h
 unfold normOf
 rw [if_pos (runs_check h1 h2 (fun s hs => (h3 s hs).2.2) h5), runs_nrm h1]
def plcGo : Int → List S44 → List Int
 | _, [] => []
 | a, r :: l => a :: plcGo (a + r.f1) l
theorem plcGo_append : ∀ (l m : List S44) (a : Int), plcGo a (l ++ m) = plcGo a l ++ plcGo (a + tot13 l) m
 | [], m, a => by simp [plcGo, tot13]
 | r :: l, m, a => by
  rw [List.cons_append, plcGo, plcGo, plcGo_append l m, List.cons_append, tot13_cons]
  congr 3
  omega
theorem plcGo_len : ∀ (l : List S44) (a : Int), (plcGo a l).length = l.length
 | [], a => rfl
 | r :: l, a => by rw [plcGo, List.length_cons, List.length_cons, plcGo_len l]
def places (l : List S44) : List Int := (plcGo 0 l).drop 1
theorem places_len (l : List S44) : (places l).length = l.length - 1 := by unfold places; rw [List.length_drop, plcGo_len]
theorem places_snoc (l : List S44) (r : S44) : places (l ++ [r]) = places l ++ (if l = [] then [] else [tot13 l]) := by
 unfold places
 rw [plcGo_append]
 cases l with
 | nil => rfl
 | cons x l => simp [plcGo]
theorem plcGo_get : ∀ (l : List S44) (a : Int) (j : Nat), j < l.length → (plcGo a l)[j]? = some (a + tot13 (l.take j))
 | [], a, j, h => by simp at h
 | r :: l, a, 0, h => by simp [plcGo, tot13]
 | r :: l, a, j + 1, h => by
  rw [plcGo, List.getElem?_cons_succ, plcGo_get l _ j (by simpa using h), List.take_succ_cons, tot13_cons]
  congr 1
  omega
theorem places_rd (l : List S44) (i : Nat) (h : i + 1 < l.length) : rd (places l) (i : Int) = tot13 (l.take (i + 1)) := by
 have e : (places l)[i]? = some (tot13 (l.take (i + 1))) := by
  unfold places
  rw [List.getElem?_drop, Nat.add_comm, plcGo_get l 0 (i + 1) h, Int.zero_add]
 simp [rd, List.getD_eq_getElem?_getD, e]
def placesOf (m : List S44) : List Int × Int := if check13 m = 0 then (places (nrm (sem m)), 0) else ([], check13 m)
end Go.Proofs.Ytalpegglbfobiaa.G

namespace Go.Proofs.Ytalpegglbfobiaa.G
open Go.RowKit Go.Proofs.YtalpegglbfobiaaW.PrintWords Go.Proofs.YtalpegglbfobiaaW.PrintLast Go.Proofs.YtalpegglbfobiaaW.PrintMore
attribute [local go_sem] max2_int min2_int max_two min_two max_three min_three max_four min_four   -- for this text's walks alone
set_option linter.unusedVariables false
set_option linter.unusedSimpArgs false

def splice_Runs.l0 : Nat → List (S44) → List (S55) → Int → Int → Option ((List (S44)) × Int)
 | 0, _, _, _, _ => none
 | k + 1, x6, x21, x22, x23 => if x23 < x22 then (if 0 ≤ x23 then (if x23 < (x21.length : Int) then (if x6.length < 5864062014805 then (splice_Runs.l0 k (x6 ++ [(⟨(rd_T55 x21 x23).f0, wrap64 (((rd_T55 x21 x23).f1) - ((rd_T55 x21 x23).f0)), false⟩ : S44)]) x21 x22 (wrap64 (x23 + 1))) else (none)) else (none)) else (none)) else ((iso_Norm.f x6).bind fun bt35011 => (some (bt35011.1, bt35011.2)))
def splice_Runs.f (k : Nat) (l0 : List (S55)) : Option ((List (S44)) × Int) := (span_Norm.f k l0).bind fun bt35001 => (if bt35001.2 = 0 then ((slices_Equal_api_Span_api_Span.f k bt35001.1 l0).bind fun t35005 => (if t35005 = true then (splice_Runs.l0 k ([] : List (S44)) l0 (l0.length : Int) 0) else (some (([] : List (S44)), 9)))) else (some (([] : List (S44)), bt35001.2)))
set_option maxHeartbeats 8000000 in
set_option maxRecDepth 100000 in
theorem splice_Runs.calls (k : Nat) (A0 : Option Addr) (c0 : Nat) (l0 : List (S55)) (r1 : List (S44)) (r2 : Int) (w : World) (hr0 : Kd.C k55 w A0 l0.length l0) (hc0 : l0.length ≤ c0) (h : splice_Runs.f k l0 = some (r1, r2)) :
  Calls Try.prog 34 #[.slice A0 l0.length c0] w fun e w' => ∃ v0_ : Value, e = .returned (.tuple #[v0_, .int .i64 r2]) ∧ Kd.R k44 44 w' w.heap.size (fun _ => True) v0_ r1 ∧ Below w.heap.size w w' := by
 have hu55 := Try.underlying55
 have hu44 := Try.underlying44
 have HR0 := Aside0.mk hr0
 have HC0 := Aside0.mk hc0
 clear hr0 hc0
 have HB := Aside0.mk (Below.refl w.heap.size w)
 have H : ((span_Norm.f k l0).bind fun bt35001 => (if bt35001.2 = 0 then ((slices_Equal_api_Span_api_Span.f k bt35001.1 l0).bind fun t35005 => (if t35005 = true then (splice_Runs.l0 k ([] : List (S44)) l0 (l0.length : Int) 0) else (some (([] : List (S44)), 9)))) else (some (([] : List (S44)), bt35001.2)))) = some (r1, r2) := h
 clear h
 replace H := Option.bind_eq_some_iff.mp H
 obtain ⟨⟨t35001, t35002⟩, A20, H⟩ := H
 try dsimp only at H
 have A2 := Aside0.mk A20
 clear A20
 by_cases c3 : t35002 = 0
 ·rw [if_pos c3] at H
  have c3b0 : (t35002 == 0) = true := beq_iff_eq.mpr c3
  have c3b1 : (t35002 != 0) = false := bne_eq_false_iff_eq.mpr c3
  clear c3
  replace H := Option.bind_eq_some_iff.mp H
  obtain ⟨t35005, A40, H⟩ := H
  have A4 := Aside0.mk A40
  clear A40
  by_cases c5 : t35005 = true
  ·subst c5
   rw [if_pos rfl] at H
   have H' := Aside0.mk H
   clear H
   go_enter Try.func34, Try.ntmps34
   go_wp2_with (first | ((with_reducible refine gate_callee (f := 51) rfl ?_); refine goesL_ (some 11) rfl rfl Try.func51 (by kernel_rfl) rfl #[.slice A0 l0.length c0] rfl (by (try simp only [List.map_toArray, List.map_cons, List.map_nil]); first | done | rfl | (simp only [List.length_drop, List.length_take]; rfl)) ?_; (with_reducible refine (span_Norm.calls k _ _ l0 t35001 t35002 _ ?side1 ?side2 A2.out).mono ?_); (case side1 => exact HR0.out); (case side2 => exact HC0.out); rintro e w6 ⟨v35003, rfl, ho0, hb⟩; refine ⟨_, rfl, ?_⟩; have HO35004 := Aside0.mk (Kd.R_lower ho0 (below_size (by repeat (first | exact HB.out | apply below_alloc | apply pw_below_drewN | apply below_drew1)))); replace HB := Aside0.mk (below_step (by repeat (first | exact HB.out | apply below_alloc | apply pw_below_drewN | apply below_drew1)) hb); (try clear hb); (try clear hb2); (try clear hk); (try clear hi); (try clear ho0); obtain ⟨Ao7, co7, eo7⟩ := Kd.R_slice HO35004.out; subst eo7) | ((with_reducible refine gate_callee (f := 53) rfl ?_); refine goesL_ (some 19) rfl rfl Try.func53 (by kernel_rfl) rfl #[.slice Ao7 t35001.length co7, .slice A0 l0.length c0] rfl (by (try simp only [List.map_toArray, List.map_cons, List.map_nil]); first | done | rfl | (simp only [List.length_drop, List.length_take]; rfl)) ?_; (with_reducible refine (slices_Equal_api_Span_api_Span.calls k _ _ t35001 _ _ l0 true _ ?side1 ?side2 ?side3 ?side4 A4.out).mono ?_); (case side1 => exact (Kd.R_reads' HO35004.out).2.2); (case side2 => exact (Kd.R_reads' HO35004.out).2.1); (case side3 => exact (Kd.C_below HR0.out HB.out)); (case side4 => exact HC0.out); rintro e w' ⟨rfl, ⟨nd, rfl⟩⟩; refine ⟨_, rfl, ?_⟩))
   go_loopg [6, 23] k (fun kq v6 v23 w' => ∃ (x6_1 : List (S44)) (x23_1 : Int), v23 = .int .i64 x23_1 ∧ Aside0 (splice_Runs.l0 kq x6_1 l0 (l0.length : Int) x23_1 = some (r1, r2)) ∧ Aside0 (kq ≤ k) ∧ Aside0 (Kd.R k44 44 w' w.heap.size (fun _ => True) v6 x6_1) ∧ Aside0 (Below w.heap.size w w'))
   case atStart => exact ⟨(([] : List (S44))), (0), (by first | rfl | (simp; done) | (simp [*]; done)), H', ⟨Nat.le_refl _⟩, ⟨by first | exact Kd.R_nil _ _ _ _ _ | exact Kd.N_nil _ _ _ _ _ | exact Kd.V_nil _ _ _ _ _ | exact Kd.Q_nil _ _ _ _ _ | exact Kd.S_nil _ _ _ _ _⟩, ⟨by repeat (first | exact HB.out | apply below_alloc | apply pw_below_drewN | apply below_drew1)⟩⟩
   case round =>
    clear H'
    try clear p2
    try clear c3
    try clear c3b0
    try clear c3b1
    try clear c5
    obtain ⟨x6_1, x23_1, rfl, HA, HK1, HO_6, HB⟩ := hrel
    cases gk with
    | zero => exact absurd HA.out (by simp [splice_Runs.l0])
    | succ k1 =>
     have H := HA.out
     clear HA
     simp only [splice_Runs.l0] at H
     by_cases c8 : x23_1 < (l0.length : Int)
     ·rw [if_pos c8] at H
      have c8b0 : decide (x23_1 < (l0.length : Int)) = true := decide_eq_true c8
      clear c8
      by_cases c9 : 0 ≤ x23_1
      ·rw [if_pos c9] at H
       have c9b0 : decide (0 ≤ x23_1) = true := decide_eq_true c9
       clear c9
       by_cases c10 : x23_1 < (l0.length : Int)
       ·rw [if_pos c10] at H
        have c10b0 : decide (x23_1 < (l0.length : Int)) = true := decide_eq_true c10
        clear c10
        by_cases c11 : x6_1.length < 5864062014805
        ·rw [if_pos c11] at H
         have LMc11 := Aside0.mk c11
         clear c11
         obtain ⟨y35008, hy35008⟩ : ∃ y_ : List (S44), y_ = (x6_1 ++ [(⟨(rd_T55 l0 x23_1).f0, wrap64 (((rd_T55 l0 x23_1).f1) - ((rd_T55 l0 x23_1).f0)), false⟩ : S44)]) := ⟨_, rfl⟩
         replace H : (splice_Runs.l0 k1 y35008 l0 (l0.length : Int) (wrap64 (x23_1 + 1))) = some (r1, r2) := by first | (rw [hy35008]; with_reducible exact H) | (have H2_ := (Option.bind_some _ _).symm.trans H; rw [hy35008]; with_reducible exact H2_) | (have H2_ := (Option.bind_some _ _).symm.trans H; with_reducible exact H2_) | with_reducible exact H | (rw [hy35008]; exact H) | exact H
         have Ny35008 := Aside0.mk hy35008
         clear hy35008
         have H' := Aside0.mk H
         clear H
         have p35006 : 0 ≤ (x23_1 : Int) := of_decide_eq_true (by assumption)
         have q35006 : x23_1 < (l0.length : Int) := of_decide_eq_true (by assumption)
         obtain ⟨ad35006, e35006, hx35006_0, hx35006_1⟩ := at_T55 HR0.out x23_1 p35006 q35006
         cases e35006
         replace hx35006_0 := (HB.out.cell (World.block_lt_of_cell? w _ hx35006_0)).trans hx35006_0
         replace hx35006_1 := (HB.out.cell (World.block_lt_of_cell? w _ hx35006_1)).trans hx35006_1
         replace p35006 := eq_true p35006
         replace q35006 := eq_true q35006
         go_wp2_with (first | ((with_reducible refine gate_dst (N := 8) rfl ?_); refine box_event ?hg (N := 8) ?hd (cs := #[.int .i64 0, .int .i64 0]) (t := 55) ?hr ?_; (case hd => rfl); (case hg => rfl); (case hr => first | (go_simp; done) | (go_simp; rfl)); intro gb35007 hg w12 hbox hb; replace HO_6 := Aside0.mk (Kd.R_below (HO_6.out) hb); have BK35007 := Aside0.mk (hbox); have GW35007 := Aside0.mk ((by rw [hg]; exact (below_size (by repeat (first | exact HB.out | apply below_alloc | apply pw_below_drewN | apply below_drew1))) : w.heap.size ≤ gb35007)); have GE35007 := Aside0.mk ((by rw [hg]; exact (below_size (by repeat (first | exact HB.out | apply below_alloc | apply pw_below_drewN | apply below_drew1))) : w.heap.size ≤ gb35007)); replace HB := Aside0.mk (below_step (by repeat (first | exact HB.out | apply below_alloc | apply pw_below_drewN | apply below_drew1)) hb); clear hb hbox hg; have hcz13_0 : w12.cell? ⟨gb35007, 0, none⟩ = some (.int .i64 0) := (blk_cell BK35007.out 0).trans rfl; have hcz13_1 : w12.cell? ⟨gb35007, 1, none⟩ = some (.int .i64 0) := (blk_cell BK35007.out 1).trans rfl; have hfz13_0 := blk_frozen BK35007.out 0; have hfz13_1 := blk_frozen BK35007.out 1) | ((with_reducible refine gate_builtin (b := .append) (xs := #[.tmp 27, .tmp 36]) rfl ?_); at_builtin; refine Kd.R_append k44 (w0 := w) w.heap.size rfl (.tmp 27) (.tmp 36) 22 44 (.agg #[(.int .i64 0), (.int .i64 0), (.bool false)]) 24 rfl Try.underlying22 info44 rfl (by decide) (by omega) u6 x6_1 (⟨(rd_T55 l0 x23_1).f0, wrap64 (((rd_T55 l0 x23_1).f1) - ((rd_T55 l0 x23_1).f0)), false⟩ : S44) [.int .i64 ((rd_T55 l0 x23_1).f0), .int .i64 (wrap64 (((rd_T55 l0 x23_1).f1) - ((rd_T55 l0 x23_1).f0))), .bool false] (fun _ => True) (fun _ => False) rfl (by first | (go_simp; done) | (go_simp; rfl)) ?aP (fun _ hk => hk.elim) ?aF ?aO ?aB ?aS ?aL ?_; (case aP => exact k44_mkM _ _ _ (⟨(rd_T55 l0 x23_1).f0, wrap64 (((rd_T55 l0 x23_1).f1) - ((rd_T55 l0 x23_1).f0)), false⟩ : S44)); (case aB => exact (by repeat (first | exact HB.out | apply below_alloc | apply pw_below_drewN | apply below_drew1 | refine below_set ?_ GE35007.out))); (case aF => exact (fun _ _ => trivial)); (case aO => exact (by exact Kd.R_mono (Kd.R_far (p := ⟨gb35007, 1, none⟩) (Kd.R_far (p := ⟨gb35007, 0, none⟩) (Kd.R_types HO_6.out BK35007.out (by decide)) (fun _ hk => hk.2) (.int .i64 ((rd_T55 l0 x23_1).f0))) (fun _ hk => hk.2) (.int .i64 ((rd_T55 l0 x23_1).f1))) (fun _ hk => trivial))); (case aS => exact (below_size (by repeat (first | exact HB.out | apply below_alloc | apply pw_below_drewN | apply below_drew1 | refine below_set ?_ GE35007.out)))); (case aL => have := LMc11.out; omega); intro v35009 w14 ho hb hg hat; rw [← Ny35008.out] at ho; replace BK35007 := Aside0.mk (blk_grown (g := gb35007) (o := .cells #[.int .i64 ((rd_T55 l0 x23_1).f0), .int .i64 ((rd_T55 l0 x23_1).f1)] 55 (0, 0)) (by refine blk_put (cs := #[.int .i64 ((rd_T55 l0 x23_1).f0), .int .i64 0]) ?_ 1 _ rfl; refine blk_put (cs := #[.int .i64 0, .int .i64 0]) ?_ 0 _ rfl; exact BK35007.out) hg (Kd.R_ne HO_6.out BK35007.out (by decide))); replace HB := Aside0.mk (hb); have HO35010 := Aside0.mk (ho); clear HO_6; clear ho hb hg hat))
         go_roundg k1
         case measure => have := HK1.out; omega
         case rel => exact ⟨(y35008), (wrap64 (x23_1 + 1)), (by first | rfl | (simp; done) | (simp [*]; done)), H', ⟨by have := HK1.out; omega⟩, ⟨HO35010.out⟩, ⟨by repeat (first | exact HB.out | apply below_alloc | apply pw_below_drewN | apply below_drew1 | refine below_set ?_ GE35007.out)⟩⟩
        ·rw [if_neg c11] at H
         exact absurd H (by simp)
       ·rw [if_neg c10] at H
        exact absurd H (by simp)
      ·rw [if_neg c9] at H
       exact absurd H (by simp)
     ·rw [if_neg c8] at H
      have c8b0 : decide (x23_1 < (l0.length : Int)) = false := decide_eq_false c8
      clear c8
      replace H := Option.bind_eq_some_iff.mp H
      obtain ⟨⟨t35011, t35012⟩, A150, H⟩ := H
      try dsimp only at H
      have A15 := Aside0.mk A150
      clear A150
      simp only [Option.some.injEq, Prod.mk.injEq] at H
      obtain ⟨rfl, rfl⟩ := H
      obtain ⟨Ao16, co16, eo16⟩ := Kd.R_slice HO_6.out
      subst eo16
      go_wp2_with (first | ((with_reducible refine gate_callee (f := 54) rfl ?_); refine goesL_ (some 40) rfl rfl Try.func54 (by kernel_rfl) rfl #[.slice Ao16 x6_1.length co16] rfl (by (try simp only [List.map_toArray, List.map_cons, List.map_nil]); first | done | rfl | (simp only [List.length_drop, List.length_take]; rfl)) ?_; (with_reducible refine (iso_Norm.calls _ _ x6_1 t35011 t35012 _ ?side1 ?side2 A15.out).mono ?_); (case side1 => exact (Kd.R_reads' HO_6.out).2.2); (case side2 => exact (Kd.R_reads' HO_6.out).2.1); rintro e w17 ⟨v35013, rfl, ho0, hb⟩; refine ⟨_, rfl, ?_⟩; have HO35014 := Aside0.mk (Kd.R_lower (Kd.R_new' ho0 (Kd.R_lt (HO_6.out))) (below_size (by repeat (first | exact HB.out | apply below_alloc | apply pw_below_drewN | apply below_drew1)))); replace HO_6 := Aside0.mk (Kd.R_elder' (HO_6.out) (Kd.R_base ho0) hb); replace HB := Aside0.mk (below_step (by repeat (first | exact HB.out | apply below_alloc | apply pw_below_drewN | apply below_drew1)) hb); (try clear hb); (try clear hb2); (try clear hk); (try clear hi); (try clear ho0)))
      go_ret2
      exact ⟨_, by first | rfl | (simp [errW_none, errW_some] <;> rfl) | (simp [*, errW_none, errW_some] <;> rfl), by exact Kd.R_mono HO35014.out (fun _ hk => trivial), by repeat (first | exact HB.out | apply below_alloc | apply pw_below_drewN | apply below_drew1)⟩
  ·replace c5 := Bool.eq_false_iff.mpr c5
   subst c5
   have H1 : (some (([] : List (S44)), 9)) = some (r1, r2) := by rw [if_neg (show ¬ (false = true) by decide)] at H; first | exact H | simpa using H
   clear H
   have H := H1
   clear H1
   simp only [Option.some.injEq, Prod.mk.injEq] at H
   obtain ⟨rfl, rfl⟩ := H
   go_enter Try.func34, Try.ntmps34
   go_wp2_with (first | ((with_reducible refine gate_callee (f := 51) rfl ?_); refine goesL_ (some 11) rfl rfl Try.func51 (by kernel_rfl) rfl #[.slice A0 l0.length c0] rfl (by (try simp only [List.map_toArray, List.map_cons, List.map_nil]); first | done | rfl | (simp only [List.length_drop, List.length_take]; rfl)) ?_; (with_reducible refine (span_Norm.calls k _ _ l0 t35001 t35002 _ ?side1 ?side2 A2.out).mono ?_); (case side1 => exact HR0.out); (case side2 => exact HC0.out); rintro e w18 ⟨v35003, rfl, ho0, hb⟩; refine ⟨_, rfl, ?_⟩; have HO35004 := Aside0.mk (Kd.R_lower ho0 (below_size (by repeat (first | exact HB.out | apply below_alloc | apply pw_below_drewN | apply below_drew1)))); replace HB := Aside0.mk (below_step (by repeat (first | exact HB.out | apply below_alloc | apply pw_below_drewN | apply below_drew1)) hb); (try clear hb); (try clear hb2); (try clear hk); (try clear hi); (try clear ho0); obtain ⟨Ao19, co19, eo19⟩ := Kd.R_slice HO35004.out; subst eo19) | ((with_reducible refine gate_callee (f := 53) rfl ?_); refine goesL_ (some 19) rfl rfl Try.func53 (by kernel_rfl) rfl #[.slice Ao19 t35001.length co19, .slice A0 l0.length c0] rfl (by (try simp only [List.map_toArray, List.map_cons, List.map_nil]); first | done | rfl | (simp only [List.length_drop, List.length_take]; rfl)) ?_; (with_reducible refine (slices_Equal_api_Span_api_Span.calls k _ _ t35001 _ _ l0 false _ ?side1 ?side2 ?side3 ?side4 A4.out).mono ?_); (case side1 => exact (Kd.R_reads' HO35004.out).2.2); (case side2 => exact (Kd.R_reads' HO35004.out).2.1); (case side3 => exact (Kd.C_below HR0.out HB.out)); (case side4 => exact HC0.out); rintro e w' ⟨rfl, ⟨nd, rfl⟩⟩; refine ⟨_, rfl, ?_⟩))
   go_ret2
   exact ⟨_, by first | rfl | (simp [errW_none, errW_some] <;> rfl) | (simp [*, errW_none, errW_some] <;> rfl), by first | exact Kd.R_nil _ _ _ _ _ | exact Kd.N_nil _ _ _ _ _ | exact Kd.V_nil _ _ _ _ _ | exact Kd.Q_nil _ _ _ _ _ | exact Kd.S_nil _ _ _ _ _, by repeat (first | exact HB.out | apply below_alloc | apply pw_below_drewN | apply below_drew1)⟩
 ·rw [if_neg c3] at H
  have c3b0 : (t35002 == 0) = false := beq_eq_false_iff_ne.mpr c3
  have c3b1 : (t35002 != 0) = true := bne_iff_ne.mpr c3
  simp only [Option.some.injEq, Prod.mk.injEq] at H
  obtain ⟨rfl, rfl⟩ := H
  go_enter Try.func34, Try.ntmps34
  go_wp2_with (first | ((with_reducible refine gate_callee (f := 51) rfl ?_); refine goesL_ (some 11) rfl rfl Try.func51 (by kernel_rfl) rfl #[.slice A0 l0.length c0] rfl (by (try simp only [List.map_toArray, List.map_cons, List.map_nil]); first | done | rfl | (simp only [List.length_drop, List.length_take]; rfl)) ?_; (with_reducible refine (span_Norm.calls k _ _ l0 t35001 t35002 _ ?side1 ?side2 A2.out).mono ?_); (case side1 => exact HR0.out); (case side2 => exact HC0.out); rintro e w20 ⟨v35003, rfl, ho0, hb⟩; refine ⟨_, rfl, ?_⟩; have HO35004 := Aside0.mk (Kd.R_lower ho0 (below_size (by repeat (first | exact HB.out | apply below_alloc | apply pw_below_drewN | apply below_drew1)))); replace HB := Aside0.mk (below_step (by repeat (first | exact HB.out | apply below_alloc | apply pw_below_drewN | apply below_drew1)) hb); (try clear hb); (try clear hb2); (try clear hk); (try clear hi); (try clear ho0)))
  go_ret2
  exact ⟨_, by first | rfl | (simp [errW_none, errW_some] <;> rfl) | (simp [*, errW_none, errW_some] <;> rfl), by first | exact Kd.R_nil _ _ _ _ _ | exact Kd.N_nil _ _ _ _ _ | exact Kd.V_nil _ _ _ _ _ | exact Kd.Q_nil _ _ _ _ _ | exact Kd.S_nil _ _ _ _ _, by repeat (first | exact HB.out | apply below_alloc | apply pw_below_drewN | apply below_drew1)⟩

end Go.Proofs.Ytalpegglbfobiaa.G

namespace Go.Proofs.Ytalpegglbfobiaa.G
open Go.RowKit Go.Proofs.YtalpegglbfobiaaW.PrintWords Go.Proofs.YtalpegglbfobiaaW.PrintLast Go.Proofs.YtalpegglbfobiaaW.PrintMore
set_option linter.unusedVariables false
set_option linter.unusedSimpArgs false
theorem equal_l0 (l m : List S55) (h : l.length = m.length) (hl : l.length ≤ 1000) : ∀ (d i : Nat), l.length - i = d → i ≤ l.length → Ends (fun k => slices_Equal_api_Span_api_Span.l0 k l m (l.length : Int) (i : Int)) (decide (l.drop i = m.drop i)) := by
 intro d
 induction d with
 | zero =>
  intro i hd hi
  refine Ends.succ ?_
  simp only [slices_Equal_api_Span_api_Span.l0]
  rw [List.drop_of_length_le (by omega), List.drop_of_length_le (by omega)]
  exact Ends.neg (by omega) (Ends.ret _)
 | succ d ih =>
  intro i hd hi
  refine Ends.succ ?_
  have ih := ih (i + 1) (by omega) (by omega)
  rw [drop36 l i (by omega), drop36 m i (by omega)]
  simp only [slices_Equal_api_Span_api_Span.l0, wrap_nat i (by omega)]
  generalize rd_T55 l (i : Int) = p at *
  generalize rd_T55 m (i : Int) = q at *
  refine Ends.pos (by omega) (Ends.pos (by omega) (Ends.pos (by omega) (Ends.pos (by omega) ?_)))
  by_cases he : p = q
  ·subst he
   exact Ends.neg (by simp) (ih.congr (by simp))
  ·refine Ends.pos ?_ ((Ends.ret false).congr ?_)
   ·obtain ⟨p0, p1⟩ := p
    obtain ⟨q0, q1⟩ := q
    dsimp only
    by_cases h0 : p0 = q0
    ·have h1 : ¬ p1 = q1 := fun h1 => he (by rw [h0, h1])
     simp [h0, h1]
    ·simp [h0]
   ·simp [he]
theorem equal_ends (l m : List S55) (hl : l.length ≤ 1000) : Ends (fun k => slices_Equal_api_Span_api_Span.f k l m) (decide (l = m)) := by
 unfold slices_Equal_api_Span_api_Span.f
 by_cases h : l.length = m.length
 ·exact Ends.pos (by omega) ((equal_l0 l m h hl _ 0 rfl (by omega)).congr (by simp))
 ·refine Ends.neg (by omega) ((Ends.ret false).congr ?_)
  have : ¬ l = m := fun e => h (by rw [e])
  simp [this]
theorem sruns_l0 (l : List S55) (hl : l.length ≤ 256) (hv : ∀ s ∈ l, 0 ≤ s.f0 ∧ s.f0 < s.f1 ∧ s.f1 ≤ 17179869184) : ∀ (d i : Nat) (o : List S44), l.length - i = d → i ≤ l.length → o.length ≤ i → Ends (fun k => splice_Runs.l0 k o l (l.length : Int) (i : Int)) (normOf (o ++ (l.drop i).map runS)) := by
 intro d
 induction d with
 | zero =>
  intro i o hd hi ho
  refine Ends.succ ?_
  simp only [splice_Runs.l0, iso_Norm.f]
  rw [List.drop_of_length_le (by omega), List.map_nil, List.append_nil]
  exact Ends.neg (by omega) (Ends.ret _)
 | succ d ih =>
  intro i o hd hi ho
  refine Ends.succ ?_
  have hx := hv (rd_T55 l (i : Int)) (by rw [rd36 l i (by omega)]; exact List.getElem_mem _)
  rw [drop36 l i (by omega)]
  simp only [splice_Runs.l0, wrap_nat i (by omega)]
  generalize rd_T55 l (i : Int) = s at *
  have hw : wrap64 (s.f1 - s.f0) = s.f1 - s.f0 := by unfold wrap64; omega
  rw [hw]
  refine Ends.pos (by omega) (Ends.pos (by omega) (Ends.pos (by omega) (Ends.pos (by omega) ?_)))
  refine (ih (i + 1) (o ++ [runS s]) (by omega) (by omega) (by simp; omega)).congr ?_
  rw [List.append_assoc]
  rfl
theorem sruns_ends (l : List S55) : Ends (fun k => splice_Runs.f k l) (runsOf l) := by
 unfold splice_Runs.f runsOf
 refine Ends.bind (norm_ends l) ?_
 by_cases hc : check04 l = 0
 ·have hj := joinOf_few hc
  rw [norm_fits hc, if_pos hc]
  refine Ends.pos rfl (Ends.bind (equal_ends (joinOf l) l (by omega)) ?_)
  by_cases he : joinOf l = l
  ·obtain ⟨h1, h2, h3, _⟩ := own_sep (l := l) ⟨hc, he⟩
   rw [if_pos he]
   refine Ends.pos (by simpa using he) ((sruns_l0 l h2 h3 _ 0 [] rfl (by omega) (by simp)).congr ?_)
   simpa using normOf_runs ⟨hc, he⟩
  ·rw [if_neg he]
   exact Ends.neg (by simpa using he) (Ends.ret _)
 ·have e : bothOf l [] 0 = ([], check04 l) := by unfold bothOf; rw [if_neg hc]
  rw [e, if_neg hc]
  exact Ends.neg hc (Ends.ret _)
end Go.Proofs.Ytalpegglbfobiaa.G

namespace Go.Proofs.Ytalpegglbfobiaa.G
open Go.RowKit Go.Proofs.YtalpegglbfobiaaW.PrintWords Go.Proofs.YtalpegglbfobiaaW.PrintLast Go.Proofs.YtalpegglbfobiaaW.PrintMore
set_option linter.unusedVariables false
set_option linter.unusedSimpArgs false
def long (n : Int) : Prop := 1 ≤ n ∧ n ≤ 17179869184
instance (n : Int) : Decidable (long n) := by unfold long; infer_instance
def backR (a n : Int) : S44 := ⟨a, n, decide (n > 1)⟩
def wholeOf (n : Int) : List S44 × Int := if long n then ([backR (n - 1) n], 0) else ([], 1)
def cullOf (n : Int) (bad : List S55) (least : Int) : List S44 × Int :=
 if (keepOf n bad least).2 = 0 then (if (keepOf n bad least).1 = [] then ([], 10) else revOf ((keepOf n bad least).1.map runS)) else ([], (keepOf n bad least).2)
def sumI (l : List Int) : Int := l.foldr (· + ·) 0
theorem sumI_cons (x : Int) (l : List Int) : sumI (x :: l) = x + sumI l := rfl
def splitGo : Int → List Int → List (List S44)
 | _, [] => []
 | n, x :: l => [backR (n - 1) x] :: splitGo (n - x) l
def splitOf (n : Int) (l : List Int) : List (List S44) × Int :=
 if long n then (if l = [] then ([], 10) else if l.length > 512 then ([], 8) else if ∀ x ∈ l, long x then (if sumI l > n then ([], 21) else (splitGo n l, 0)) else ([], 1)) else ([], 1)
theorem splitGo_len : ∀ (l : List Int) (n : Int), (splitGo n l).length = l.length
 | [], n => rfl
 | x :: l, n => by rw [splitGo, List.length_cons, List.length_cons, splitGo_len l]
theorem sumI_pos : ∀ (l : List Int), (∀ x ∈ l, long x) → 0 ≤ sumI l ∧ sumI l ≤ l.length * 17179869184
 | [], _ => by simp [sumI]
 | x :: l, h => by
  have h1 := sumI_pos l (fun y hy => h y (by simp [hy]))
  have h2 := h x (by simp)
  unfold long at h2
  rw [sumI_cons, List.length_cons]
  omega
def badGo : List (List S44) → Int
 | [] => 0
 | m :: l => if check13 m = 0 then badGo l else check13 m
def aftGo : List (List S44) → List S44 → List S44 × Int
 | [], m => (m, 0)
 | x :: r, m => if (compOf13 m x).2 = 0 then aftGo r (compOf13 m x).1 else ([], (compOf13 m x).2)
def composedOf (l : List (List S44)) : List S44 × Int := match l.reverse with
 | [] => ([], 0)
 | m :: r => aftGo r (nrm (sem m))
def afterOf (l : List (List S44)) : List S44 × Int := if l.length > 16 then ([], 8) else if badGo l = 0 then composedOf l else ([], badGo l)
theorem badGo_zero : ∀ (l : List (List S44)), badGo l = 0 → ∀ m ∈ l, check13 m = 0
 | [], _, m, hm => by simp at hm
 | x :: l, h, m, hm => by
  unfold badGo at h
  split at h
  ·rcases List.mem_cons.mp hm with rfl | hm
   ·assumption
   ·exact badGo_zero l h m hm
  ·contradiction
theorem compOf_len (a b : List S44) : (compOf13 a b).1.length ≤ 256 := by
 unfold compOf13
 split
 ·split
  ·split
   ·simp
   ·split
    ·simp
    ·dsimp only; omega
  ·simp
 ·simp
theorem aftGo_len : ∀ (r : List (List S44)) (m : List S44), m.length ≤ 256 → (aftGo r m).1.length ≤ 256
 | [], m, h => h
 | x :: r, m, h => by
  unfold aftGo
  split
  ·exact aftGo_len r _ (compOf_len m x)
  ·simp
theorem afterOf_len (l : List (List S44)) : (afterOf l).1.length ≤ 256 := by
 unfold afterOf
 split
 ·simp
 ·split
  ·rename_i h
   unfold composedOf
   split
   ·simp
   ·rename_i m r e
    refine aftGo_len r _ ?_
    have hm : m ∈ l := by rw [← List.mem_reverse, e]; simp
    have hc := badGo_zero l h m hm
    exact (check13_zero (nrm_fair hc)).1
  ·simp
def backwOf (m : List S44) : Bool × Int := if check13 m = 0 then (if m = [] then (false, 10) else (decide ((atOf13 m 0).1 > (atOf13 m (tot13 m - 1)).1), 0)) else (false, check13 m)
theorem rdL6 (l : List (List S44)) (i : Nat) (h : i < l.length) : rd_L6 l (i : Int) = l[i] := by simp [rd_L6, List.getD_eq_getElem?_getD, List.getElem?_eq_getElem h]
theorem dropL6 (l : List (List S44)) (i : Nat) (h : i < l.length) : l.drop i = rd_L6 l (i : Int) :: l.drop (i + 1) := by rw [rdL6 l i h]; exact List.drop_eq_getElem_cons h
theorem takeR6 (l : List (List S44)) (i : Nat) (h : i < l.length) : (l.take (i + 1)).reverse = rd_L6 l (i : Int) :: (l.take i).reverse := by
 rw [List.take_succ_eq_append_getElem h, List.reverse_append, rdL6 l i h]
 rfl
theorem composed_at (l : List (List S44)) (h : l ≠ []) : composedOf l = aftGo (l.take (l.length - 1)).reverse (nrm (sem (rd_L6 l ((l.length - 1 : Nat) : Int)))) := by
 have h0 : 0 < l.length := (Nat.pos_of_ne_zero fun e => h (List.length_eq_zero_iff.1 e))
 have e := takeR6 l (l.length - 1) (by omega)
 rw [show l.length - 1 + 1 = l.length by omega, List.take_length] at e
 unfold composedOf
 rw [e]
end Go.Proofs.Ytalpegglbfobiaa.G

namespace Go.Proofs.Ytalpegglbfobiaa.G
open Go.RowKit Go.Proofs.YtalpegglbfobiaaW.PrintWords Go.Proofs.YtalpegglbfobiaaW.PrintLast Go.Proofs.YtalpegglbfobiaaW.PrintMore
attribute [local go_sem] max2_int min2_int max_two min_two max_three min_three max_four min_four   -- for this text's walks alone
set_option linter.unusedVariables false
set_option linter.unusedSimpArgs false
structure VSt (a b g h : Nat) (n least : Int) (v : Value) (o : List S55) (W : World) : Prop where
 ca : W.heap[a]? = some (.cells #[.int .i64 n] 3 (0, 0))
 cb : W.heap[b]? = some (.cells #[.int .i64 least] 3 (0, 0))
 cg : W.heap[g]? = some (.cells #[v] 29 (0, 0))
 ch : W.heap[h]? = some (.cells #[.func (.func 52) #[] #[.pointer (some ⟨a, 0, none⟩), .pointer (some ⟨b, 0, none⟩), .pointer (some ⟨g, 0, none⟩), .pointer (some ⟨h, 0, none⟩)]] 70 (0, 0))
 o : Kd.R k55 55 W g (fun k => h < k) v o
theorem VSt.below {a b g h : Nat} {n least : Int} {v : Value} {o : List S55} {W W' : World} (s : VSt a b g h n least v o W) (hb : Below W.heap.size W W') : VSt a b g h n least v o W' :=
 ⟨blk_below s.ca hb, blk_below s.cb hb, blk_below s.cg hb, blk_below s.ch hb, Kd.R_below s.o hb⟩
def visF (a b g h : Nat) : Array Value := #[.pointer (some ⟨a, 0, none⟩), .pointer (some ⟨b, 0, none⟩), .pointer (some ⟨g, 0, none⟩), .pointer (some ⟨h, 0, none⟩)]
theorem VSt.put {a b g h : Nat} (hab : a < b) (hbg : b < g) (hgh : g < h) {n least : Int} {v u : Value} {o : List S55} {W : World} (ca : W.heap[a]? = some (.cells #[.int .i64 n] 3 (0, 0))) (cb : W.heap[b]? = some (.cells #[.int .i64 least] 3 (0, 0))) (cg : W.heap[g]? = some (.cells #[u] 29 (0, 0)))
  (ch : W.heap[h]? = some (.cells #[.func (.func 52) #[] #[.pointer (some ⟨a, 0, none⟩), .pointer (some ⟨b, 0, none⟩), .pointer (some ⟨g, 0, none⟩), .pointer (some ⟨h, 0, none⟩)]] 70 (0, 0))) (ho : Kd.R k55 55 W g (fun k => h < k) v o) : VSt a b g h n least v o (W.setCell ⟨g, 0, none⟩ v) :=
 ⟨(Below.heap_setCell W ⟨g, 0, none⟩ v a (show a ≠ g by omega)).trans ca, (Below.heap_setCell W ⟨g, 0, none⟩ v b (show b ≠ g by omega)).trans cb, blk_set cg 0 _, (Below.heap_setCell W ⟨g, 0, none⟩ v h (show h ≠ g by omega)).trans ch, Kd.R_far ho (fun k hk => (show k ≠ g by omega)) _⟩
set_option maxRecDepth 100000 in
set_option maxHeartbeats 8000000 in
theorem visit_nil (a b g h : Nat) (hab : a < b) (hbg : b < g) (hgh : g < h) (n least : Int) (hn : 0 ≤ n ∧ n ≤ 17179869184) (A : Option Addr) (c : Nat) (f : Int) (hf : 0 ≤ f ∧ f ≤ 17179869184) (O : List S55) (hO : O.length < 65536) (v : Value) (W : World) (hV : VSt a b g h n least v O W) :
  Calls Try.prog 52 #[.int .i64 f, .slice A 0 c, .pointer (some ⟨a, 0, none⟩), .pointer (some ⟨b, 0, none⟩), .pointer (some ⟨g, 0, none⟩), .pointer (some ⟨h, 0, none⟩)] W fun e W' => e = .returned (.tuple #[]) ∧ (∃ v', VSt a b g h n least v' (O ++ keepGo n least f []) W') ∧ Below g W W' := by
 have hwr : wrap64 (n - f) = n - f := by unfold wrap64; omega
 have HV := Aside0.mk hV
 have hca := blk_cell hV.ca 0
 have hcb := blk_cell hV.cb 0
 have hcg := blk_cell hV.cg 0
 have HBr := Aside0.mk (Below.refl g W)
 by_cases hk : least ≤ n - f
 ·have hkb : decide (least ≤ n - f) = true := decide_eq_true hk
  have hNO := Aside0.mk (show ∀ X, X ≤ h → v.ownBlock ≠ some X from fun X hX e => by have := hV.o.1 X e; omega)
  obtain ⟨A1, c1, e1, _, _⟩ := Kd.R_reads hV.o
  subst e1
  clear hV
  go_enter Try.func52, Try.ntmps52
  go_wp2_with (at_builtin; (refine Kd.R_append k55 (w0 := W) g rfl (.tmp 24) (.tmp 28) 29 55 (.agg #[.int .i64 0, .int .i64 0]) 16 rfl Try.underlying29 info55 (by decide) (by decide) (by decide) (.slice A1 O.length c1) O ⟨f, n⟩ [.int .i64 f, .int .i64 n] (fun k => h < k) (fun _ => False) rfl ?ax (k55_mkM _ _ _ _) (fun _ h => h.elim) ?af HV.out.o HBr.out (Nat.le_of_lt (blk_lt HV.out.cg)) (by omega) ?_; (case ax => first | rfl | (simp; done) | (simp; rfl)); (case af => exact fun k hk => by have h1 := blk_lt HV.out.ch; omega); intro v' w5 ho hb5 hg5 hat5; have HO5 := Aside0.mk ho; have HB5 := Aside0.mk hb5; have HA5 := Aside0.mk (blk_grown HV.out.ca hg5 (fun e => hNO.out a (by omega) e.symm)); have HBB5 := Aside0.mk (blk_grown HV.out.cb hg5 (fun e => hNO.out b (by omega) e.symm)); have HG5 := Aside0.mk (blk_grown HV.out.cg hg5 (fun e => hNO.out g (by omega) e.symm)); have HH5 := Aside0.mk (blk_grown HV.out.ch hg5 (fun e => hNO.out h (by omega) e.symm)); clear ho hb5 hg5 hat5; obtain ⟨A5, c5, e5, _, _⟩ := Kd.R_reads HO5.out; subst e5; have hgc := blk_cell HG5.out 0; have hgf5 : w5.frozen? ⟨g, 0, none⟩ = false := (by simp [World.frozen?, HG5.out])))
  (try simp only [Exit.inBlock, Exit.then]); refine bodyPost_end (results_none rfl _ _ _) rfl ?_
  have e2 : O.length + 1 = (O ++ [(⟨f, n⟩ : S55)]).length := by simp
  rw [e2]
  unfold keepGo
  rw [if_pos hk]
  exact ⟨rfl, ⟨_, VSt.put hab hbg hgh HA5.out HBB5.out HG5.out HH5.out HO5.out⟩, HB5.out.setCell (p := ⟨g, 0, none⟩) (Nat.le_refl _) _⟩
 ·have hkb : decide (least ≤ n - f) = false := decide_eq_false hk
  clear hV
  go_enter Try.func52, Try.ntmps52
  go_wp2
  (try simp only [Exit.inBlock, Exit.then]); refine bodyPost_end (results_none rfl _ _ _) rfl ?_
  unfold keepGo
  rw [if_neg (by omega), List.append_nil]
  exact ⟨rfl, ⟨_, HV.out⟩, Below.refl _ _⟩
set_option maxRecDepth 100000 in
set_option maxHeartbeats 8000000 in
theorem visit_cons (a b g h : Nat) (hab : a < b) (hbg : b < g) (hgh : g < h) (n least : Int) (hn : 0 ≤ n ∧ n ≤ 17179869184) (w0 : World) (hg0 : w0.heap.size ≤ g) (s : S55) (q : List S55) (hs : 0 ≤ s.f0 ∧ s.f0 ≤ 17179869184 ∧ 0 ≤ s.f1 ∧ s.f1 ≤ 17179869184)
  (ih : ∀ (A : Option Addr) (c : Nat) (f : Int) (O : List S55) (v : Value) (W : World), 0 ≤ f ∧ f ≤ 17179869184 → O.length + q.length < 65536 → Kd.C k55 w0 A q.length q → q.length ≤ c → Below g w0 W → VSt a b g h n least v O W →
   Calls Try.prog 52 #[.int .i64 f, .slice A q.length c, .pointer (some ⟨a, 0, none⟩), .pointer (some ⟨b, 0, none⟩), .pointer (some ⟨g, 0, none⟩), .pointer (some ⟨h, 0, none⟩)] W fun e W' => e = .returned (.tuple #[]) ∧ (∃ v', VSt a b g h n least v' (O ++ keepGo n least f q) W') ∧ Below g W W')
  (A : Option Addr) (c : Nat) (f : Int) (hf : 0 ≤ f ∧ f ≤ 17179869184) (O : List S55) (hO : O.length + (s :: q).length < 65536) (v : Value) (W : World) (hC : Kd.C k55 w0 A (s :: q).length (s :: q)) (hc : (s :: q).length ≤ c) (hb : Below g w0 W) (hV : VSt a b g h n least v O W) :
  Calls Try.prog 52 #[.int .i64 f, .slice A (s :: q).length c, .pointer (some ⟨a, 0, none⟩), .pointer (some ⟨b, 0, none⟩), .pointer (some ⟨g, 0, none⟩), .pointer (some ⟨h, 0, none⟩)] W fun e W' => e = .returned (.tuple #[]) ∧ (∃ v', VSt a b g h n least v' (O ++ keepGo n least f (s :: q)) W') ∧ Below g W W' := by
 have hlen : (s :: q).length = q.length + 1 := rfl
 have hd0 : decide ((0 : Int) < ((s :: q).length : Int)) = true := decide_eq_true (by omega)
 obtain ⟨ad, rfl, hz0, hz1⟩ := at_T55 (Kd.C_below hC (hb.mono hg0)) 0 (by omega) (by omega)
 have hdr := Kd.C_drop (m := 1) (c := c) hC (by omega) hc
 rw [show (s :: q).drop 1 = q from rfl] at hdr
 obtain ⟨i0, hi0, _, hsz, _⟩ := info_parts info55
 have hcut := cut_from (P := Try.prog) 29 55 .i64 Try.underlying29 hi0 2 hsz (some ad) (s :: q).length c 1 (by omega) (by omega)
 have haz : ad.add 0 = ad := by simp [Addr.add]
 obtain ⟨A2, hA2⟩ : ∃ A2, A2 = (if c = Int.toNat 1 then some ad else (some ad : Option Addr).map (·.add (Int.toNat 1 * 2))) := ⟨_, rfl⟩
 have HD := Aside0.mk (show Kd.C k55 w0 A2 q.length q by rw [hA2]; exact hdr)
 rw [← hA2, show (s :: q).length - Int.toNat 1 = q.length from rfl, hlen] at hcut
 rw [show Int.toNat 0 * 2 = 0 from rfl, show rd_T55 (s :: q) 0 = s from rfl, haz] at hz0 hz1
 have HC := Aside0.mk hC
 have HV := Aside0.mk hV
 have HB := Aside0.mk hb
 have IH := Aside0.mk ih
 have hca := blk_cell hV.ca 0
 have hcb := blk_cell hV.cb 0
 have hcg := blk_cell hV.cg 0
 have hch := blk_cell hV.ch 0
 have HBr := Aside0.mk (Below.refl g W)
 have hcl := Aside0.mk (show q.length ≤ c - Int.toNat 1 by have : (s :: q).length = q.length + 1 := rfl; have : Int.toNat 1 = 1 := rfl; omega)
 clear hdr hA2 hi0 hsz hC hb ih
 generalize c - Int.toNat 1 = c2 at *
 have HZA := Aside0.mk (show ∀ W', Below g w0 W' → W'.cell? { block := ad.block, off := ad.off + 1 } = some (.int .i64 s.f1) from fun W' hb' => by
  obtain ⟨ad', e', _, hq⟩ := at_T55 (Kd.C_below HC.out (hb'.mono hg0)) 0 (by omega) (by omega)
  cases e'
  rw [show Int.toNat 0 * 2 = 0 from rfl, haz] at hq
  exact hq)
 go_enter Try.func52, Try.ntmps52
 go_wp2
 go_quiet (fail)
 rename_i nq
 have em : (if s.f0 < n then s.f0 else n) = min n s.f0 := by split <;> omega
 rw [em]
 clear em hca hcb hcg hch hz0 hz1
 have HBD := Aside0.mk (pw_below_drewN (Below.refl W.heap.size W) nq)
 have HV2 := Aside0.mk (HV.out.below HBD.out)
 have HB1 := Aside0.mk (below_then HB.out (Nat.le_of_lt (blk_lt HV.out.cg)) HBD.out)
 have HW1 := Aside0.mk (below_then HBr.out (Nat.le_of_lt (blk_lt HV.out.cg)) HBD.out)
 clear hV
 generalize W.drewN nq = W2 at *
 have hca := blk_cell HV2.out.ca 0
 have hcb := blk_cell HV2.out.cb 0
 have hcg := blk_cell HV2.out.cg 0
 have hch := blk_cell HV2.out.ch 0
 replace HBr := Aside0.mk (Below.refl g W2)
 have hm : 0 ≤ min n s.f0 ∧ min n s.f0 ≤ 17179869184 := by omega
 have hgo : keepGo n least f (s :: q) = (if least ≤ min n s.f0 - f then [⟨f, min n s.f0⟩] else []) ++ keepGo n least s.f1 q := rfl
 generalize min n s.f0 = m at *
 have hwr : wrap64 (m - f) = m - f := by unfold wrap64; omega
 by_cases hk : least ≤ m - f
 ·have hkb : decide (least ≤ m - f) = true := decide_eq_true hk
  rw [if_pos hk] at hgo
  have hNO := Aside0.mk (show ∀ X, X ≤ h → v.ownBlock ≠ some X from fun X hX e => by have := HV2.out.o.1 X e; omega)
  obtain ⟨A1, c1, e1, _, _⟩ := Kd.R_reads HV2.out.o
  subst e1
  go_wp2_with (at_builtin; (refine Kd.R_append k55 (w0 := W2) g rfl (.tmp 24) (.tmp 28) 29 55 (.agg #[.int .i64 0, .int .i64 0]) 16 rfl Try.underlying29 info55 (by decide) (by decide) (by decide) (.slice A1 O.length c1) O ⟨f, m⟩ [.int .i64 f, .int .i64 m] (fun k => h < k) (fun _ => False) rfl ?ax (k55_mkM _ _ _ _) (fun _ h => h.elim) ?af HV2.out.o HBr.out (Nat.le_of_lt (blk_lt HV2.out.cg)) (by omega) ?_; (case ax => first | rfl | (simp; done) | (simp; rfl)); (case af => exact fun k hk => by have h1 := blk_lt HV2.out.ch; omega); intro v' w5 ho hb5 hg5 hat5; have HO5 := Aside0.mk ho; have HB5 := Aside0.mk hb5; have HA5 := Aside0.mk (blk_grown HV2.out.ca hg5 (fun e => hNO.out a (by omega) e.symm)); have HBB5 := Aside0.mk (blk_grown HV2.out.cb hg5 (fun e => hNO.out b (by omega) e.symm)); have HG5 := Aside0.mk (blk_grown HV2.out.cg hg5 (fun e => hNO.out g (by omega) e.symm)); have HH5 := Aside0.mk (blk_grown HV2.out.ch hg5 (fun e => hNO.out h (by omega) e.symm)); clear ho hb5 hg5 hat5; obtain ⟨A5, c5, e5, _, _⟩ := Kd.R_reads HO5.out; subst e5; have hgc := blk_cell HG5.out 0; have hgf5 : w5.frozen? ⟨g, 0, none⟩ = false := (by simp [World.frozen?, HG5.out])))
  have e2 : O.length + 1 = (O ++ [(⟨f, m⟩ : S55)]).length := by simp
  rw [e2]
  have HV1 := Aside0.mk (VSt.put (u := .slice A1 O.length c1) hab hbg hgh HA5.out HBB5.out HG5.out HH5.out HO5.out)
  replace HW1 := Aside0.mk (HW1.out.trans (HB5.out.setCell (p := ⟨g, 0, none⟩) (Nat.le_refl _) (.slice A5 (O ++ [(⟨f, m⟩ : S55)]).length c5)))
  replace HB1 := Aside0.mk (HB.out.trans HW1.out)
  have hlo : (O ++ [(⟨f, m⟩ : S55)]).length = O.length + 1 := by simp
  have hasc : O ++ keepGo n least f (s :: q) = (O ++ [(⟨f, m⟩ : S55)]) ++ keepGo n least s.f1 q := by rw [hgo, List.append_assoc]
  clear hgc hgf5 hca hcb hcg hch hgo e2
  generalize O ++ [(⟨f, m⟩ : S55)] = O1 at *
  generalize w5.setCell ⟨g, 0, none⟩ _ = W1 at *
  have HZ1 := Aside0.mk (HZA.out W1 HB1.out)
  -- REGION O1 W1
  refine start_ (n := 8) (S := fun w' => w'.cell? ⟨h, 0, none⟩ = some (.func (.func 52) #[] #[.pointer (some ⟨a, 0, none⟩), .pointer (some ⟨b, 0, none⟩), .pointer (some ⟨g, 0, none⟩), .pointer (some ⟨h, 0, none⟩)]) ∧ w'.cell? { block := ad.block, off := ad.off + 1 } = some (.int .i64 s.f1)) (ds := []) #[false, false, false, false, false, false, false, false] (by kernel_rfl) rfl rfl ⟨(blk_cell HV1.out.ch 0).trans rfl, HZ1.out⟩ (fun hHeld => ?_)
  generalize hwy_ : W1.drew = wy at hHeld ⊢
  have HBD := hwy_ ▸ below_drew (Below.refl W1.heap.size W1)
  replace HB1 := Aside0.mk (below_then HB1.out (Nat.le_of_lt (blk_lt HV1.out.cg)) HBD)
  replace HW1 := Aside0.mk (below_then HW1.out (Nat.le_of_lt (blk_lt HV1.out.cg)) HBD)
  replace HV1 := Aside0.mk (HV1.out.below HBD)
  clear HBD
  clear hwy_
  refine pv_ 1 (some 34) ?_
  refine pv_ 2 (some 35) ?_
  refine pv_ 3 (some 36) ?_
  refine pv_ 5 (some 38) ?_
  refine pv_ 6 (some 39) ?_
  refine tv_ 0 (some 33) hHeld ?_ (hy := .inl ⟨by rfl, by rintro w' ⟨s0, s1⟩; go_simp; with_reducible rfl⟩)
  refine tv_ 4 (some 37) hHeld ?_ (hy := .inl ⟨by rfl, by rintro w' ⟨s0, s1⟩; go_simp; with_reducible rfl⟩)
  refine one_ (i := 7) (N := some 40) #[true, true, true, true, true, true, true, true] rfl rfl (by kernel_rfl) (by decide) (fun K hK => ?_)
  refine goesV_ 33 #[] #[.pointer (some ⟨a, 0, none⟩), .pointer (some ⟨b, 0, none⟩), .pointer (some ⟨g, 0, none⟩), .pointer (some ⟨h, 0, none⟩)] Try.func52 (by kernel_rfl) rfl #[.int .i64 s.f1, .slice A2 q.length c2, .pointer (some ⟨a, 0, none⟩), .pointer (some ⟨b, 0, none⟩), .pointer (some ⟨g, 0, none⟩), .pointer (some ⟨h, 0, none⟩)] (by rfl) rfl rfl rfl (by simp only [List.map_toArray, List.map_cons, List.map_nil]; rfl) ?_
  refine (IH.out A2 c2 s.f1 O1 _ _ (by omega) (by omega) HD.out hcl.out HB1.out HV1.out).mono ?_
  rintro e w4 ⟨rfl, ⟨v4, hv4⟩, hb4⟩
  refine ⟨_, rfl, ?_⟩
  have HV4 := Aside0.mk hv4
  have HW4 := Aside0.mk (HW1.out.trans hb4)
  have HZ4 := Aside0.mk (HZA.out w4 (HB1.out.trans hb4))
  clear hv4 hb4
  refine hK.out _ _ ⟨(blk_cell HV4.out.ch 0).trans rfl, HZ4.out⟩ (fun hHeld => ?_)
  clear hK K
  refine norm_ (a' := ?_) ?_ ?_
  rotate_left
  ·show Act.put _ (some 40) _ = _
   simp only [Act.put, List.setIfInBounds_toArray, List.set_cons_zero, List.set_cons_succ, i64_w, i32_w]
   rfl
  refine done_ (by kernel_rfl) ?_
  -- ENDREGION
  go_wp2
  (try simp only [Exit.inBlock, Exit.then]); refine bodyPost_end (results_none rfl _ _ _) rfl ?_
  exact ⟨rfl, ⟨_, by rw [hasc]; exact HV4.out⟩, HW4.out⟩
 ·have hkb : decide (least ≤ m - f) = false := decide_eq_false hk
  rw [if_neg hk, List.nil_append] at hgo
  go_wp2
  have HV1 := HV2
  clear hca hcb hcg hch HV2
  have HZ1 := Aside0.mk (HZA.out W2 HB1.out)
  -- REGION O W2
  refine start_ (n := 8) (S := fun w' => w'.cell? ⟨h, 0, none⟩ = some (.func (.func 52) #[] #[.pointer (some ⟨a, 0, none⟩), .pointer (some ⟨b, 0, none⟩), .pointer (some ⟨g, 0, none⟩), .pointer (some ⟨h, 0, none⟩)]) ∧ w'.cell? { block := ad.block, off := ad.off + 1 } = some (.int .i64 s.f1)) (ds := []) #[false, false, false, false, false, false, false, false] (by kernel_rfl) rfl rfl ⟨(blk_cell HV1.out.ch 0).trans rfl, HZ1.out⟩ (fun hHeld => ?_)
  generalize hwy_ : W2.drew = wy at hHeld ⊢
  have HBD := hwy_ ▸ below_drew (Below.refl W2.heap.size W2)
  replace HB1 := Aside0.mk (below_then HB1.out (Nat.le_of_lt (blk_lt HV1.out.cg)) HBD)
  replace HW1 := Aside0.mk (below_then HW1.out (Nat.le_of_lt (blk_lt HV1.out.cg)) HBD)
  replace HV1 := Aside0.mk (HV1.out.below HBD)
  clear HBD
  clear hwy_
  refine pv_ 1 (some 34) ?_
  refine pv_ 2 (some 35) ?_
  refine pv_ 3 (some 36) ?_
  refine pv_ 5 (some 38) ?_
  refine pv_ 6 (some 39) ?_
  refine tv_ 0 (some 33) hHeld ?_ (hy := .inl ⟨by rfl, by rintro w' ⟨s0, s1⟩; go_simp; with_reducible rfl⟩)
  refine tv_ 4 (some 37) hHeld ?_ (hy := .inl ⟨by rfl, by rintro w' ⟨s0, s1⟩; go_simp; with_reducible rfl⟩)
  refine one_ (i := 7) (N := some 40) #[true, true, true, true, true, true, true, true] rfl rfl (by kernel_rfl) (by decide) (fun K hK => ?_)
  refine goesV_ 33 #[] #[.pointer (some ⟨a, 0, none⟩), .pointer (some ⟨b, 0, none⟩), .pointer (some ⟨g, 0, none⟩), .pointer (some ⟨h, 0, none⟩)] Try.func52 (by kernel_rfl) rfl #[.int .i64 s.f1, .slice A2 q.length c2, .pointer (some ⟨a, 0, none⟩), .pointer (some ⟨b, 0, none⟩), .pointer (some ⟨g, 0, none⟩), .pointer (some ⟨h, 0, none⟩)] (by rfl) rfl rfl rfl (by simp only [List.map_toArray, List.map_cons, List.map_nil]; rfl) ?_
  refine (IH.out A2 c2 s.f1 O _ _ (by omega) (by omega) HD.out hcl.out HB1.out HV1.out).mono ?_
  rintro e w4 ⟨rfl, ⟨v4, hv4⟩, hb4⟩
  refine ⟨_, rfl, ?_⟩
  have HV4 := Aside0.mk hv4
  have HW4 := Aside0.mk (HW1.out.trans hb4)
  have HZ4 := Aside0.mk (HZA.out w4 (HB1.out.trans hb4))
  clear hv4 hb4
  refine hK.out _ _ ⟨(blk_cell HV4.out.ch 0).trans rfl, HZ4.out⟩ (fun hHeld => ?_)
  clear hK K
  refine norm_ (a' := ?_) ?_ ?_
  rotate_left
  ·show Act.put _ (some 40) _ = _
   simp only [Act.put, List.setIfInBounds_toArray, List.set_cons_zero, List.set_cons_succ, i64_w, i32_w]
   rfl
  refine done_ (by kernel_rfl) ?_
  -- ENDREGION
  go_wp2
  (try simp only [Exit.inBlock, Exit.then]); refine bodyPost_end (results_none rfl _ _ _) rfl ?_
  exact ⟨rfl, ⟨_, by rw [hgo]; exact HV4.out⟩, HW4.out⟩
end Go.Proofs.Ytalpegglbfobiaa.G

namespace Go.Proofs.Ytalpegglbfobiaa.G
open Go.RowKit Go.Proofs.YtalpegglbfobiaaW.PrintWords Go.Proofs.YtalpegglbfobiaaW.PrintLast Go.Proofs.YtalpegglbfobiaaW.PrintMore
attribute [local go_sem] max2_int min2_int max_two min_two max_three min_three max_four min_four   -- for this text's walks alone
set_option linter.unusedVariables false
set_option linter.unusedSimpArgs false
theorem store_func (P : Program) (w : World) (a : Addr) (m : Mode) (f : Fn) (x y : Array Value) : (store a (.func f x y) m).run P w = stored P w a (.func f x y) m := Go.run_store P w a _ m rfl
attribute [local go_sem] store_func
theorem visit_main (a b g h : Nat) (hab : a < b) (hbg : b < g) (hgh : g < h) (n least : Int) (hn : 0 ≤ n ∧ n ≤ 17179869184) (w0 : World) (hg0 : w0.heap.size ≤ g) : ∀ (L : List S55), (∀ s ∈ L, 0 ≤ s.f0 ∧ s.f0 ≤ 17179869184 ∧ 0 ≤ s.f1 ∧ s.f1 ≤ 17179869184) →
  ∀ (A : Option Addr) (c : Nat) (f : Int) (O : List S55) (v : Value) (W : World), 0 ≤ f ∧ f ≤ 17179869184 → O.length + L.length < 65536 → Kd.C k55 w0 A L.length L → L.length ≤ c → Below g w0 W → VSt a b g h n least v O W →
   Calls Try.prog 52 #[.int .i64 f, .slice A L.length c, .pointer (some ⟨a, 0, none⟩), .pointer (some ⟨b, 0, none⟩), .pointer (some ⟨g, 0, none⟩), .pointer (some ⟨h, 0, none⟩)] W fun e W' => e = .returned (.tuple #[]) ∧ (∃ v', VSt a b g h n least v' (O ++ keepGo n least f L) W') ∧ Below g W W'
 | [], _, A, c, f, O, v, W, hf, hO, _, _, _, hV => visit_nil a b g h hab hbg hgh n least hn A c f hf O (by simpa using hO) v W hV
 | s :: q, hv, A, c, f, O, v, W, hf, hO, hC, hc, hb, hV =>
  visit_cons a b g h hab hbg hgh n least hn w0 hg0 s q (hv s (by simp)) (visit_main a b g h hab hbg hgh n least hn w0 hg0 q (fun t ht => hv t (by simp [ht]))) A c f hf O hO v W hC hc hb hV
def splice_Keep.f (a0 : Int) (l1 : List S55) (a2 : Int) : Option (List S55 × Int) := some (keepOf a0 l1 a2)
theorem or4 {p q r s : Bool} (h : (p || (q || (r || s))) = true) : p = true ∨ p = false ∧ (q = true ∨ q = false ∧ (r = true ∨ r = false ∧ s = true)) := by
 cases p <;> cases q <;> cases r <;> cases s <;> simp_all
set_option maxRecDepth 100000 in
set_option maxHeartbeats 16000000 in
theorem keep_wide (n : Int) (A0 : Option Addr) (c0 : Nat) (bad : List S55) (least : Int) (w : World) (hw : wide n least) :
  Calls Try.prog 33 #[.int .i64 n, .slice A0 bad.length c0, .int .i64 least] w fun e w' => ∃ v, e = .returned (.tuple #[v, .int .i64 1]) ∧ Kd.R k55 55 w' w.heap.size (fun _ => True) v [] ∧ Below w.heap.size w w' := by
 have HB := Aside0.mk (((Below.refl w.heap.size w).alloc (Nat.le_refl _) (.cells #[.int .i64 n] 3)).alloc (by rw [World.size_alloc]; omega) (.cells #[.int .i64 least] 3))
 unfold wide at hw
 have hx : (decide (n < 0) || (decide (17179869184 < n) || (decide (least < 1) || decide (17179869184 < least)))) = true := by simpa using hw
 clear hw
 rcases or4 hx with h1 | ⟨h1, h2 | ⟨h2, h3 | ⟨h3, h4⟩⟩⟩
 ·clear hx
  go_enter Try.func33, Try.ntmps33
  go_wp2
  refine bodyPost_ret (results_tmp2 rfl _ _ _) rfl ?_
  exact ⟨_, rfl, Kd.R_nil _ _ _ _ _, HB.out⟩
 ·clear hx
  go_enter Try.func33, Try.ntmps33
  go_wp2
  refine bodyPost_ret (results_tmp2 rfl _ _ _) rfl ?_
  exact ⟨_, rfl, Kd.R_nil _ _ _ _ _, HB.out⟩
 ·clear hx
  go_enter Try.func33, Try.ntmps33
  go_wp2
  refine bodyPost_ret (results_tmp2 rfl _ _ _) rfl ?_
  exact ⟨_, rfl, Kd.R_nil _ _ _ _ _, HB.out⟩
 ·clear hx
  go_enter Try.func33, Try.ntmps33
  go_wp2
  refine bodyPost_ret (results_tmp2 rfl _ _ _) rfl ?_
  exact ⟨_, rfl, Kd.R_nil _ _ _ _ _, HB.out⟩
theorem keep_start (n least : Int) (w w1 : World) (hlt : w.heap.size + 1 < ((w.alloc (.cells #[.int .i64 n] 3)).alloc (.cells #[.int .i64 least] 3)).heap.size) (hsz : ((w.alloc (.cells #[.int .i64 n] 3)).alloc (.cells #[.int .i64 least] 3)).heap.size ≤ w1.heap.size)
  (qa : w1.heap[w.heap.size]? = some (.cells #[.int .i64 n] 3 (0, 0))) (qb : w1.heap[w.heap.size + 1]? = some (.cells #[.int .i64 least] 3 (0, 0))) :
  VSt w.heap.size (w.heap.size + 1) w1.heap.size (w1.heap.size + 1) n least (.slice none 0 0) [] ((w1.alloc (.cells #[.slice none 0 0] 29)).alloc (.cells #[(.func (.func 52) #[] #[.pointer (some ⟨w.heap.size, 0, none⟩), .pointer (some ⟨w.heap.size + 1, 0, none⟩), .pointer (some ⟨w1.heap.size, 0, none⟩), .pointer (some ⟨w1.heap.size + 1, 0, none⟩)])] 70)) := by
 have qh := World.alloc_heap_new (w1.alloc (.cells #[.slice none 0 0] 29)) (.cells #[(.func (.func 52) #[] #[.pointer (some ⟨w.heap.size, 0, none⟩), .pointer (some ⟨w.heap.size + 1, 0, none⟩), .pointer (some ⟨w1.heap.size, 0, none⟩), .pointer (some ⟨w1.heap.size + 1, 0, none⟩)])] 70)
 rw [World.size_alloc] at qh
 exact ⟨blk_alloc (blk_alloc qa _) _, blk_alloc (blk_alloc qb _) _, blk_alloc (World.alloc_heap_new w1 _) _, qh, Kd.R_nil _ _ _ _ _⟩
set_option maxRecDepth 100000 in
set_option maxHeartbeats 16000000 in
theorem keep_main (n : Int) (A0 : Option Addr) (c0 : Nat) (bad : List S55) (least : Int) (w : World) (hr : Kd.C k55 w A0 bad.length bad) (hc : bad.length ≤ c0) (hw : ¬ wide n least) :
  Calls Try.prog 33 #[.int .i64 n, .slice A0 bad.length c0, .int .i64 least] w fun e w' => ∃ v, e = .returned (.tuple #[v, .int .i64 (keepOf n bad least).2]) ∧ Kd.R k55 55 w' w.heap.size (fun _ => True) v (keepOf n bad least).1 ∧ Below w.heap.size w w' := by
 have HB0 := Aside0.mk (((Below.refl w.heap.size w).alloc (Nat.le_refl _) (.cells #[.int .i64 n] 3)).alloc (by rw [World.size_alloc]; omega) (.cells #[.int .i64 least] 3))
 have HA0 := Aside0.mk (blk_alloc (World.alloc_heap_new w (.cells #[.int .i64 n] 3)) (.cells #[.int .i64 least] 3))
 have HE0 := Aside0.mk (World.alloc_heap_new (w.alloc (.cells #[.int .i64 n] 3)) (.cells #[.int .i64 least] 3))
 rw [World.size_alloc] at HE0
 have HR := Aside0.mk (Kd.C_below hr HB0.out)
 have HC := Aside0.mk hc
 have h1 : decide (n < 0) = false := decide_eq_false (fun h => hw (.inl h))
 have h2 : decide (17179869184 < n) = false := decide_eq_false (fun h => hw (.inr (.inl h)))
 have h3 : decide (least < 1) = false := decide_eq_false (fun h => hw (.inr (.inr (.inl h))))
 have h4 : decide (17179869184 < least) = false := decide_eq_false (fun h => hw (.inr (.inr (.inr h))))
 have hn : 0 ≤ n ∧ n ≤ 17179869184 := by unfold wide at hw; omega
 obtain ⟨kn, hkn⟩ := (norm_ends bad).get
 unfold keepOf
 rw [if_neg hw]
 clear hr hc hw
 by_cases hc : check04 bad = 0
 ·rw [norm_fits hc] at hkn
  have HKN := Aside0.mk hkn
  obtain ⟨j1, _, j3⟩ := joinOf_fit hc
  have hj := joinOf_few hc
  have hgl := keepGo_len n least (joinOf bad) 0
  have HJ := Aside0.mk (show ∀ s ∈ joinOf bad, 0 ≤ s.f0 ∧ s.f0 ≤ 17179869184 ∧ 0 ≤ s.f1 ∧ s.f1 ≤ 17179869184 from fun s hs => by have := j3 s hs; omega)
  rw [if_pos hc]
  clear hkn j1 j3 hc
  generalize joinOf bad = G at *
  by_cases hf : (keepGo n least 0 G).length > 256
  ·have hfb : decide (256 < ((keepGo n least 0 G).length : Int)) = true := decide_eq_true (by omega)
   rw [if_pos hf]
   go_enter Try.func33, Try.ntmps33
   go_wp2_with (first | (go_at_call 51; (with_reducible refine (span_Norm.calls kn A0 c0 bad G 0 _ HR.out HC.out HKN.out).mono ?_); rintro e w1 ⟨v1, rfl, ho1, hb1⟩; obtain ⟨A1, c1, e1⟩ := Kd.R_slice ho1; subst e1; have HB1 := Aside0.mk (below_then HB0.out HB0.out.size hb1); have HO1 := Aside0.mk (Kd.R_reads' ho1).2.2; have HC1 := Aside0.mk (Kd.R_reads' ho1).2.1; have hlt := blk_lt HE0.out; have hsz := hb1.size; have qa := blk_below HA0.out hb1; have qb := blk_below HE0.out hb1; have qh := World.alloc_heap_new (w1.alloc (.cells #[.slice none 0 0] 29)) (.cells #[.nilFunc] 70); rw [World.size_alloc] at qh; have hfz : ((w1.alloc (.cells #[.slice none 0 0] 29)).alloc (.cells #[.nilFunc] 70)).frozen? ⟨w1.heap.size + 1, 0, none⟩ = false := blk_frozen qh 0; have hhc : ((w1.alloc (.cells #[.slice none 0 0] 29)).alloc (.cells #[.nilFunc] 70)).cell? ⟨w1.heap.size + 1, 0, none⟩ = some .nilFunc := blk_cell qh 0; have HV := Aside0.mk (keep_start n least w w1 hlt hsz qa qb); have hch : ((w1.alloc (.cells #[.slice none 0 0] 29)).alloc (.cells #[(.func (.func 52) #[] #[.pointer (some ⟨w.heap.size, 0, none⟩), .pointer (some ⟨w.heap.size + 1, 0, none⟩), .pointer (some ⟨w1.heap.size, 0, none⟩), .pointer (some ⟨w1.heap.size + 1, 0, none⟩)])] 70)).cell? ⟨w1.heap.size + 1, 0, none⟩ = some (.func (.func 52) #[] #[.pointer (some ⟨w.heap.size, 0, none⟩), .pointer (some ⟨w.heap.size + 1, 0, none⟩), .pointer (some ⟨w1.heap.size, 0, none⟩), .pointer (some ⟨w1.heap.size + 1, 0, none⟩)]) := blk_cell HV.out.ch 0; have HBA := Aside0.mk (((Below.refl w1.heap.size w1).alloc (Nat.le_refl _) (.cells #[.slice none 0 0] 29)).alloc (by rw [World.size_alloc]; omega) (.cells #[(.func (.func 52) #[] #[.pointer (some ⟨w.heap.size, 0, none⟩), .pointer (some ⟨w.heap.size + 1, 0, none⟩), .pointer (some ⟨w1.heap.size, 0, none⟩), .pointer (some ⟨w1.heap.size + 1, 0, none⟩)])] 70)); have hlt1 : w.heap.size + 1 < w1.heap.size := (by omega); clear ho1 hb1 qa qb qh hlt hsz) | (go_at_call 52; (refine (visit_main w.heap.size (w.heap.size + 1) w1.heap.size (w1.heap.size + 1) (by omega) hlt1 (by omega) n least hn w1 (Nat.le_refl _) G HJ.out A1 c1 0 [] _ _ (by omega) (by simp; omega) HO1.out HC1.out HBA.out HV.out).mono ?_); rintro e w4 ⟨rfl, ⟨v4, hv4⟩, hb4⟩; rw [List.nil_append] at hv4; obtain ⟨A4, c4, e4⟩ := Kd.R_slice hv4.o; subst e4; have HV4 := Aside0.mk hv4; have hcg4 : w4.cell? ⟨w1.heap.size, 0, none⟩ = some (.slice A4 (keepGo n least 0 G).length c4) := blk_cell hv4.cg 0; have HB4 := Aside0.mk (HB1.out.trans ((HBA.out.trans hb4).mono (show w.heap.size ≤ w1.heap.size by omega))); clear hv4 hb4 hch))
   refine bodyPost_ret (results_tmp2 rfl _ _ _) rfl ?_
   exact ⟨_, rfl, Kd.R_nil _ _ _ _ _, HB4.out⟩
  ·have hfb : decide (256 < ((keepGo n least 0 G).length : Int)) = false := decide_eq_false (by omega)
   rw [if_neg hf]
   go_enter Try.func33, Try.ntmps33
   go_wp2_with (first | (go_at_call 51; (with_reducible refine (span_Norm.calls kn A0 c0 bad G 0 _ HR.out HC.out HKN.out).mono ?_); rintro e w1 ⟨v1, rfl, ho1, hb1⟩; obtain ⟨A1, c1, e1⟩ := Kd.R_slice ho1; subst e1; have HB1 := Aside0.mk (below_then HB0.out HB0.out.size hb1); have HO1 := Aside0.mk (Kd.R_reads' ho1).2.2; have HC1 := Aside0.mk (Kd.R_reads' ho1).2.1; have hlt := blk_lt HE0.out; have hsz := hb1.size; have qa := blk_below HA0.out hb1; have qb := blk_below HE0.out hb1; have qh := World.alloc_heap_new (w1.alloc (.cells #[.slice none 0 0] 29)) (.cells #[.nilFunc] 70); rw [World.size_alloc] at qh; have hfz : ((w1.alloc (.cells #[.slice none 0 0] 29)).alloc (.cells #[.nilFunc] 70)).frozen? ⟨w1.heap.size + 1, 0, none⟩ = false := blk_frozen qh 0; have hhc : ((w1.alloc (.cells #[.slice none 0 0] 29)).alloc (.cells #[.nilFunc] 70)).cell? ⟨w1.heap.size + 1, 0, none⟩ = some .nilFunc := blk_cell qh 0; have HV := Aside0.mk (keep_start n least w w1 hlt hsz qa qb); have hch : ((w1.alloc (.cells #[.slice none 0 0] 29)).alloc (.cells #[(.func (.func 52) #[] #[.pointer (some ⟨w.heap.size, 0, none⟩), .pointer (some ⟨w.heap.size + 1, 0, none⟩), .pointer (some ⟨w1.heap.size, 0, none⟩), .pointer (some ⟨w1.heap.size + 1, 0, none⟩)])] 70)).cell? ⟨w1.heap.size + 1, 0, none⟩ = some (.func (.func 52) #[] #[.pointer (some ⟨w.heap.size, 0, none⟩), .pointer (some ⟨w.heap.size + 1, 0, none⟩), .pointer (some ⟨w1.heap.size, 0, none⟩), .pointer (some ⟨w1.heap.size + 1, 0, none⟩)]) := blk_cell HV.out.ch 0; have HBA := Aside0.mk (((Below.refl w1.heap.size w1).alloc (Nat.le_refl _) (.cells #[.slice none 0 0] 29)).alloc (by rw [World.size_alloc]; omega) (.cells #[(.func (.func 52) #[] #[.pointer (some ⟨w.heap.size, 0, none⟩), .pointer (some ⟨w.heap.size + 1, 0, none⟩), .pointer (some ⟨w1.heap.size, 0, none⟩), .pointer (some ⟨w1.heap.size + 1, 0, none⟩)])] 70)); have hlt1 : w.heap.size + 1 < w1.heap.size := (by omega); clear ho1 hb1 qa qb qh hlt hsz) | (go_at_call 52; (refine (visit_main w.heap.size (w.heap.size + 1) w1.heap.size (w1.heap.size + 1) (by omega) hlt1 (by omega) n least hn w1 (Nat.le_refl _) G HJ.out A1 c1 0 [] _ _ (by omega) (by simp; omega) HO1.out HC1.out HBA.out HV.out).mono ?_); rintro e w4 ⟨rfl, ⟨v4, hv4⟩, hb4⟩; rw [List.nil_append] at hv4; obtain ⟨A4, c4, e4⟩ := Kd.R_slice hv4.o; subst e4; have HV4 := Aside0.mk hv4; have hcg4 : w4.cell? ⟨w1.heap.size, 0, none⟩ = some (.slice A4 (keepGo n least 0 G).length c4) := blk_cell hv4.cg 0; have HB4 := Aside0.mk (HB1.out.trans ((HBA.out.trans hb4).mono (show w.heap.size ≤ w1.heap.size by omega))); clear hv4 hb4 hch))
   refine bodyPost_ret (results_tmp2 rfl _ _ _) rfl ?_
   exact ⟨_, rfl, Kd.R_lower (Kd.R_mono HV4.out.o (fun _ _ => trivial)) (by omega), HB4.out⟩
 ·have e : bothOf bad [] 0 = ([], check04 bad) := by unfold bothOf; rw [if_neg hc]
  rw [e] at hkn
  have HKN := Aside0.mk hkn
  have hne : (check04 bad == 0) = false := by simpa using hc
  have hne1 : (check04 bad != 0) = true := by simpa using hc
  rw [if_neg hc]
  clear hkn hc e
  generalize check04 bad = q at *
  go_enter Try.func33, Try.ntmps33
  go_wp2_with (go_at_call 51; (with_reducible refine (span_Norm.calls kn A0 c0 bad [] q _ HR.out HC.out HKN.out).mono ?_); rintro e w1 ⟨v1, rfl, ho1, hb1⟩; have HB1 := Aside0.mk (below_then HB0.out HB0.out.size hb1); clear ho1 hb1)
  refine bodyPost_ret (results_tmp2 rfl _ _ _) rfl ?_
  exact ⟨_, rfl, Kd.R_nil _ _ _ _ _, HB1.out⟩
theorem splice_Keep.calls (a0 : Int) (A0 : Option Addr) (c0 : Nat) (l1 : List (S55)) (a2 : Int) (r1 : List (S55)) (r2 : Int) (w : World) (hr0 : Kd.C k55 w A0 l1.length l1) (hc0 : l1.length ≤ c0) (h : splice_Keep.f a0 l1 a2 = some (r1, r2)) :
  Calls Try.prog 33 #[.int .i64 a0, .slice A0 l1.length c0, .int .i64 a2] w fun e w' => ∃ v0_ : Value, e = .returned (.tuple #[v0_, .int .i64 r2]) ∧ Kd.R k55 55 w' w.heap.size (fun _ => True) v0_ r1 ∧ Below w.heap.size w w' := by
 have e : keepOf a0 l1 a2 = (r1, r2) := Option.some.inj h
 by_cases hw : wide a0 a2
 ·have e2 : keepOf a0 l1 a2 = ([], 1) := by unfold keepOf; rw [if_pos hw]
  rw [e2] at e
  obtain ⟨rfl, rfl⟩ := Prod.mk.inj e
  exact keep_wide a0 A0 c0 l1 a2 w hw
 ·have := keep_main a0 A0 c0 l1 a2 w hr0 hc0 hw
  rw [e] at this
  exact this
end Go.Proofs.Ytalpegglbfobiaa.G

namespace Go.Proofs.Ytalpegglbfobiaa.G
open Go.RowKit Go.Proofs.YtalpegglbfobiaaW.PrintWords Go.Proofs.YtalpegglbfobiaaW.PrintLast Go.Proofs.YtalpegglbfobiaaW.PrintMore
attribute [local go_sem] max2_int min2_int max_two min_two max_three min_three max_four min_four   -- for this text's walks alone
set_option linter.unusedVariables false
set_option linter.unusedSimpArgs false

def rewind_Cull.f (k : Nat) (a0 : Int) (l1 : List (S55)) (a2 : Int) : Option ((List (S44)) × Int) := (splice_Keep.f a0 l1 a2).bind fun bt16001 => (if bt16001.2 = 0 then (if (bt16001.1.length : Int) = 0 then (some (([] : List (S44)), 10)) else ((splice_Runs.f k bt16001.1).bind fun bt16005 => (if bt16005.2 = 0 then ((iso_Reverse.f bt16005.1).bind fun bt16009 => (some (bt16009.1, bt16009.2))) else (some (([] : List (S44)), bt16005.2))))) else (some (([] : List (S44)), bt16001.2)))
set_option maxHeartbeats 8000000 in
set_option maxRecDepth 100000 in
theorem rewind_Cull.calls (k : Nat) (a0 : Int) (A1 : Option Addr) (c1 : Nat) (l1 : List (S55)) (a2 : Int) (r1 : List (S44)) (r2 : Int) (w : World) (hr1 : Kd.C k55 w A1 l1.length l1) (hc1 : l1.length ≤ c1) (h : rewind_Cull.f k a0 l1 a2 = some (r1, r2)) :
  Calls Try.prog 15 #[.int .i64 a0, .slice A1 l1.length c1, .int .i64 a2] w fun e w' => ∃ v0_ : Value, e = .returned (.tuple #[v0_, .int .i64 r2]) ∧ Kd.R k44 44 w' w.heap.size (fun _ => True) v0_ r1 ∧ Below w.heap.size w w' := by
 have HR1 := Aside0.mk hr1
 have HC1 := Aside0.mk hc1
 clear hr1 hc1
 have HB := Aside0.mk (Below.refl w.heap.size w)
 have H : ((splice_Keep.f a0 l1 a2).bind fun bt16001 => (if bt16001.2 = 0 then (if (bt16001.1.length : Int) = 0 then (some (([] : List (S44)), 10)) else ((splice_Runs.f k bt16001.1).bind fun bt16005 => (if bt16005.2 = 0 then ((iso_Reverse.f bt16005.1).bind fun bt16009 => (some (bt16009.1, bt16009.2))) else (some (([] : List (S44)), bt16005.2))))) else (some (([] : List (S44)), bt16001.2)))) = some (r1, r2) := h
 clear h
 replace H := Option.bind_eq_some_iff.mp H
 obtain ⟨⟨t16001, t16002⟩, A40, H⟩ := H
 try dsimp only at H
 have A4 := Aside0.mk A40
 clear A40
 by_cases c5 : t16002 = 0
 ·rw [if_pos c5] at H
  have c5b0 : (t16002 == 0) = true := beq_iff_eq.mpr c5
  have c5b1 : (t16002 != 0) = false := bne_eq_false_iff_eq.mpr c5
  clear c5
  by_cases c6 : (t16001.length : Int) = 0
  ·rw [if_pos c6] at H
   have c6b0 : ((t16001.length : Int) == 0) = true := beq_iff_eq.mpr c6
   have c6b1 : ((t16001.length : Int) != 0) = false := bne_eq_false_iff_eq.mpr c6
   clear c6
   simp only [Option.some.injEq, Prod.mk.injEq] at H
   obtain ⟨rfl, rfl⟩ := H
   go_enter Try.func15, Try.ntmps15
   go_wp2_with (first | ((with_reducible refine gate_callee (f := 33) rfl ?_); refine goesL_ (some 15) rfl rfl Try.func33 (by kernel_rfl) rfl #[.int .i64 a0, .slice A1 l1.length c1, .int .i64 a2] rfl (by (try simp only [List.map_toArray, List.map_cons, List.map_nil]); first | done | rfl | (simp only [List.length_drop, List.length_take]; rfl)) ?_; (with_reducible refine (splice_Keep.calls a0 _ _ l1 a2 t16001 t16002 _ ?side1 ?side2 A4.out).mono ?_); (case side1 => exact HR1.out); (case side2 => exact HC1.out); rintro e w7 ⟨v16003, rfl, ho0, hb⟩; refine ⟨_, rfl, ?_⟩; have HO16004 := Aside0.mk (Kd.R_lower ho0 (below_size (by repeat (first | exact HB.out | apply below_alloc | apply pw_below_drewN | apply below_drew1)))); replace HB := Aside0.mk (below_step (by repeat (first | exact HB.out | apply below_alloc | apply pw_below_drewN | apply below_drew1)) hb); (try clear hb); (try clear hb2); (try clear hk); (try clear hi); (try clear ho0); obtain ⟨Ao8, co8, eo8⟩ := Kd.R_slice HO16004.out; subst eo8))
   go_ret2
   exact ⟨_, by first | rfl | (simp [errW_none, errW_some] <;> rfl) | (simp [*, errW_none, errW_some] <;> rfl), by first | exact Kd.R_nil _ _ _ _ _ | exact Kd.N_nil _ _ _ _ _ | exact Kd.V_nil _ _ _ _ _ | exact Kd.Q_nil _ _ _ _ _ | exact Kd.S_nil _ _ _ _ _, by repeat (first | exact HB.out | apply below_alloc | apply pw_below_drewN | apply below_drew1)⟩
  ·rw [if_neg c6] at H
   have c6b0 : ((t16001.length : Int) == 0) = false := beq_eq_false_iff_ne.mpr c6
   have c6b1 : ((t16001.length : Int) != 0) = true := bne_iff_ne.mpr c6
   have c6b2 : ¬ (t16001 = []) := fun h_ => c6 (by rw [h_]; rfl)
   replace H := Option.bind_eq_some_iff.mp H
   obtain ⟨⟨t16005, t16006⟩, A90, H⟩ := H
   try dsimp only at H
   have A9 := Aside0.mk A90
   clear A90
   by_cases c10 : t16006 = 0
   ·rw [if_pos c10] at H
    have c10b0 : (t16006 == 0) = true := beq_iff_eq.mpr c10
    have c10b1 : (t16006 != 0) = false := bne_eq_false_iff_eq.mpr c10
    clear c10
    replace H := Option.bind_eq_some_iff.mp H
    obtain ⟨⟨t16009, t16010⟩, A110, H⟩ := H
    try dsimp only at H
    have A11 := Aside0.mk A110
    clear A110
    simp only [Option.some.injEq, Prod.mk.injEq] at H
    obtain ⟨rfl, rfl⟩ := H
    go_enter Try.func15, Try.ntmps15
    go_wp2_with (first | ((with_reducible refine gate_callee (f := 33) rfl ?_); refine goesL_ (some 15) rfl rfl Try.func33 (by kernel_rfl) rfl #[.int .i64 a0, .slice A1 l1.length c1, .int .i64 a2] rfl (by (try simp only [List.map_toArray, List.map_cons, List.map_nil]); first | done | rfl | (simp only [List.length_drop, List.length_take]; rfl)) ?_; (with_reducible refine (splice_Keep.calls a0 _ _ l1 a2 t16001 t16002 _ ?side1 ?side2 A4.out).mono ?_); (case side1 => exact HR1.out); (case side2 => exact HC1.out); rintro e w12 ⟨v16003, rfl, ho0, hb⟩; refine ⟨_, rfl, ?_⟩; have HO16004 := Aside0.mk (Kd.R_lower ho0 (below_size (by repeat (first | exact HB.out | apply below_alloc | apply pw_below_drewN | apply below_drew1)))); replace HB := Aside0.mk (below_step (by repeat (first | exact HB.out | apply below_alloc | apply pw_below_drewN | apply below_drew1)) hb); (try clear hb); (try clear hb2); (try clear hk); (try clear hi); (try clear ho0); obtain ⟨Ao13, co13, eo13⟩ := Kd.R_slice HO16004.out; subst eo13) | ((with_reducible refine gate_callee (f := 34) rfl ?_); refine goesL_ (some 26) rfl rfl Try.func34 (by kernel_rfl) rfl #[.slice Ao13 t16001.length co13] rfl (by (try simp only [List.map_toArray, List.map_cons, List.map_nil]); first | done | rfl | (simp only [List.length_drop, List.length_take]; rfl)) ?_; (with_reducible refine (splice_Runs.calls k _ _ t16001 t16005 t16006 _ ?side1 ?side2 A9.out).mono ?_); (case side1 => exact (Kd.R_reads' HO16004.out).2.2); (case side2 => exact (Kd.R_reads' HO16004.out).2.1); rintro e w14 ⟨v16007, rfl, ho0, hb⟩; refine ⟨_, rfl, ?_⟩; replace HO16004 := Aside0.mk (Kd.R_below (HO16004.out) hb); have HO16008 := Aside0.mk (Kd.R_lower ho0 (below_size (by repeat (first | exact HB.out | apply below_alloc | apply pw_below_drewN | apply below_drew1)))); replace HB := Aside0.mk (below_step (by repeat (first | exact HB.out | apply below_alloc | apply pw_below_drewN | apply below_drew1)) hb); (try clear hb); (try clear hb2); (try clear hk); (try clear hi); (try clear ho0); obtain ⟨Ao15, co15, eo15⟩ := Kd.R_slice HO16008.out; subst eo15) | ((with_reducible refine gate_callee (f := 35) rfl ?_); refine goesL_ (some 33) rfl rfl Try.func35 (by kernel_rfl) rfl #[.slice Ao15 t16005.length co15] rfl (by (try simp only [List.map_toArray, List.map_cons, List.map_nil]); first | done | rfl | (simp only [List.length_drop, List.length_take]; rfl)) ?_; (with_reducible refine (iso_Reverse.calls _ _ t16005 t16009 t16010 _ ?side1 ?side2 A11.out).mono ?_); (case side1 => exact (Kd.R_reads' HO16008.out).2.2); (case side2 => exact (Kd.R_reads' HO16008.out).2.1); rintro e w16 ⟨v16011, rfl, ho0, hb⟩; refine ⟨_, rfl, ?_⟩; replace HO16004 := Aside0.mk (Kd.R_below (HO16004.out) hb); have HO16012 := Aside0.mk (Kd.R_lower (Kd.R_new' ho0 (Kd.R_lt (HO16008.out))) (below_size (by repeat (first | exact HB.out | apply below_alloc | apply pw_below_drewN | apply below_drew1)))); replace HO16008 := Aside0.mk (Kd.R_elder' (HO16008.out) (Kd.R_base ho0) hb); replace HB := Aside0.mk (below_step (by repeat (first | exact HB.out | apply below_alloc | apply pw_below_drewN | apply below_drew1)) hb); (try clear hb); (try clear hb2); (try clear hk); (try clear hi); (try clear ho0)))
    go_ret2
    exact ⟨_, by first | rfl | (simp [errW_none, errW_some] <;> rfl) | (simp [*, errW_none, errW_some] <;> rfl), by exact Kd.R_mono HO16012.out (fun _ hk => trivial), by repeat (first | exact HB.out | apply below_alloc | apply pw_below_drewN | apply below_drew1)⟩
   ·rw [if_neg c10] at H
    have c10b0 : (t16006 == 0) = false := beq_eq_false_iff_ne.mpr c10
    have c10b1 : (t16006 != 0) = true := bne_iff_ne.mpr c10
    simp only [Option.some.injEq, Prod.mk.injEq] at H
    obtain ⟨rfl, rfl⟩ := H
    go_enter Try.func15, Try.ntmps15
    go_wp2_with (first | ((with_reducible refine gate_callee (f := 33) rfl ?_); refine goesL_ (some 15) rfl rfl Try.func33 (by kernel_rfl) rfl #[.int .i64 a0, .slice A1 l1.length c1, .int .i64 a2] rfl (by (try simp only [List.map_toArray, List.map_cons, List.map_nil]); first | done | rfl | (simp only [List.length_drop, List.length_take]; rfl)) ?_; (with_reducible refine (splice_Keep.calls a0 _ _ l1 a2 t16001 t16002 _ ?side1 ?side2 A4.out).mono ?_); (case side1 => exact HR1.out); (case side2 => exact HC1.out); rintro e w17 ⟨v16003, rfl, ho0, hb⟩; refine ⟨_, rfl, ?_⟩; have HO16004 := Aside0.mk (Kd.R_lower ho0 (below_size (by repeat (first | exact HB.out | apply below_alloc | apply pw_below_drewN | apply below_drew1)))); replace HB := Aside0.mk (below_step (by repeat (first | exact HB.out | apply below_alloc | apply pw_below_drewN | apply below_drew1)) hb); (try clear hb); (try clear hb2); (try clear hk); (try clear hi); (try clear ho0); obtain ⟨Ao18, co18, eo18⟩ := Kd.R_slice HO16004.out; subst eo18) | ((with_reducible refine gate_callee (f := 34) rfl ?_); refine goesL_ (some 26) rfl rfl Try.func34 (by kernel_rfl) rfl #[.slice Ao18 t16001.length co18] rfl (by (try simp only [List.map_toArray, List.map_cons, List.map_nil]); first | done | rfl | (simp only [List.length_drop, List.length_take]; rfl)) ?_; (with_reducible refine (splice_Runs.calls k _ _ t16001 t16005 t16006 _ ?side1 ?side2 A9.out).mono ?_); (case side1 => exact (Kd.R_reads' HO16004.out).2.2); (case side2 => exact (Kd.R_reads' HO16004.out).2.1); rintro e w19 ⟨v16007, rfl, ho0, hb⟩; refine ⟨_, rfl, ?_⟩; replace HO16004 := Aside0.mk (Kd.R_below (HO16004.out) hb); have HO16008 := Aside0.mk (Kd.R_lower ho0 (below_size (by repeat (first | exact HB.out | apply below_alloc | apply pw_below_drewN | apply below_drew1)))); replace HB := Aside0.mk (below_step (by repeat (first | exact HB.out | apply below_alloc | apply pw_below_drewN | apply below_drew1)) hb); (try clear hb); (try clear hb2); (try clear hk); (try clear hi); (try clear ho0)))
    go_ret2
    exact ⟨_, by first | rfl | (simp [errW_none, errW_some] <;> rfl) | (simp [*, errW_none, errW_some] <;> rfl), by first | exact Kd.R_nil _ _ _ _ _ | exact Kd.N_nil _ _ _ _ _ | exact Kd.V_nil _ _ _ _ _ | exact Kd.Q_nil _ _ _ _ _ | exact Kd.S_nil _ _ _ _ _, by repeat (first | exact HB.out | apply below_alloc | apply pw_below_drewN | apply below_drew1)⟩
 ·rw [if_neg c5] at H
  have c5b0 : (t16002 == 0) = false := beq_eq_false_iff_ne.mpr c5
  have c5b1 : (t16002 != 0) = true := bne_iff_ne.mpr c5
  simp only [Option.some.injEq, Prod.mk.injEq] at H
  obtain ⟨rfl, rfl⟩ := H
  go_enter Try.func15, Try.ntmps15
  go_wp2_with (first | ((with_reducible refine gate_callee (f := 33) rfl ?_); refine goesL_ (some 15) rfl rfl Try.func33 (by kernel_rfl) rfl #[.int .i64 a0, .slice A1 l1.length c1, .int .i64 a2] rfl (by (try simp only [List.map_toArray, List.map_cons, List.map_nil]); first | done | rfl | (simp only [List.length_drop, List.length_take]; rfl)) ?_; (with_reducible refine (splice_Keep.calls a0 _ _ l1 a2 t16001 t16002 _ ?side1 ?side2 A4.out).mono ?_); (case side1 => exact HR1.out); (case side2 => exact HC1.out); rintro e w20 ⟨v16003, rfl, ho0, hb⟩; refine ⟨_, rfl, ?_⟩; have HO16004 := Aside0.mk (Kd.R_lower ho0 (below_size (by repeat (first | exact HB.out | apply below_alloc | apply pw_below_drewN | apply below_drew1)))); replace HB := Aside0.mk (below_step (by repeat (first | exact HB.out | apply below_alloc | apply pw_below_drewN | apply below_drew1)) hb); (try clear hb); (try clear hb2); (try clear hk); (try clear hi); (try clear ho0)))
  go_ret2
  exact ⟨_, by first | rfl | (simp [errW_none, errW_some] <;> rfl) | (simp [*, errW_none, errW_some] <;> rfl), by first | exact Kd.R_nil _ _ _ _ _ | exact Kd.N_nil _ _ _ _ _ | exact Kd.V_nil _ _ _ _ _ | exact Kd.Q_nil _ _ _ _ _ | exact Kd.S_nil _ _ _ _ _, by repeat (first | exact HB.out | apply below_alloc | apply pw_below_drewN | apply below_drew1)⟩

end Go.Proofs.Ytalpegglbfobiaa.G

namespace Go.Proofs.Ytalpegglbfobiaa.G
open Go.RowKit Go.Proofs.YtalpegglbfobiaaW.PrintWords Go.Proofs.YtalpegglbfobiaaW.PrintLast Go.Proofs.YtalpegglbfobiaaW.PrintMore
set_option linter.unusedVariables false
set_option linter.unusedSimpArgs false
theorem long_is (n : Int) : rewind_long.f n = some (decide (long n)) := by
 unfold rewind_long.f long
 by_cases h : n ≥ 1
 ·rw [if_pos h]; congr 1; exact decide_eq_decide.mpr (by omega)
 ·rw [if_neg h]; congr 1; exact (decide_eq_false (by omega)).symm
theorem back_is (a n : Int) : rewind_back.f a n = some [backR a n] := rfl
theorem whole_is (n : Int) : rewind_Whole.f n = some (wholeOf n) := by
 unfold rewind_Whole.f wholeOf
 rw [long_is, Option.bind_some]
 by_cases h : long n
 ·rw [if_pos (by simpa using h), if_pos h, back_is, Option.bind_some]
  unfold long at h
  rw [show wrap64 (n - 1) = n - 1 by unfold wrap64; omega]
 ·rw [if_neg (by simpa using h), if_neg h]
theorem runs_kept (n : Int) (bad : List S55) (least : Int) (h : (keepOf n bad least).2 = 0) : runsOf (keepOf n bad least).1 = ((keepOf n bad least).1.map runS, 0) := by
 obtain ⟨h1, h2, h3, h4⟩ := keep_split n bad least h
 unfold runsOf
 rw [if_pos (h4.check h1), if_pos (h4.join h1)]
theorem cull_ends (n : Int) (bad : List S55) (least : Int) : Ends (fun k => rewind_Cull.f k n bad least) (cullOf n bad least) := by
 unfold rewind_Cull.f cullOf
 simp only [splice_Keep.f, iso_Reverse.f, Option.bind_some]
 by_cases h : (keepOf n bad least).2 = 0
 ·rw [if_pos h]
  refine Ends.pos h ?_
  by_cases h0 : (keepOf n bad least).1 = []
  ·rw [if_pos h0]
   exact Ends.pos (by rw [h0]; rfl) (Ends.ret _)
  ·rw [if_neg h0]
   refine Ends.neg (fun e => h0 (List.length_eq_zero_iff.1 (by omega))) (Ends.bind ((sruns_ends _).congr (runs_kept n bad least h)) ?_)
   exact Ends.pos rfl (Ends.ret _)
 ·rw [if_neg h]
  exact Ends.neg h (Ends.ret _)
theorem split_l1 (l : List Int) (hl : l.length ≤ 512) (hv : ∀ x ∈ l, long x) : ∀ (d i : Nat) (n : Int) (o : List (List S44)), l.length - i = d → i ≤ l.length → o.length ≤ i → 0 ≤ n → n ≤ 17179869184 → Ends (fun k => rewind_Split.l1 k o n l (l.length : Int) (i : Int)) (if sumI (l.drop i) > n then ([], 21) else (o ++ splitGo n (l.drop i), 0)) := by
 intro d
 induction d with
 | zero =>
  intro i n o hd hi ho h0 h1
  refine Ends.succ ?_
  simp only [rewind_Split.l1]
  rw [List.drop_of_length_le (by omega), if_neg (by simp [sumI]; omega)]
  exact Ends.neg (by omega) ((Ends.ret _).congr (by simp [splitGo]))
 | succ d ih =>
  intro i n o hd hi ho h0 h1
  refine Ends.succ ?_
  have hx := hv (rd l (i : Int)) (by rw [rdI l i (by omega)]; exact List.getElem_mem _)
  have hs := sumI_pos (l.drop (i + 1)) (fun y hy => hv y (List.mem_of_mem_drop hy))
  rw [dropI l i (by omega), sumI_cons]
  unfold long at hx
  simp only [rewind_Split.l1, wrap_nat i (by omega), back_is, Option.bind_some, splitGo]
  generalize rd l (i : Int) = x at *
  have hw : wrap64 (n - 1) = n - 1 := by unfold wrap64; omega
  have hw2 : wrap64 (n - x) = n - x := by unfold wrap64; omega
  rw [hw, hw2]
  refine Ends.pos (by omega) (Ends.pos (by omega) (Ends.pos (by omega) ?_))
  by_cases h : x > n
  ·rw [if_pos (by omega)]
   exact Ends.pos h (Ends.ret _)
  ·refine Ends.neg h (Ends.pos (by omega) ((ih (i + 1) (n - x) (o ++ [[backR (n - 1) x]]) (by omega) (by omega) (by simp; omega) (by omega) (by omega)).congr ?_))
   by_cases hk : sumI (l.drop (i + 1)) > n - x
   ·rw [if_pos hk, if_pos (by omega)]
   ·rw [if_neg hk, if_neg (by omega), List.append_assoc]
    rfl
theorem split_l0 (n : Int) (hn : long n) (l : List Int) (hl : l.length ≤ 512) : ∀ (d i : Nat), l.length - i = d → i ≤ l.length → (∀ x ∈ l.take i, long x) → Ends (fun k => rewind_Split.l0 k n l l (l.length : Int) (i : Int)) (if ∀ x ∈ l, long x then (if sumI l > n then ([], 21) else (splitGo n l, 0)) else ([], 1)) := by
 intro d
 induction d with
 | zero =>
  intro i hd hi hv
  refine Ends.succ ?_
  simp only [rewind_Split.l0]
  rw [List.take_of_length_le (by omega)] at hv
  rw [if_pos hv]
  unfold long at hn
  exact Ends.neg (by omega) ((split_l1 l hl hv _ 0 n [] rfl (by omega) (by simp) (by omega) (by omega)).congr (by simp))
 | succ d ih =>
  intro i hd hi hv
  refine Ends.succ ?_
  simp only [rewind_Split.l0, wrap_nat i (by omega), long_is, Option.bind_some]
  have hsn : l.take (i + 1) = l.take i ++ [rd l (i : Int)] := by rw [List.take_succ_eq_append_getElem (by omega), rdI l i (by omega)]
  have hmem : rd l (i : Int) ∈ l := by rw [rdI l i (by omega)]; exact List.getElem_mem _
  refine Ends.pos (by omega) (Ends.pos (by omega) (Ends.pos (by omega) ?_))
  by_cases h : long (rd l (i : Int))
  ·refine Ends.pos (by simpa using h) (ih (i + 1) (by omega) (by omega) (fun x hx => ?_))
   rw [hsn] at hx
   rcases List.mem_append.mp hx with hx | hx
   ·exact hv x hx
   ·rw [List.mem_singleton.mp hx]; exact h
  ·rw [if_neg (fun hh => h (hh _ hmem))]
   exact Ends.neg (by simpa using h) (Ends.ret _)
theorem split_ends (n : Int) (l : List Int) : Ends (fun k => rewind_Split.f k n l) (splitOf n l) := by
 unfold rewind_Split.f splitOf
 simp only [long_is, Option.bind_some]
 by_cases h : long n
 ·rw [if_pos h]
  refine Ends.pos (by simpa using h) ?_
  by_cases h0 : l = []
  ·rw [if_pos h0]
   exact Ends.pos (by rw [h0]; rfl) (Ends.ret _)
  ·rw [if_neg h0]
   refine Ends.neg (fun e => h0 (List.length_eq_zero_iff.1 (by omega))) ?_
   by_cases h1 : l.length > 512
   ·rw [if_pos h1]
    exact Ends.pos (by omega) (Ends.ret _)
   ·rw [if_neg h1]
    exact Ends.neg (by omega) (split_l0 n h l (by omega) _ 0 rfl (by omega) (by simp))
 ·rw [if_neg h]
  exact Ends.neg (by simpa using h) (Ends.ret _)
theorem composed_l0 (l : List (List S44)) (hl : l.length ≤ 1000) : ∀ (i : Nat) (m : List S44) (e : Int), i ≤ l.length → Ends (fun k => rewind_composed.l0 k l m e ((i : Int) - 1)) (if e = 0 then aftGo (l.take i).reverse m else ([], e)) := by
 intro i
 induction i with
 | zero =>
  intro m e hi
  refine Ends.succ ?_
  simp only [rewind_composed.l0]
  refine Ends.neg (by omega) ?_
  by_cases he : e = 0
  ·exact Ends.pos he ((Ends.ret _).congr (by rw [if_pos he]; rfl))
  ·exact Ends.neg he ((Ends.ret _).congr (by rw [if_neg he]))
 | succ i ih =>
  intro m e hi
  refine Ends.succ ?_
  have hw : wrap64 ((i : Int) - 1) = (i : Int) - 1 := by unfold wrap64; omega
  rw [show ((i + 1 : Nat) : Int) - 1 = (i : Int) by omega]
  simp only [rewind_composed.l0, iso_Compose.f, Option.bind_some, hw]
  refine Ends.pos (by omega) ?_
  by_cases he : e = 0
  ·refine Ends.pos he (Ends.pos (by omega) (Ends.pos (by omega) ((ih _ _ (by omega)).congr ?_)))
   rw [if_pos he, takeR6 l i (by omega)]
   rfl
  ·exact Ends.neg he ((Ends.ret _).congr (by rw [if_neg he]))
theorem composed_ends (l : List (List S44)) (hl : l.length ≤ 1000) (h0 : l ≠ []) (hc : badGo l = 0) : Ends (fun k => rewind_composed.f k l) (composedOf l) := by
 have h1 : 0 < l.length := (Nat.pos_of_ne_zero fun e => h0 (List.length_eq_zero_iff.1 e))
 have hw : wrap64 ((l.length : Int) - 1) = ((l.length - 1 : Nat) : Int) := by unfold wrap64; omega
 have hw2 : wrap64 (((l.length - 1 : Nat) : Int) - 1) = ((l.length - 1 : Nat) : Int) - 1 := by unfold wrap64; omega
 have hm := badGo_zero l hc (rd_L6 l ((l.length - 1 : Nat) : Int)) (by rw [rdL6 l _ (by omega)]; exact List.getElem_mem _)
 have hn : normOf (rd_L6 l ((l.length - 1 : Nat) : Int)) = (nrm (sem (rd_L6 l ((l.length - 1 : Nat) : Int))), 0) := by unfold normOf; rw [if_pos hm]
 unfold rewind_composed.f
 simp only [hw, iso_Norm.f, Option.bind_some, hn, hw2]
 refine Ends.pos (by omega) (Ends.pos (by omega) ((composed_l0 l hl (l.length - 1) _ 0 (by omega)).congr ?_))
 rw [if_pos rfl, composed_at l h0]
theorem after_l0 (l : List (List S44)) (hl : l.length ≤ 16) : ∀ (d i : Nat), l.length - i = d → i ≤ l.length → badGo l = badGo (l.drop i) → Ends (fun k => rewind_After.l0 k l l (l.length : Int) (i : Int)) (if badGo l = 0 then composedOf l else ([], badGo l)) := by
 intro d
 induction d with
 | zero =>
  intro i hd hi hb
  refine Ends.succ ?_
  simp only [rewind_After.l0]
  rw [List.drop_of_length_le (by omega)] at hb
  have hb : badGo l = 0 := hb
  rw [if_pos hb]
  refine Ends.neg (by omega) ?_
  by_cases h0 : l = []
  ·subst h0
   exact Ends.pos (by rfl) (Ends.ret _)
  ·exact Ends.neg (fun e => h0 (List.length_eq_zero_iff.1 (by omega))) (Ends.bind (composed_ends l (by omega) h0 hb) (Ends.ret _))
 | succ d ih =>
  intro i hd hi hb
  refine Ends.succ ?_
  rw [dropL6 l i (by omega)] at hb
  simp only [rewind_After.l0, wrap_nat i (by omega)]
  refine Ends.pos (by omega) (Ends.pos (by omega) (Ends.pos (by omega) (Ends.bind (icheck_ends _) ?_)))
  rw [show badGo (rd_L6 l (i : Int) :: l.drop (i + 1)) = if check13 (rd_L6 l (i : Int)) = 0 then badGo (l.drop (i + 1)) else check13 (rd_L6 l (i : Int)) from rfl] at hb
  by_cases h : check13 (rd_L6 l (i : Int)) = 0
  ·rw [if_pos h] at hb
   exact Ends.pos h (ih (i + 1) (by omega) (by omega) hb)
  ·rw [if_neg h] at hb
   rw [hb, if_neg h]
   exact Ends.neg h (Ends.ret _)
theorem after_ends (l : List (List S44)) : Ends (fun k => rewind_After.f k l) (afterOf l) := by
 unfold rewind_After.f afterOf
 by_cases h : l.length > 16
 ·rw [if_pos h]; exact Ends.pos (by omega) (Ends.ret _)
 ·rw [if_neg h]; exact Ends.neg (by omega) (after_l0 l (by omega) _ 0 rfl (by omega) rfl)
theorem iLen3_ends (l : List S44) : Ends (fun k => iso_Length.f k l) (if check13 l = 0 then (tot13 l, 0) else (0, check13 l)) := by
 unfold iso_Length.f
 refine Ends.bind (icheck_ends l) ?_
 by_cases h : check13 l = 0
 ·obtain ⟨hl, hg, _⟩ := check13_zero h
  rw [if_pos h]
  exact Ends.pos h (Ends.bind (ilength_ends l (by omega) (fun r hr => by have := fit_of (hg r hr); unfold fitR at this; omega)) (Ends.ret _))
 ·rw [if_neg h]
  exact Ends.neg h (Ends.ret _)
theorem backw_ends (m : List S44) : Ends (fun k => rewind_Backwards.f k m) (backwOf m) := by
 unfold rewind_Backwards.f
 refine Ends.bind (iLen3_ends m) ?_
 by_cases h : check13 m = 0
 ·have e : backwOf m = if m = [] then (false, 10) else (decide ((atOf13 m 0).1 > (atOf13 m (tot13 m - 1)).1), 0) := by unfold backwOf; rw [if_pos h]
  rw [if_pos h, e]
  refine Ends.pos rfl ?_
  by_cases h0 : m = []
  ·rw [if_pos h0]
   exact Ends.pos (by rw [h0]; rfl) (Ends.ret _)
  ·rw [if_neg h0]
   have ht := (check13_zero h).2.2
   have ht0 := tot_nonneg h
   have hw : wrap64 (tot13 m - 1) = tot13 m - 1 := by unfold wrap64; omega
   simp only [iso_At.f, Option.bind_some, hw]
   exact Ends.neg (fun e => h0 (List.length_eq_zero_iff.1 (by omega))) (Ends.ret _)
 ·have e : backwOf m = (false, check13 m) := by unfold backwOf; rw [if_neg h]
  rw [if_neg h, e]
  exact Ends.neg h (Ends.ret _)
end Go.Proofs.Ytalpegglbfobiaa.G

namespace Go.Proofs.Ytalpegglbfobiaa.G
open Go.RowKit Go.Proofs.YtalpegglbfobiaaW.PrintWords Go.Proofs.YtalpegglbfobiaaW.PrintLast Go.Proofs.YtalpegglbfobiaaW.PrintMore
set_option linter.unusedVariables false
set_option linter.unusedSimpArgs false
theorem rsameM_l0 (l : List S44) (hl : l.length ≤ 1000000) : ∀ (d i : Nat), l.length - i = d → i ≤ l.length → Ends (fun k => papermillref41_Same.l0 k l l (i : Int)) true := by
 intro d
 induction d with
 | zero =>
  intro i hd hi
  refine Ends.succ ?_
  simp only [papermillref41_Same.l0]
  exact Ends.neg (by omega) (Ends.ret _)
 | succ d ih =>
  intro i hd hi
  refine Ends.succ ?_
  simp only [papermillref41_Same.l0, wrap_nat i (by omega)]
  exact Ends.pos (by omega) (Ends.pos (by omega) (Ends.pos (by omega) (Ends.neg (by simp) (ih (i + 1) (by omega) (by omega)))))
theorem rsameM_ends (l : List S44) (hl : l.length ≤ 1000000) : Ends (fun k => papermillref41_Same.f k l l) true := by
 unfold papermillref41_Same.f
 exact Ends.pos rfl (rsameM_l0 l hl _ 0 rfl (by omega))
theorem same41_l0 (l : List (List S44)) (hl : l.length ≤ 1000000) (hv : ∀ m ∈ l, m.length ≤ 1000000) : ∀ (d i : Nat), l.length - i = d → i ≤ l.length → Ends (fun k => papermilllaw41_same.l0 k l l (i : Int)) true := by
 intro d
 induction d with
 | zero =>
  intro i hd hi
  refine Ends.succ ?_
  simp only [papermilllaw41_same.l0]
  exact Ends.neg (by omega) (Ends.ret _)
 | succ d ih =>
  intro i hd hi
  refine Ends.succ ?_
  simp only [papermilllaw41_same.l0, wrap_nat i (by omega)]
  have hm := hv (rd_L6 l (i : Int)) (by rw [rdL6 l i (by omega)]; exact List.getElem_mem _)
  exact Ends.pos (by omega) (Ends.pos (by omega) (Ends.pos (by omega) (Ends.bind (rsameM_ends _ hm) (Ends.pos rfl (ih (i + 1) (by omega) (by omega))))))
theorem same41_ends (l : List (List S44)) (hl : l.length ≤ 1000000) (hv : ∀ m ∈ l, m.length ≤ 1000000) : Ends (fun k => papermilllaw41_same.f k l l) true := by
 unfold papermilllaw41_same.f
 exact Ends.pos rfl (same41_l0 l hl hv _ 0 rfl (by omega))
end Go.Proofs.Ytalpegglbfobiaa.G

namespace Go.Proofs.Ytalpegglbfobiaa.G
open Go.RowKit Go.Proofs.YtalpegglbfobiaaW.PrintWords Go.Proofs.YtalpegglbfobiaaW.PrintLast Go.Proofs.YtalpegglbfobiaaW.PrintMore
attribute [local go_sem] max2_int min2_int max_two min_two max_three min_three max_four min_four   -- for this text's walks alone
set_option linter.unusedVariables false
set_option linter.unusedSimpArgs false

def papermilllaw41_awakeP.f (k : Nat)  : Option (Bool) := (rewind_Whole.f 100).bind fun bt15001 => ((rewind_After.f k (([bt15001.1, bt15001.1] : List (List (S44))))).bind fun bt15008 => ((rewind_Cull.f k 50 (([(⟨10, 20⟩ : S55), (⟨30, 33⟩ : S55)] : List (S55))) 5).bind fun bt15015 => ((rewind_Split.f k 100 (([30, 70] : List Int))).bind fun bt15022 => ((rewind_Backwards.f k bt15001.1).bind fun bt15026 => (if bt15001.2 = 0 then (if bt15008.2 = 0 then (if bt15015.2 = 0 then (if bt15022.2 = 0 then (if bt15026.2 = 0 then ((papermillref41_Same.f k bt15001.1 (([(⟨99, 100, true⟩ : S44)] : List (S44)))).bind fun t15031 => (if t15031 = true then ((papermillref41_Same.f k bt15008.1 (([(⟨0, 100, false⟩ : S44)] : List (S44)))).bind fun t15035 => (if t15035 = true then ((papermillref41_Same.f k bt15015.1 (([(⟨49, 17, true⟩ : S44), (⟨29, 10, true⟩ : S44), (⟨9, 10, true⟩ : S44)] : List (S44)))).bind fun t15039 => (if t15039 = true then ((papermilllaw41_same.f k bt15022.1 (([(([(⟨99, 30, true⟩ : S44)] : List (S44))), (([(⟨69, 70, true⟩ : S44)] : List (S44)))] : List (List (S44))))).bind fun t15049 => (if t15049 = true then (some bt15026.1) else (some false))) else (some false))) else (some false))) else (some false))) else (some false)) else (some false)) else (some false)) else (some false)) else (some false))))))
set_option maxHeartbeats 8000000 in
set_option maxRecDepth 100000 in
theorem papermilllaw41_awakeP.calls (k : Nat)  (w : World) (h : papermilllaw41_awakeP.f k  = some true) :
  Calls Try.prog 14 #[] w fun e w' => e = .returned (.bool true) ∧ Below w.heap.size w w' := by
 have hu55 := Try.underlying55
 have hu44 := Try.underlying44
 have HB := Aside0.mk (Below.refl w.heap.size w)
 have H : ((rewind_Whole.f 100).bind fun bt15001 => ((rewind_After.f k (([bt15001.1, bt15001.1] : List (List (S44))))).bind fun bt15008 => ((rewind_Cull.f k 50 (([(⟨10, 20⟩ : S55), (⟨30, 33⟩ : S55)] : List (S55))) 5).bind fun bt15015 => ((rewind_Split.f k 100 (([30, 70] : List Int))).bind fun bt15022 => ((rewind_Backwards.f k bt15001.1).bind fun bt15026 => (if bt15001.2 = 0 then (if bt15008.2 = 0 then (if bt15015.2 = 0 then (if bt15022.2 = 0 then (if bt15026.2 = 0 then ((papermillref41_Same.f k bt15001.1 (([(⟨99, 100, true⟩ : S44)] : List (S44)))).bind fun t15031 => (if t15031 = true then ((papermillref41_Same.f k bt15008.1 (([(⟨0, 100, false⟩ : S44)] : List (S44)))).bind fun t15035 => (if t15035 = true then ((papermillref41_Same.f k bt15015.1 (([(⟨49, 17, true⟩ : S44), (⟨29, 10, true⟩ : S44), (⟨9, 10, true⟩ : S44)] : List (S44)))).bind fun t15039 => (if t15039 = true then ((papermilllaw41_same.f k bt15022.1 (([(([(⟨99, 30, true⟩ : S44)] : List (S44))), (([(⟨69, 70, true⟩ : S44)] : List (S44)))] : List (List (S44))))).bind fun t15049 => (if t15049 = true then (some bt15026.1) else (some false))) else (some false))) else (some false))) else (some false))) else (some false)) else (some false)) else (some false)) else (some false)) else (some false))))))) = some true := h
 clear h
 replace H := Option.bind_eq_some_iff.mp H
 obtain ⟨⟨t15001, t15002⟩, A10, H⟩ := H
 try dsimp only at H
 have A1 := Aside0.mk A10
 clear A10
 obtain ⟨y15005, hy15005⟩ : ∃ y_ : List (List (S44)), y_ = (([t15001, t15001] : List (List (S44)))) := ⟨_, rfl⟩
 replace H : ((rewind_After.f k y15005).bind fun bt15008 => ((rewind_Cull.f k 50 (([(⟨10, 20⟩ : S55), (⟨30, 33⟩ : S55)] : List (S55))) 5).bind fun bt15015 => ((rewind_Split.f k 100 (([30, 70] : List Int))).bind fun bt15022 => ((rewind_Backwards.f k t15001).bind fun bt15026 => (if t15002 = 0 then (if bt15008.2 = 0 then (if bt15015.2 = 0 then (if bt15022.2 = 0 then (if bt15026.2 = 0 then ((papermillref41_Same.f k t15001 (([(⟨99, 100, true⟩ : S44)] : List (S44)))).bind fun t15031 => (if t15031 = true then ((papermillref41_Same.f k bt15008.1 (([(⟨0, 100, false⟩ : S44)] : List (S44)))).bind fun t15035 => (if t15035 = true then ((papermillref41_Same.f k bt15015.1 (([(⟨49, 17, true⟩ : S44), (⟨29, 10, true⟩ : S44), (⟨9, 10, true⟩ : S44)] : List (S44)))).bind fun t15039 => (if t15039 = true then ((papermilllaw41_same.f k bt15022.1 (([(([(⟨99, 30, true⟩ : S44)] : List (S44))), (([(⟨69, 70, true⟩ : S44)] : List (S44)))] : List (List (S44))))).bind fun t15049 => (if t15049 = true then (some bt15026.1) else (some false))) else (some false))) else (some false))) else (some false))) else (some false)) else (some false)) else (some false)) else (some false)) else (some false)))))) = some true := by first | (rw [hy15005]; with_reducible exact H) | (have H2_ := (Option.bind_some _ _).symm.trans H; rw [hy15005]; with_reducible exact H2_) | (have H2_ := (Option.bind_some _ _).symm.trans H; with_reducible exact H2_) | with_reducible exact H | (rw [hy15005]; exact H) | exact H
 have Ny15005 := Aside0.mk hy15005
 clear hy15005
 replace H := Option.bind_eq_some_iff.mp H
 obtain ⟨⟨t15008, t15009⟩, A20, H⟩ := H
 try dsimp only at H
 have A2 := Aside0.mk A20
 clear A20
 obtain ⟨y15012, hy15012⟩ : ∃ y_ : List (S55), y_ = (([(⟨10, 20⟩ : S55), (⟨30, 33⟩ : S55)] : List (S55))) := ⟨_, rfl⟩
 replace H : ((rewind_Cull.f k 50 y15012 5).bind fun bt15015 => ((rewind_Split.f k 100 (([30, 70] : List Int))).bind fun bt15022 => ((rewind_Backwards.f k t15001).bind fun bt15026 => (if t15002 = 0 then (if t15009 = 0 then (if bt15015.2 = 0 then (if bt15022.2 = 0 then (if bt15026.2 = 0 then ((papermillref41_Same.f k t15001 (([(⟨99, 100, true⟩ : S44)] : List (S44)))).bind fun t15031 => (if t15031 = true then ((papermillref41_Same.f k t15008 (([(⟨0, 100, false⟩ : S44)] : List (S44)))).bind fun t15035 => (if t15035 = true then ((papermillref41_Same.f k bt15015.1 (([(⟨49, 17, true⟩ : S44), (⟨29, 10, true⟩ : S44), (⟨9, 10, true⟩ : S44)] : List (S44)))).bind fun t15039 => (if t15039 = true then ((papermilllaw41_same.f k bt15022.1 (([(([(⟨99, 30, true⟩ : S44)] : List (S44))), (([(⟨69, 70, true⟩ : S44)] : List (S44)))] : List (List (S44))))).bind fun t15049 => (if t15049 = true then (some bt15026.1) else (some false))) else (some false))) else (some false))) else (some false))) else (some false)) else (some false)) else (some false)) else (some false)) else (some false))))) = some true := by first | (rw [hy15012]; with_reducible exact H) | (have H2_ := (Option.bind_some _ _).symm.trans H; rw [hy15012]; with_reducible exact H2_) | (have H2_ := (Option.bind_some _ _).symm.trans H; with_reducible exact H2_) | with_reducible exact H | (rw [hy15012]; exact H) | exact H
 have Ny15012 := Aside0.mk hy15012
 clear hy15012
 replace H := Option.bind_eq_some_iff.mp H
 obtain ⟨⟨t15015, t15016⟩, A30, H⟩ := H
 try dsimp only at H
 have A3 := Aside0.mk A30
 clear A30
 obtain ⟨y15019, hy15019⟩ : ∃ y_ : List Int, y_ = (([30, 70] : List Int)) := ⟨_, rfl⟩
 replace H : ((rewind_Split.f k 100 y15019).bind fun bt15022 => ((rewind_Backwards.f k t15001).bind fun bt15026 => (if t15002 = 0 then (if t15009 = 0 then (if t15016 = 0 then (if bt15022.2 = 0 then (if bt15026.2 = 0 then ((papermillref41_Same.f k t15001 (([(⟨99, 100, true⟩ : S44)] : List (S44)))).bind fun t15031 => (if t15031 = true then ((papermillref41_Same.f k t15008 (([(⟨0, 100, false⟩ : S44)] : List (S44)))).bind fun t15035 => (if t15035 = true then ((papermillref41_Same.f k t15015 (([(⟨49, 17, true⟩ : S44), (⟨29, 10, true⟩ : S44), (⟨9, 10, true⟩ : S44)] : List (S44)))).bind fun t15039 => (if t15039 = true then ((papermilllaw41_same.f k bt15022.1 (([(([(⟨99, 30, true⟩ : S44)] : List (S44))), (([(⟨69, 70, true⟩ : S44)] : List (S44)))] : List (List (S44))))).bind fun t15049 => (if t15049 = true then (some bt15026.1) else (some false))) else (some false))) else (some false))) else (some false))) else (some false)) else (some false)) else (some false)) else (some false)) else (some false)))) = some true := by first | (rw [hy15019]; with_reducible exact H) | (have H2_ := (Option.bind_some _ _).symm.trans H; rw [hy15019]; with_reducible exact H2_) | (have H2_ := (Option.bind_some _ _).symm.trans H; with_reducible exact H2_) | with_reducible exact H | (rw [hy15019]; exact H) | exact H
 have Ny15019 := Aside0.mk hy15019
 clear hy15019
 replace H := Option.bind_eq_some_iff.mp H
 obtain ⟨⟨t15022, t15023⟩, A40, H⟩ := H
 try dsimp only at H
 have A4 := Aside0.mk A40
 clear A40
 replace H := Option.bind_eq_some_iff.mp H
 obtain ⟨⟨t15026, t15027⟩, A50, H⟩ := H
 try dsimp only at H
 have A5 := Aside0.mk A50
 clear A50
 by_cases c6 : t15002 = 0
 ·rw [if_pos c6] at H
  have c6b0 : (t15002 == 0) = true := beq_iff_eq.mpr c6
  have c6b1 : (t15002 != 0) = false := bne_eq_false_iff_eq.mpr c6
  clear c6
  by_cases c7 : t15009 = 0
  ·rw [if_pos c7] at H
   have c7b0 : (t15009 == 0) = true := beq_iff_eq.mpr c7
   have c7b1 : (t15009 != 0) = false := bne_eq_false_iff_eq.mpr c7
   clear c7
   by_cases c8 : t15016 = 0
   ·rw [if_pos c8] at H
    have c8b0 : (t15016 == 0) = true := beq_iff_eq.mpr c8
    have c8b1 : (t15016 != 0) = false := bne_eq_false_iff_eq.mpr c8
    clear c8
    by_cases c9 : t15023 = 0
    ·rw [if_pos c9] at H
     have c9b0 : (t15023 == 0) = true := beq_iff_eq.mpr c9
     have c9b1 : (t15023 != 0) = false := bne_eq_false_iff_eq.mpr c9
     clear c9
     by_cases c10 : t15027 = 0
     ·rw [if_pos c10] at H
      have c10b0 : (t15027 == 0) = true := beq_iff_eq.mpr c10
      have c10b1 : (t15027 != 0) = false := bne_eq_false_iff_eq.mpr c10
      clear c10
      obtain ⟨y15028, hy15028⟩ : ∃ y_ : List (S44), y_ = (([(⟨99, 100, true⟩ : S44)] : List (S44))) := ⟨_, rfl⟩
      replace H : ((papermillref41_Same.f k t15001 y15028).bind fun t15031 => (if t15031 = true then ((papermillref41_Same.f k t15008 (([(⟨0, 100, false⟩ : S44)] : List (S44)))).bind fun t15035 => (if t15035 = true then ((papermillref41_Same.f k t15015 (([(⟨49, 17, true⟩ : S44), (⟨29, 10, true⟩ : S44), (⟨9, 10, true⟩ : S44)] : List (S44)))).bind fun t15039 => (if t15039 = true then ((papermilllaw41_same.f k t15022 (([(([(⟨99, 30, true⟩ : S44)] : List (S44))), (([(⟨69, 70, true⟩ : S44)] : List (S44)))] : List (List (S44))))).bind fun t15049 => (if t15049 = true then (some t15026) else (some false))) else (some false))) else (some false))) else (some false))) = some true := by first | (rw [hy15028]; with_reducible exact H) | (have H2_ := (Option.bind_some _ _).symm.trans H; rw [hy15028]; with_reducible exact H2_) | (have H2_ := (Option.bind_some _ _).symm.trans H; with_reducible exact H2_) | with_reducible exact H | (rw [hy15028]; exact H) | exact H
      have Ny15028 := Aside0.mk hy15028
      clear hy15028
      replace H := Option.bind_eq_some_iff.mp H
      obtain ⟨t15031, A110, H⟩ := H
      try dsimp only at H
      have A11 := Aside0.mk A110
      clear A110
      by_cases c12 : t15031 = true
      ·subst c12
       rw [if_pos rfl] at H
       obtain ⟨y15032, hy15032⟩ : ∃ y_ : List (S44), y_ = (([(⟨0, 100, false⟩ : S44)] : List (S44))) := ⟨_, rfl⟩
       replace H : ((papermillref41_Same.f k t15008 y15032).bind fun t15035 => (if t15035 = true then ((papermillref41_Same.f k t15015 (([(⟨49, 17, true⟩ : S44), (⟨29, 10, true⟩ : S44), (⟨9, 10, true⟩ : S44)] : List (S44)))).bind fun t15039 => (if t15039 = true then ((papermilllaw41_same.f k t15022 (([(([(⟨99, 30, true⟩ : S44)] : List (S44))), (([(⟨69, 70, true⟩ : S44)] : List (S44)))] : List (List (S44))))).bind fun t15049 => (if t15049 = true then (some t15026) else (some false))) else (some false))) else (some false))) = some true := by first | (rw [hy15032]; with_reducible exact H) | (have H2_ := (Option.bind_some _ _).symm.trans H; rw [hy15032]; with_reducible exact H2_) | (have H2_ := (Option.bind_some _ _).symm.trans H; with_reducible exact H2_) | with_reducible exact H | (rw [hy15032]; exact H) | exact H
       have Ny15032 := Aside0.mk hy15032
       clear hy15032
       replace H := Option.bind_eq_some_iff.mp H
       obtain ⟨t15035, A130, H⟩ := H
       try dsimp only at H
       have A13 := Aside0.mk A130
       clear A130
       by_cases c14 : t15035 = true
       ·subst c14
        rw [if_pos rfl] at H
        obtain ⟨y15036, hy15036⟩ : ∃ y_ : List (S44), y_ = (([(⟨49, 17, true⟩ : S44), (⟨29, 10, true⟩ : S44), (⟨9, 10, true⟩ : S44)] : List (S44))) := ⟨_, rfl⟩
        replace H : ((papermillref41_Same.f k t15015 y15036).bind fun t15039 => (if t15039 = true then ((papermilllaw41_same.f k t15022 (([(([(⟨99, 30, true⟩ : S44)] : List (S44))), (([(⟨69, 70, true⟩ : S44)] : List (S44)))] : List (List (S44))))).bind fun t15049 => (if t15049 = true then (some t15026) else (some false))) else (some false))) = some true := by first | (rw [hy15036]; with_reducible exact H) | (have H2_ := (Option.bind_some _ _).symm.trans H; rw [hy15036]; with_reducible exact H2_) | (have H2_ := (Option.bind_some _ _).symm.trans H; with_reducible exact H2_) | with_reducible exact H | (rw [hy15036]; exact H) | exact H
        have Ny15036 := Aside0.mk hy15036
        clear hy15036
        replace H := Option.bind_eq_some_iff.mp H
        obtain ⟨t15039, A150, H⟩ := H
        try dsimp only at H
        have A15 := Aside0.mk A150
        clear A150
        by_cases c16 : t15039 = true
        ·subst c16
         rw [if_pos rfl] at H
         obtain ⟨y15040, hy15040⟩ : ∃ y_ : List (S44), y_ = (([(⟨99, 30, true⟩ : S44)] : List (S44))) := ⟨_, rfl⟩
         replace H : ((papermilllaw41_same.f k t15022 (([y15040, (([(⟨69, 70, true⟩ : S44)] : List (S44)))] : List (List (S44))))).bind fun t15049 => (if t15049 = true then (some t15026) else (some false))) = some true := by first | (rw [hy15040]; with_reducible exact H) | (have H2_ := (Option.bind_some _ _).symm.trans H; rw [hy15040]; with_reducible exact H2_) | (have H2_ := (Option.bind_some _ _).symm.trans H; with_reducible exact H2_) | with_reducible exact H | (rw [hy15040]; exact H) | exact H
         have Ny15040 := Aside0.mk hy15040
         clear hy15040
         obtain ⟨y15043, hy15043⟩ : ∃ y_ : List (S44), y_ = (([(⟨69, 70, true⟩ : S44)] : List (S44))) := ⟨_, rfl⟩
         replace H : ((papermilllaw41_same.f k t15022 (([y15040, y15043] : List (List (S44))))).bind fun t15049 => (if t15049 = true then (some t15026) else (some false))) = some true := by first | (rw [hy15043]; with_reducible exact H) | (have H2_ := (Option.bind_some _ _).symm.trans H; rw [hy15043]; with_reducible exact H2_) | (have H2_ := (Option.bind_some _ _).symm.trans H; with_reducible exact H2_) | with_reducible exact H | (rw [hy15043]; exact H) | exact H
         have Ny15043 := Aside0.mk hy15043
         clear hy15043
         obtain ⟨y15046, hy15046⟩ : ∃ y_ : List (List (S44)), y_ = (([y15040, y15043] : List (List (S44)))) := ⟨_, rfl⟩
         replace H : ((papermilllaw41_same.f k t15022 y15046).bind fun t15049 => (if t15049 = true then (some t15026) else (some false))) = some true := by first | (rw [hy15046]; with_reducible exact H) | (have H2_ := (Option.bind_some _ _).symm.trans H; rw [hy15046]; with_reducible exact H2_) | (have H2_ := (Option.bind_some _ _).symm.trans H; with_reducible exact H2_) | with_reducible exact H | (rw [hy15046]; exact H) | exact H
         have Ny15046 := Aside0.mk hy15046
         clear hy15046
         replace H := Option.bind_eq_some_iff.mp H
         obtain ⟨t15049, A170, H⟩ := H
         try dsimp only at H
         have A17 := Aside0.mk A170
         clear A170
         by_cases c18 : t15049 = true
         ·subst c18
          rw [if_pos rfl] at H
          have hr_ := Aside0.mk (Option.some.inj H)
          clear H
          go_enter Try.func14, Try.ntmps14
          go_wp2_with (first | ((with_reducible refine gate_callee (f := 11) rfl ?_); refine goesL_ (some 12) rfl rfl Try.func11 (by kernel_rfl) rfl #[.int .i64 100] rfl (by (try simp only [List.map_toArray, List.map_cons, List.map_nil]); first | done | rfl | (simp only [List.length_drop, List.length_take]; rfl)) ?_; (with_reducible refine (rewind_Whole.calls 100 t15001 t15002 _ A1.out).mono ?_); rintro e w19 ⟨v15003, rfl, ho0, hb⟩; refine ⟨_, rfl, ?_⟩; (try (replace HO15004 := Aside0.mk (Kd.R_below HO15004.out hb))); have HO15004 := Aside0.mk (Kd.R_lower ho0 (below_size (by repeat (first | exact HB.out | apply below_alloc | apply pw_below_drewN | apply below_drew1)))); replace HB := Aside0.mk (below_step (by repeat (first | exact HB.out | apply below_alloc | apply pw_below_drewN | apply below_drew1)) hb); (try clear hb); (try clear hb2); (try clear hk); (try clear hi); (try clear ho0); obtain ⟨Ao20, co20, eo20⟩ := Kd.R_slice HO15004.out; subst eo20) | ((with_reducible refine gate_dst (N := 18) rfl ?_); (try (refine gate_guard (by rfl) ?_; dsimp only)); refine Kd.N_lit (Kd.slice 44 k44) _ 22 ?hg (N' := 18) ?hd (xs := ([t15001, t15001] : List (List (S44)))) (inner := [.slice Ao20 t15001.length co20, .slice Ao20 t15001.length co20]) (ok := (fun _ => True)) (okp := (fun _ => True)) ?hr ?hp (fun _ hk => hk) ((show ∀ k_, w19.heap.size ≤ k_ → (fun _ => True) k_ from fun k_ hk => trivial) _ (Nat.le_refl _)) (Below.refl _ _) (Nat.le_refl _) (by simp) ?_; (case hd => rfl); (case hg => rfl); (case hr => first | (go_simp; done) | (go_simp; rfl)); (case hp => exact (Reps.one (show Kd.FK (Kd.slice 44 k44) _ _ t15001 [.slice Ao20 t15001.length co20] from (Kd.FK_slice_mk (Kd.R_reads' (Kd.R_mono (ok' := (fun _ => True)) (HO15004.out) (fun k_ hk => trivial))).2.1 (Kd.R_F (Kd.R_mono (ok' := (fun _ => True)) (HO15004.out) (fun k_ hk => trivial))))) (Reps.one (show Kd.FK (Kd.slice 44 k44) _ _ t15001 [.slice Ao20 t15001.length co20] from (Kd.FK_slice_mk (Kd.R_reads' (Kd.R_mono (ok' := (fun _ => True)) (HO15004.out) (fun k_ hk => trivial))).2.1 (Kd.R_F (Kd.R_mono (ok' := (fun _ => True)) (HO15004.out) (fun k_ hk => trivial))))) (Reps.none _ _)))); intro v15006 w21 ho22 hb hg_ hnew_; (try (replace HO15004 := Aside0.mk (Kd.R_below HO15004.out hb))); clear hg_ hnew_; (first | rw [← Ny15005.out] at ho22 | (simp only [Int.reduceToNat] at ho22; rw [← Ny15005.out] at ho22)); have HO15007 := Aside0.mk (Kd.N_lower ho22 (below_size (by repeat (first | exact HB.out | apply below_alloc | apply pw_below_drewN | apply below_drew1)))); replace HB := Aside0.mk (below_step (by repeat (first | exact HB.out | apply below_alloc | apply pw_below_drewN | apply below_drew1)) hb); clear hb ho22; obtain ⟨Ao23, co23, eo23⟩ := Kd.N_slice HO15007.out; subst eo23) | ((with_reducible refine gate_callee (f := 21) rfl ?_); refine goesL_ (some 19) rfl rfl Try.func21 (by kernel_rfl) rfl #[.slice Ao23 y15005.length co23] rfl (by (try simp only [List.map_toArray, List.map_cons, List.map_nil]); first | done | rfl | (simp only [List.length_drop, List.length_take]; rfl)) ?_; (with_reducible refine (rewind_After.calls k _ _ y15005 t15008 t15009 _ ?side1 ?side2 A2.out).mono ?_); (case side1 => repeat (first | exact (Kd.N_reads' HO15007.out).2.2 | (with_reducible refine Kd.C_alloc ?_ _) | (with_reducible refine Kd.C_drewN ?_ _) | (with_reducible refine Kd.C_drew ?_))); (case side2 => exact (Kd.N_reads' HO15007.out).2.1); rintro e w24 ⟨v15010, rfl, ho0, hb⟩; refine ⟨_, rfl, ?_⟩; (try (replace HO15004 := Aside0.mk (Kd.R_below HO15004.out hb))); replace HO15007 := Aside0.mk (Kd.N_elder' (by (with_reducible repeat apply Kd.N_drewN); exact HO15007.out) (Kd.R_base ho0) hb); have HO15011 := Aside0.mk (Kd.R_lower ho0 (below_size (by repeat (first | exact HB.out | apply below_alloc | apply pw_below_drewN | apply below_drew1)))); replace HB := Aside0.mk (below_step (by repeat (first | exact HB.out | apply below_alloc | apply pw_below_drewN | apply below_drew1)) hb); (try clear hb); (try clear hb2); (try clear hk); (try clear hi); (try clear ho0)) | ((with_reducible refine gate_dst (N := 25) rfl ?_); (try (refine gate_guard (by rfl) ?_; dsimp only)); refine Kd.R_lit k55 _ 55 ?hg (N := 25) ?hd (xs := ([(⟨10, 20⟩ : S55), (⟨30, 33⟩ : S55)] : List (S55))) (inner := [.int .i64 10, .int .i64 20, .int .i64 30, .int .i64 33]) (ok := fun _ => True) (okp := fun _ => True) ?hr ?hp (fun _ hk => hk) trivial (Below.refl _ _) (Nat.le_refl _) (by simp) ?_; (case hd => rfl); (case hg => rfl); (case hr => first | (go_simp; done) | (go_simp; rfl)); (case hp => exact (Reps.c2 (show Kd.M k55 _ _ _ (⟨10, 20⟩ : S55) [.int .i64 10, .int .i64 20] from (k55_mkM _ _ _ (⟨10, 20⟩ : S55) )) (Reps.c2 (show Kd.M k55 _ _ _ (⟨30, 33⟩ : S55) [.int .i64 30, .int .i64 33] from (k55_mkM _ _ _ (⟨30, 33⟩ : S55) )) (Reps.none _ _)))); intro v15013 w25 ho26 hb hg_ hnew_; (try (replace HO15004 := Aside0.mk (Kd.R_below HO15004.out hb))); clear hg_ hnew_; (first | rw [← Ny15012.out] at ho26 | (simp only [Int.reduceToNat] at ho26; rw [← Ny15012.out] at ho26)); replace HO15007 := Aside0.mk (Kd.N_elder' (by (with_reducible repeat apply Kd.N_drewN); exact HO15007.out) (Kd.R_base ho26) hb); replace HO15011 := Aside0.mk (Kd.R_below (by (with_reducible repeat apply Kd.R_drewN); exact HO15011.out) hb); have HO15014 := Aside0.mk (Kd.R_lower ho26 (below_size (by repeat (first | exact HB.out | apply below_alloc | apply pw_below_drewN | apply below_drew1)))); replace HB := Aside0.mk (below_step (by repeat (first | exact HB.out | apply below_alloc | apply pw_below_drewN | apply below_drew1)) hb); clear hb ho26; obtain ⟨Ao27, co27, eo27⟩ := Kd.R_slice HO15014.out; subst eo27) | ((with_reducible refine gate_callee (f := 15) rfl ?_); refine goesL_ (some 26) rfl rfl Try.func15 (by kernel_rfl) rfl #[.int .i64 50, .slice Ao27 y15012.length co27, .int .i64 5] rfl (by (try simp only [List.map_toArray, List.map_cons, List.map_nil]); first | done | rfl | (simp only [List.length_drop, List.length_take]; rfl)) ?_; (with_reducible refine (rewind_Cull.calls k 50 _ _ y15012 5 t15015 t15016 _ ?side1 ?side2 A3.out).mono ?_); (case side1 => exact (Kd.R_reads' HO15014.out).2.2); (case side2 => exact (Kd.R_reads' HO15014.out).2.1); rintro e w28 ⟨v15017, rfl, ho0, hb⟩; refine ⟨_, rfl, ?_⟩; (try (replace HO15004 := Aside0.mk (Kd.R_below HO15004.out hb))); replace HO15007 := Aside0.mk (Kd.N_elder' (by (with_reducible repeat apply Kd.N_drewN); exact HO15007.out) (Kd.R_base ho0) hb); replace HO15014 := Aside0.mk (Kd.R_below (by (with_reducible repeat apply Kd.R_drewN); exact HO15014.out) hb); have HO15018 := Aside0.mk (Kd.R_lower (Kd.R_new' ho0 (Kd.R_lt (by (with_reducible repeat apply Kd.R_drewN); exact HO15011.out))) (below_size (by repeat (first | exact HB.out | apply below_alloc | apply pw_below_drewN | apply below_drew1)))); replace HO15011 := Aside0.mk (Kd.R_elder' (by (with_reducible repeat apply Kd.R_drewN); exact HO15011.out) (Kd.R_base ho0) hb); replace HB := Aside0.mk (below_step (by repeat (first | exact HB.out | apply below_alloc | apply pw_below_drewN | apply below_drew1)) hb); (try clear hb); (try clear hb2); (try clear hk); (try clear hi); (try clear ho0)) | ((with_reducible refine gate_dst (N := 30) rfl ?_); (try (refine gate_guard (by rfl) ?_; dsimp only)); refine Kd.R_lit (Kd.int .i64) _ 3 ?hg (N := 30) ?hd (xs := ([30, 70] : List Int)) (inner := [.int .i64 30, .int .i64 70]) (ok := fun _ => True) (okp := fun _ => True) ?hr ?hp (fun _ hk => hk) trivial (Below.refl _ _) (Nat.le_refl _) (by simp) ?_; (case hd => rfl); (case hg => rfl); (case hr => first | (go_simp; done) | (go_simp; rfl)); (case hp => exact (Reps.one (show Kd.M (Kd.int .i64) _ _ _ 30 [.int .i64 30] from rfl) (Reps.one (show Kd.M (Kd.int .i64) _ _ _ 70 [.int .i64 70] from rfl) (Reps.none _ _)))); intro v15020 w29 ho30 hb hg_ hnew_; (try (replace HO15004 := Aside0.mk (Kd.R_below HO15004.out hb))); clear hg_ hnew_; (first | rw [← Ny15019.out] at ho30 | (simp only [Int.reduceToNat] at ho30; rw [← Ny15019.out] at ho30)); replace HO15007 := Aside0.mk (Kd.N_elder' (by (with_reducible repeat apply Kd.N_drewN); exact HO15007.out) (Kd.R_base ho30) hb); replace HO15011 := Aside0.mk (Kd.R_below (by (with_reducible repeat apply Kd.R_drewN); exact HO15011.out) hb); replace HO15014 := Aside0.mk (Kd.R_below (by (with_reducible repeat apply Kd.R_drewN); exact HO15014.out) hb); replace HO15018 := Aside0.mk (Kd.R_below (by (with_reducible repeat apply Kd.R_drewN); exact HO15018.out) hb); have HO15021 := Aside0.mk (Kd.R_lower ho30 (below_size (by repeat (first | exact HB.out | apply below_alloc | apply pw_below_drewN | apply below_drew1)))); replace HB := Aside0.mk (below_step (by repeat (first | exact HB.out | apply below_alloc | apply pw_below_drewN | apply below_drew1)) hb); clear hb ho30; obtain ⟨Ao31, co31, eo31⟩ := Kd.R_slice HO15021.out; subst eo31) | ((with_reducible refine gate_callee (f := 17) rfl ?_); refine goesL_ (some 31) rfl rfl Try.func17 (by kernel_rfl) rfl #[.int .i64 100, .slice Ao31 y15019.length co31] rfl (by (try simp only [List.map_toArray, List.map_cons, List.map_nil]); first | done | rfl | (simp only [List.length_drop, List.length_take]; rfl)) ?_; (with_reducible refine (rewind_Split.calls k 100 _ _ y15019 t15022 t15023 _ ?side1 ?side2 A4.out).mono ?_); (case side1 => exact (Kd.R_reads' HO15021.out).2.2); (case side2 => exact (Kd.R_reads' HO15021.out).2.1); rintro e w32 ⟨v15024, rfl, ho0, hb⟩; refine ⟨_, rfl, ?_⟩; (try (replace HO15004 := Aside0.mk (Kd.R_below HO15004.out hb))); have HO15025 := Aside0.mk (Kd.N_lower (Kd.N_mono (ok' := fun k_ => some k_ ≠ (.slice Ao23 y15005.length co23 : Value).ownBlock ∧ some k_ ≠ (v15010 : Value).ownBlock ∧ some k_ ≠ (.slice Ao27 y15012.length co27 : Value).ownBlock ∧ some k_ ≠ (v15017 : Value).ownBlock ∧ some k_ ≠ (.slice Ao31 y15019.length co31 : Value).ownBlock) (Kd.S_N (Kd.S_bound ho0)) (fun k_ hk_ => ⟨(Kd.fresh' (Kd.N_lt (by (with_reducible repeat apply Kd.N_drewN); exact HO15007.out)) k_ hk_.2.1), (Kd.fresh' (Kd.R_lt (by (with_reducible repeat apply Kd.R_drewN); exact HO15011.out)) k_ hk_.2.1), (Kd.fresh' (Kd.R_lt (by (with_reducible repeat apply Kd.R_drewN); exact HO15014.out)) k_ hk_.2.1), (Kd.fresh' (Kd.R_lt (by (with_reducible repeat apply Kd.R_drewN); exact HO15018.out)) k_ hk_.2.1), (Kd.fresh' (Kd.R_lt (by (with_reducible repeat apply Kd.R_drewN); exact HO15021.out)) k_ hk_.2.1)⟩)) (below_size (by repeat (first | exact HB.out | apply below_alloc | apply pw_below_drewN | apply below_drew1)))); replace HO15007 := Aside0.mk (Kd.N_elder' (by (with_reducible repeat apply Kd.N_drewN); exact HO15007.out) (Kd.N_base (by first | exact ho0 | exact Kd.S_N ho0)) hb); replace HO15011 := Aside0.mk (Kd.R_below (by (with_reducible repeat apply Kd.R_drewN); exact HO15011.out) hb); replace HO15014 := Aside0.mk (Kd.R_below (by (with_reducible repeat apply Kd.R_drewN); exact HO15014.out) hb); replace HO15018 := Aside0.mk (Kd.R_below (by (with_reducible repeat apply Kd.R_drewN); exact HO15018.out) hb); replace HO15021 := Aside0.mk (Kd.R_below (by (with_reducible repeat apply Kd.R_drewN); exact HO15021.out) hb); replace HB := Aside0.mk (below_step (by repeat (first | exact HB.out | apply below_alloc | apply pw_below_drewN | apply below_drew1)) hb); (try clear hb); (try clear hb2); (try clear hk); (try clear hi); (try clear ho0)) | ((with_reducible refine gate_callee (f := 23) rfl ?_); refine goesL_ (some 36) rfl rfl Try.func23 (by kernel_rfl) rfl #[.slice Ao20 t15001.length co20] rfl (by (try simp only [List.map_toArray, List.map_cons, List.map_nil]); first | done | rfl | (simp only [List.length_drop, List.length_take]; rfl)) ?_; (with_reducible refine (rewind_Backwards.calls k _ _ t15001 t15026 t15027 _ ?side1 ?side2 A5.out).mono ?_); (case side1 => exact (Kd.R_reads' HO15004.out).2.2); (case side2 => exact (Kd.R_reads' HO15004.out).2.1); rintro e w33 ⟨rfl, hb⟩; refine ⟨_, rfl, ?_⟩; (try (replace HO15004 := Aside0.mk (Kd.R_below HO15004.out hb))); replace HO15007 := Aside0.mk (Kd.N_below (by (with_reducible repeat apply Kd.N_drewN); exact HO15007.out) hb); replace HO15011 := Aside0.mk (Kd.R_below (by (with_reducible repeat apply Kd.R_drewN); exact HO15011.out) hb); replace HO15014 := Aside0.mk (Kd.R_below (by (with_reducible repeat apply Kd.R_drewN); exact HO15014.out) hb); replace HO15018 := Aside0.mk (Kd.R_below (by (with_reducible repeat apply Kd.R_drewN); exact HO15018.out) hb); replace HO15021 := Aside0.mk (Kd.R_below (by (with_reducible repeat apply Kd.R_drewN); exact HO15021.out) hb); replace HO15025 := Aside0.mk (Kd.N_below (by (with_reducible repeat apply Kd.N_drewN); exact HO15025.out) hb); replace HB := Aside0.mk (below_step (by repeat (first | exact HB.out | apply below_alloc | apply pw_below_drewN | apply below_drew1)) hb); (try clear hb); (try clear hb2); (try clear hk); (try clear hi)) | ((with_reducible refine gate_dst (N := 60) rfl ?_); (try (refine gate_guard (by rfl) ?_; dsimp only)); refine Kd.R_lit k44 _ 44 ?hg (N := 60) ?hd (xs := ([(⟨99, 100, true⟩ : S44)] : List (S44))) (inner := [.int .i64 99, .int .i64 100, .bool true]) (ok := fun _ => True) (okp := fun _ => True) ?hr ?hp (fun _ hk => hk) trivial (Below.refl _ _) (Nat.le_refl _) (by simp) ?_; (case hd => rfl); (case hg => rfl); (case hr => first | (go_simp; done) | (go_simp; rfl)); (case hp => exact (Reps.c3 (show Kd.M k44 _ _ _ (⟨99, 100, true⟩ : S44) [.int .i64 99, .int .i64 100, .bool true] from (k44_mkM _ _ _ (⟨99, 100, true⟩ : S44) )) (Reps.none _ _))); intro v15029 w34 ho35 hb hg_ hnew_; (try (replace HO15004 := Aside0.mk (Kd.R_below HO15004.out hb))); clear hg_ hnew_; (first | rw [← Ny15028.out] at ho35 | (simp only [Int.reduceToNat] at ho35; rw [← Ny15028.out] at ho35)); replace HO15007 := Aside0.mk (Kd.N_elder' (by (with_reducible repeat apply Kd.N_drewN); exact HO15007.out) (Kd.R_base ho35) hb); replace HO15014 := Aside0.mk (Kd.R_below (by (with_reducible repeat apply Kd.R_drewN); exact HO15014.out) hb); replace HO15021 := Aside0.mk (Kd.R_below (by (with_reducible repeat apply Kd.R_drewN); exact HO15021.out) hb); replace HO15025 := Aside0.mk (Kd.N_elder' (by (with_reducible repeat apply Kd.N_drewN); exact HO15025.out) (Kd.R_base ho35) hb); have HO15030 := Aside0.mk (Kd.R_lower (Kd.R_new' (Kd.R_new' ho35 (Kd.R_lt (by (with_reducible repeat apply Kd.R_drewN); exact HO15011.out))) (Kd.R_lt (by (with_reducible repeat apply Kd.R_drewN); exact HO15018.out))) (below_size (by repeat (first | exact HB.out | apply below_alloc | apply pw_below_drewN | apply below_drew1)))); replace HO15011 := Aside0.mk (Kd.R_elder' (by (with_reducible repeat apply Kd.R_drewN); exact HO15011.out) (Kd.R_base ho35) hb); replace HO15018 := Aside0.mk (Kd.R_elder' (by (with_reducible repeat apply Kd.R_drewN); exact HO15018.out) (Kd.R_base ho35) hb); replace HB := Aside0.mk (below_step (by repeat (first | exact HB.out | apply below_alloc | apply pw_below_drewN | apply below_drew1)) hb); clear hb ho35; obtain ⟨Ao36, co36, eo36⟩ := Kd.R_slice HO15030.out; subst eo36) | (go_at_call 13; (with_reducible refine (papermillref41_Same.calls k _ _ t15001 _ _ y15028 true _ ?side1 ?side2 ?side3 ?side4 A11.out).mono ?_); (case side1 => exact (Kd.R_reads' HO15004.out).2.2); (case side2 => exact (Kd.R_reads' HO15004.out).2.1); (case side3 => exact (Kd.R_reads' HO15030.out).2.2); (case side4 => exact (Kd.R_reads' HO15030.out).2.1); rintro e w' ⟨rfl, ⟨nd, rfl⟩⟩) | ((with_reducible refine gate_dst (N := 66) rfl ?_); (try (refine gate_guard (by rfl) ?_; dsimp only)); refine Kd.R_lit k44 _ 44 ?hg (N := 66) ?hd (xs := ([(⟨0, 100, false⟩ : S44)] : List (S44))) (inner := [.int .i64 0, .int .i64 100, .bool false]) (ok := fun _ => True) (okp := fun _ => True) ?hr ?hp (fun _ hk => hk) trivial (Below.refl _ _) (Nat.le_refl _) (by simp) ?_; (case hd => rfl); (case hg => rfl); (case hr => first | (go_simp; done) | (go_simp; rfl)); (case hp => exact (Reps.c3 (show Kd.M k44 _ _ _ (⟨0, 100, false⟩ : S44) [.int .i64 0, .int .i64 100, .bool false] from (k44_mkM _ _ _ (⟨0, 100, false⟩ : S44) )) (Reps.none _ _))); intro v15033 w37 ho38 hb hg_ hnew_; (try (replace HO15004 := Aside0.mk (Kd.R_below HO15004.out hb))); clear hg_ hnew_; (first | rw [← Ny15032.out] at ho38 | (simp only [Int.reduceToNat] at ho38; rw [← Ny15032.out] at ho38)); replace HO15007 := Aside0.mk (Kd.N_elder' (by (with_reducible repeat apply Kd.N_drewN); exact HO15007.out) (Kd.R_base ho38) hb); replace HO15014 := Aside0.mk (Kd.R_below (by (with_reducible repeat apply Kd.R_drewN); exact HO15014.out) hb); replace HO15021 := Aside0.mk (Kd.R_below (by (with_reducible repeat apply Kd.R_drewN); exact HO15021.out) hb); replace HO15025 := Aside0.mk (Kd.N_elder' (by (with_reducible repeat apply Kd.N_drewN); exact HO15025.out) (Kd.R_base ho38) hb); have HO15034 := Aside0.mk (Kd.R_lower (Kd.R_new' (Kd.R_new' (Kd.R_new' ho38 (Kd.R_lt (by (with_reducible repeat apply Kd.R_drewN); exact HO15011.out))) (Kd.R_lt (by (with_reducible repeat apply Kd.R_drewN); exact HO15018.out))) (Kd.R_lt (by (with_reducible repeat apply Kd.R_drewN); exact HO15030.out))) (below_size (by repeat (first | exact HB.out | apply below_alloc | apply pw_below_drewN | apply below_drew1)))); replace HO15011 := Aside0.mk (Kd.R_elder' (by (with_reducible repeat apply Kd.R_drewN); exact HO15011.out) (Kd.R_base ho38) hb); replace HO15018 := Aside0.mk (Kd.R_elder' (by (with_reducible repeat apply Kd.R_drewN); exact HO15018.out) (Kd.R_base ho38) hb); replace HO15030 := Aside0.mk (Kd.R_elder' (by (with_reducible repeat apply Kd.R_drewN); exact HO15030.out) (Kd.R_base ho38) hb); replace HB := Aside0.mk (below_step (by repeat (first | exact HB.out | apply below_alloc | apply pw_below_drewN | apply below_drew1)) hb); clear hb ho38; obtain ⟨Ao39, co39, eo39⟩ := Kd.R_slice HO15011.out; subst eo39; obtain ⟨Ao40, co40, eo40⟩ := Kd.R_slice HO15034.out; subst eo40) | (go_at_call 13; (with_reducible refine (papermillref41_Same.calls k _ _ t15008 _ _ y15032 true _ ?side1 ?side2 ?side3 ?side4 A13.out).mono ?_); (case side1 => exact (Kd.R_reads' HO15011.out).2.2); (case side2 => exact (Kd.R_reads' HO15011.out).2.1); (case side3 => exact (Kd.R_reads' HO15034.out).2.2); (case side4 => exact (Kd.R_reads' HO15034.out).2.1); rintro e w' ⟨rfl, ⟨nd, rfl⟩⟩) | ((with_reducible refine gate_dst (N := 74) rfl ?_); (try (refine gate_guard (by rfl) ?_; dsimp only)); refine Kd.R_lit k44 _ 44 ?hg (N := 74) ?hd (xs := ([(⟨49, 17, true⟩ : S44), (⟨29, 10, true⟩ : S44), (⟨9, 10, true⟩ : S44)] : List (S44))) (inner := [.int .i64 49, .int .i64 17, .bool true, .int .i64 29, .int .i64 10, .bool true, .int .i64 9, .int .i64 10, .bool true]) (ok := fun _ => True) (okp := fun _ => True) ?hr ?hp (fun _ hk => hk) trivial (Below.refl _ _) (Nat.le_refl _) (by simp) ?_; (case hd => rfl); (case hg => rfl); (case hr => first | (go_simp; done) | (go_simp; rfl)); (case hp => exact (Reps.c3 (show Kd.M k44 _ _ _ (⟨49, 17, true⟩ : S44) [.int .i64 49, .int .i64 17, .bool true] from (k44_mkM _ _ _ (⟨49, 17, true⟩ : S44) )) (Reps.c3 (show Kd.M k44 _ _ _ (⟨29, 10, true⟩ : S44) [.int .i64 29, .int .i64 10, .bool true] from (k44_mkM _ _ _ (⟨29, 10, true⟩ : S44) )) (Reps.c3 (show Kd.M k44 _ _ _ (⟨9, 10, true⟩ : S44) [.int .i64 9, .int .i64 10, .bool true] from (k44_mkM _ _ _ (⟨9, 10, true⟩ : S44) )) (Reps.none _ _))))); intro v15037 w41 ho42 hb hg_ hnew_; (try (replace HO15004 := Aside0.mk (Kd.R_below HO15004.out hb))); clear hg_ hnew_; (first | rw [← Ny15036.out] at ho42 | (simp only [Int.reduceToNat] at ho42; rw [← Ny15036.out] at ho42)); replace HO15007 := Aside0.mk (Kd.N_elder' (by (with_reducible repeat apply Kd.N_drewN); exact HO15007.out) (Kd.R_base ho42) hb); replace HO15014 := Aside0.mk (Kd.R_below (by (with_reducible repeat apply Kd.R_drewN); exact HO15014.out) hb); replace HO15021 := Aside0.mk (Kd.R_below (by (with_reducible repeat apply Kd.R_drewN); exact HO15021.out) hb); replace HO15025 := Aside0.mk (Kd.N_elder' (by (with_reducible repeat apply Kd.N_drewN); exact HO15025.out) (Kd.R_base ho42) hb); have HO15038 := Aside0.mk (Kd.R_lower (Kd.R_new' (Kd.R_new' (Kd.R_new' (Kd.R_new' ho42 (Kd.R_lt (by (with_reducible repeat apply Kd.R_drewN); exact HO15011.out))) (Kd.R_lt (by (with_reducible repeat apply Kd.R_drewN); exact HO15018.out))) (Kd.R_lt (by (with_reducible repeat apply Kd.R_drewN); exact HO15030.out))) (Kd.R_lt (by (with_reducible repeat apply Kd.R_drewN); exact HO15034.out))) (below_size (by repeat (first | exact HB.out | apply below_alloc | apply pw_below_drewN | apply below_drew1)))); replace HO15011 := Aside0.mk (Kd.R_elder' (by (with_reducible repeat apply Kd.R_drewN); exact HO15011.out) (Kd.R_base ho42) hb); replace HO15018 := Aside0.mk (Kd.R_elder' (by (with_reducible repeat apply Kd.R_drewN); exact HO15018.out) (Kd.R_base ho42) hb); replace HO15030 := Aside0.mk (Kd.R_elder' (by (with_reducible repeat apply Kd.R_drewN); exact HO15030.out) (Kd.R_base ho42) hb); replace HO15034 := Aside0.mk (Kd.R_elder' (by (with_reducible repeat apply Kd.R_drewN); exact HO15034.out) (Kd.R_base ho42) hb); replace HB := Aside0.mk (below_step (by repeat (first | exact HB.out | apply below_alloc | apply pw_below_drewN | apply below_drew1)) hb); clear hb ho42; obtain ⟨Ao43, co43, eo43⟩ := Kd.R_slice HO15018.out; subst eo43; obtain ⟨Ao44, co44, eo44⟩ := Kd.R_slice HO15038.out; subst eo44) | (go_at_call 13; (with_reducible refine (papermillref41_Same.calls k _ _ t15015 _ _ y15036 true _ ?side1 ?side2 ?side3 ?side4 A15.out).mono ?_); (case side1 => exact (Kd.R_reads' HO15018.out).2.2); (case side2 => exact (Kd.R_reads' HO15018.out).2.1); (case side3 => exact (Kd.R_reads' HO15038.out).2.2); (case side4 => exact (Kd.R_reads' HO15038.out).2.1); rintro e w' ⟨rfl, ⟨nd, rfl⟩⟩) | ((with_reducible refine gate_dst (N := 80) rfl ?_); (try (refine gate_guard (by rfl) ?_; dsimp only)); refine Kd.R_lit k44 _ 44 ?hg (N := 80) ?hd (xs := ([(⟨99, 30, true⟩ : S44)] : List (S44))) (inner := [.int .i64 99, .int .i64 30, .bool true]) (ok := fun _ => True) (okp := fun _ => True) ?hr ?hp (fun _ hk => hk) trivial (Below.refl _ _) (Nat.le_refl _) (by simp) ?_; (case hd => rfl); (case hg => rfl); (case hr => first | (go_simp; done) | (go_simp; rfl)); (case hp => exact (Reps.c3 (show Kd.M k44 _ _ _ (⟨99, 30, true⟩ : S44) [.int .i64 99, .int .i64 30, .bool true] from (k44_mkM _ _ _ (⟨99, 30, true⟩ : S44) )) (Reps.none _ _))); intro v15041 w45 ho46 hb hg_ hnew_; (try (replace HO15004 := Aside0.mk (Kd.R_below HO15004.out hb))); clear hg_ hnew_; (first | rw [← Ny15040.out] at ho46 | (simp only [Int.reduceToNat] at ho46; rw [← Ny15040.out] at ho46)); replace HO15007 := Aside0.mk (Kd.N_elder' (by (with_reducible repeat apply Kd.N_drewN); exact HO15007.out) (Kd.R_base ho46) hb); replace HO15014 := Aside0.mk (Kd.R_below (by (with_reducible repeat apply Kd.R_drewN); exact HO15014.out) hb); replace HO15021 := Aside0.mk (Kd.R_below (by (with_reducible repeat apply Kd.R_drewN); exact HO15021.out) hb); replace HO15025 := Aside0.mk (Kd.N_elder' (by (with_reducible repeat apply Kd.N_drewN); exact HO15025.out) (Kd.R_base ho46) hb); have HO15042 := Aside0.mk (Kd.R_lower (Kd.R_new' (Kd.R_new' (Kd.R_new' (Kd.R_new' (Kd.R_new' ho46 (Kd.R_lt (by (with_reducible repeat apply Kd.R_drewN); exact HO15011.out))) (Kd.R_lt (by (with_reducible repeat apply Kd.R_drewN); exact HO15018.out))) (Kd.R_lt (by (with_reducible repeat apply Kd.R_drewN); exact HO15030.out))) (Kd.R_lt (by (with_reducible repeat apply Kd.R_drewN); exact HO15034.out))) (Kd.R_lt (by (with_reducible repeat apply Kd.R_drewN); exact HO15038.out))) (below_size (by repeat (first | exact HB.out | apply below_alloc | apply pw_below_drewN | apply below_drew1)))); replace HO15011 := Aside0.mk (Kd.R_elder' (by (with_reducible repeat apply Kd.R_drewN); exact HO15011.out) (Kd.R_base ho46) hb); replace HO15018 := Aside0.mk (Kd.R_elder' (by (with_reducible repeat apply Kd.R_drewN); exact HO15018.out) (Kd.R_base ho46) hb); replace HO15030 := Aside0.mk (Kd.R_elder' (by (with_reducible repeat apply Kd.R_drewN); exact HO15030.out) (Kd.R_base ho46) hb); replace HO15034 := Aside0.mk (Kd.R_elder' (by (with_reducible repeat apply Kd.R_drewN); exact HO15034.out) (Kd.R_base ho46) hb); replace HO15038 := Aside0.mk (Kd.R_elder' (by (with_reducible repeat apply Kd.R_drewN); exact HO15038.out) (Kd.R_base ho46) hb); replace HB := Aside0.mk (below_step (by repeat (first | exact HB.out | apply below_alloc | apply pw_below_drewN | apply below_drew1)) hb); clear hb ho46) | ((with_reducible refine gate_dst (N := 82) rfl ?_); (try (refine gate_guard (by rfl) ?_; dsimp only)); refine Kd.R_lit k44 _ 44 ?hg (N := 82) ?hd (xs := ([(⟨69, 70, true⟩ : S44)] : List (S44))) (inner := [.int .i64 69, .int .i64 70, .bool true]) (ok := fun _ => True) (okp := fun _ => True) ?hr ?hp (fun _ hk => hk) trivial (Below.refl _ _) (Nat.le_refl _) (by simp) ?_; (case hd => rfl); (case hg => rfl); (case hr => first | (go_simp; done) | (go_simp; rfl)); (case hp => exact (Reps.c3 (show Kd.M k44 _ _ _ (⟨69, 70, true⟩ : S44) [.int .i64 69, .int .i64 70, .bool true] from (k44_mkM _ _ _ (⟨69, 70, true⟩ : S44) )) (Reps.none _ _))); intro v15044 w47 ho48 hb hg_ hnew_; (try (replace HO15004 := Aside0.mk (Kd.R_below HO15004.out hb))); clear hg_ hnew_; (first | rw [← Ny15043.out] at ho48 | (simp only [Int.reduceToNat] at ho48; rw [← Ny15043.out] at ho48)); replace HO15007 := Aside0.mk (Kd.N_elder' (by (with_reducible repeat apply Kd.N_drewN); exact HO15007.out) (Kd.R_base ho48) hb); replace HO15014 := Aside0.mk (Kd.R_below (by (with_reducible repeat apply Kd.R_drewN); exact HO15014.out) hb); replace HO15021 := Aside0.mk (Kd.R_below (by (with_reducible repeat apply Kd.R_drewN); exact HO15021.out) hb); replace HO15025 := Aside0.mk (Kd.N_elder' (by (with_reducible repeat apply Kd.N_drewN); exact HO15025.out) (Kd.R_base ho48) hb); have HO15045 := Aside0.mk (Kd.R_lower (Kd.R_new' (Kd.R_new' (Kd.R_new' (Kd.R_new' (Kd.R_new' (Kd.R_new' ho48 (Kd.R_lt (by (with_reducible repeat apply Kd.R_drewN); exact HO15011.out))) (Kd.R_lt (by (with_reducible repeat apply Kd.R_drewN); exact HO15018.out))) (Kd.R_lt (by (with_reducible repeat apply Kd.R_drewN); exact HO15030.out))) (Kd.R_lt (by (with_reducible repeat apply Kd.R_drewN); exact HO15034.out))) (Kd.R_lt (by (with_reducible repeat apply Kd.R_drewN); exact HO15038.out))) (Kd.R_lt (by (with_reducible repeat apply Kd.R_drewN); exact HO15042.out))) (below_size (by repeat (first | exact HB.out | apply below_alloc | apply pw_below_drewN | apply below_drew1)))); replace HO15011 := Aside0.mk (Kd.R_elder' (by (with_reducible repeat apply Kd.R_drewN); exact HO15011.out) (Kd.R_base ho48) hb); replace HO15018 := Aside0.mk (Kd.R_elder' (by (with_reducible repeat apply Kd.R_drewN); exact HO15018.out) (Kd.R_base ho48) hb); replace HO15030 := Aside0.mk (Kd.R_elder' (by (with_reducible repeat apply Kd.R_drewN); exact HO15030.out) (Kd.R_base ho48) hb); replace HO15034 := Aside0.mk (Kd.R_elder' (by (with_reducible repeat apply Kd.R_drewN); exact HO15034.out) (Kd.R_base ho48) hb); replace HO15038 := Aside0.mk (Kd.R_elder' (by (with_reducible repeat apply Kd.R_drewN); exact HO15038.out) (Kd.R_base ho48) hb); replace HO15042 := Aside0.mk (Kd.R_elder' (by (with_reducible repeat apply Kd.R_drewN); exact HO15042.out) (Kd.R_base ho48) hb); replace HB := Aside0.mk (below_step (by repeat (first | exact HB.out | apply below_alloc | apply pw_below_drewN | apply below_drew1)) hb); clear hb ho48; obtain ⟨Ao49, co49, eo49⟩ := Kd.R_slice HO15042.out; subst eo49; obtain ⟨Ao50, co50, eo50⟩ := Kd.R_slice HO15045.out; subst eo50) | ((with_reducible refine gate_dst (N := 83) rfl ?_); (try (refine gate_guard (by rfl) ?_; dsimp only)); refine Kd.N_lit (Kd.slice 44 k44) _ 22 ?hg (N' := 83) ?hd (xs := ([y15040, y15043] : List (List (S44)))) (inner := [.slice Ao49 y15040.length co49, .slice Ao50 y15043.length co50]) (ok := (fun k_ => some k_ ≠ (.slice Ao23 y15005.length co23 : Value).ownBlock ∧ some k_ ≠ (.slice Ao39 t15008.length co39 : Value).ownBlock ∧ some k_ ≠ (.slice Ao27 y15012.length co27 : Value).ownBlock ∧ some k_ ≠ (.slice Ao43 t15015.length co43 : Value).ownBlock ∧ some k_ ≠ (.slice Ao31 y15019.length co31 : Value).ownBlock ∧ some k_ ≠ (v15024 : Value).ownBlock ∧ some k_ ≠ (.slice Ao36 y15028.length co36 : Value).ownBlock ∧ some k_ ≠ (.slice Ao40 y15032.length co40 : Value).ownBlock ∧ some k_ ≠ (.slice Ao44 y15036.length co44 : Value).ownBlock)) (okp := (fun k_ => some k_ ≠ (.slice Ao23 y15005.length co23 : Value).ownBlock ∧ some k_ ≠ (.slice Ao39 t15008.length co39 : Value).ownBlock ∧ some k_ ≠ (.slice Ao27 y15012.length co27 : Value).ownBlock ∧ some k_ ≠ (.slice Ao43 t15015.length co43 : Value).ownBlock ∧ some k_ ≠ (.slice Ao31 y15019.length co31 : Value).ownBlock ∧ some k_ ≠ (v15024 : Value).ownBlock ∧ some k_ ≠ (.slice Ao36 y15028.length co36 : Value).ownBlock ∧ some k_ ≠ (.slice Ao40 y15032.length co40 : Value).ownBlock ∧ some k_ ≠ (.slice Ao44 y15036.length co44 : Value).ownBlock)) ?hr ?hp (fun _ hk => hk) ((show ∀ k_, w47.heap.size ≤ k_ → (fun k_ => some k_ ≠ (.slice Ao23 y15005.length co23 : Value).ownBlock ∧ some k_ ≠ (.slice Ao39 t15008.length co39 : Value).ownBlock ∧ some k_ ≠ (.slice Ao27 y15012.length co27 : Value).ownBlock ∧ some k_ ≠ (.slice Ao43 t15015.length co43 : Value).ownBlock ∧ some k_ ≠ (.slice Ao31 y15019.length co31 : Value).ownBlock ∧ some k_ ≠ (v15024 : Value).ownBlock ∧ some k_ ≠ (.slice Ao36 y15028.length co36 : Value).ownBlock ∧ some k_ ≠ (.slice Ao40 y15032.length co40 : Value).ownBlock ∧ some k_ ≠ (.slice Ao44 y15036.length co44 : Value).ownBlock) k_ from fun k_ hk => ⟨Kd.fresh' (Kd.N_lt (by (with_reducible repeat apply Kd.N_drewN); exact HO15007.out)) k_ hk, Kd.fresh' (Kd.R_lt (by (with_reducible repeat apply Kd.R_drewN); exact HO15011.out)) k_ hk, Kd.fresh' (Kd.R_lt (by (with_reducible repeat apply Kd.R_drewN); exact HO15014.out)) k_ hk, Kd.fresh' (Kd.R_lt (by (with_reducible repeat apply Kd.R_drewN); exact HO15018.out)) k_ hk, Kd.fresh' (Kd.R_lt (by (with_reducible repeat apply Kd.R_drewN); exact HO15021.out)) k_ hk, Kd.fresh' (Kd.N_lt (by (with_reducible repeat apply Kd.N_drewN); exact HO15025.out)) k_ hk, Kd.fresh' (Kd.R_lt (by (with_reducible repeat apply Kd.R_drewN); exact HO15030.out)) k_ hk, Kd.fresh' (Kd.R_lt (by (with_reducible repeat apply Kd.R_drewN); exact HO15034.out)) k_ hk, Kd.fresh' (Kd.R_lt (by (with_reducible repeat apply Kd.R_drewN); exact HO15038.out)) k_ hk⟩) _ (Nat.le_refl _)) (Below.refl _ _) (Nat.le_refl _) (by simp) ?_; (case hd => rfl); (case hg => rfl); (case hr => first | (go_simp; done) | (go_simp; rfl)); (case hp => exact (Reps.one (show Kd.FK (Kd.slice 44 k44) _ _ y15040 [.slice Ao49 y15040.length co49] from (Kd.FK_slice_mk (Kd.R_reads' (Kd.R_mono (ok' := (fun k_ => some k_ ≠ (.slice Ao23 y15005.length co23 : Value).ownBlock ∧ some k_ ≠ (.slice Ao39 t15008.length co39 : Value).ownBlock ∧ some k_ ≠ (.slice Ao27 y15012.length co27 : Value).ownBlock ∧ some k_ ≠ (.slice Ao43 t15015.length co43 : Value).ownBlock ∧ some k_ ≠ (.slice Ao31 y15019.length co31 : Value).ownBlock ∧ some k_ ≠ (v15024 : Value).ownBlock ∧ some k_ ≠ (.slice Ao36 y15028.length co36 : Value).ownBlock ∧ some k_ ≠ (.slice Ao40 y15032.length co40 : Value).ownBlock ∧ some k_ ≠ (.slice Ao44 y15036.length co44 : Value).ownBlock)) (Kd.R_apart' (Kd.R_apart' (Kd.R_apart' (Kd.R_apart' (HO15042.out) (Kd.N_typed HO15007.out) (by decide)) (Kd.R_typed HO15014.out) (by decide)) (Kd.R_typed HO15021.out) (by decide)) (Kd.N_typed HO15025.out) (by decide)) (fun k_ hk => ⟨hk.1.1.1.2, ⟨hk.1.1.1.1.1.1.1.1.1.2, ⟨hk.1.1.2, ⟨hk.1.1.1.1.1.1.1.1.2, ⟨hk.1.2, ⟨hk.2, ⟨hk.1.1.1.1.1.1.1.2, ⟨hk.1.1.1.1.1.1.2, hk.1.1.1.1.1.2⟩⟩⟩⟩⟩⟩⟩⟩))).2.1 (Kd.R_F (Kd.R_mono (ok' := (fun k_ => some k_ ≠ (.slice Ao23 y15005.length co23 : Value).ownBlock ∧ some k_ ≠ (.slice Ao39 t15008.length co39 : Value).ownBlock ∧ some k_ ≠ (.slice Ao27 y15012.length co27 : Value).ownBlock ∧ some k_ ≠ (.slice Ao43 t15015.length co43 : Value).ownBlock ∧ some k_ ≠ (.slice Ao31 y15019.length co31 : Value).ownBlock ∧ some k_ ≠ (v15024 : Value).ownBlock ∧ some k_ ≠ (.slice Ao36 y15028.length co36 : Value).ownBlock ∧ some k_ ≠ (.slice Ao40 y15032.length co40 : Value).ownBlock ∧ some k_ ≠ (.slice Ao44 y15036.length co44 : Value).ownBlock)) (Kd.R_apart' (Kd.R_apart' (Kd.R_apart' (Kd.R_apart' (HO15042.out) (Kd.N_typed HO15007.out) (by decide)) (Kd.R_typed HO15014.out) (by decide)) (Kd.R_typed HO15021.out) (by decide)) (Kd.N_typed HO15025.out) (by decide)) (fun k_ hk => ⟨hk.1.1.1.2, ⟨hk.1.1.1.1.1.1.1.1.1.2, ⟨hk.1.1.2, ⟨hk.1.1.1.1.1.1.1.1.2, ⟨hk.1.2, ⟨hk.2, ⟨hk.1.1.1.1.1.1.1.2, ⟨hk.1.1.1.1.1.1.2, hk.1.1.1.1.1.2⟩⟩⟩⟩⟩⟩⟩⟩))))) (Reps.one (show Kd.FK (Kd.slice 44 k44) _ _ y15043 [.slice Ao50 y15043.length co50] from (Kd.FK_slice_mk (Kd.R_reads' (Kd.R_mono (ok' := (fun k_ => some k_ ≠ (.slice Ao23 y15005.length co23 : Value).ownBlock ∧ some k_ ≠ (.slice Ao39 t15008.length co39 : Value).ownBlock ∧ some k_ ≠ (.slice Ao27 y15012.length co27 : Value).ownBlock ∧ some k_ ≠ (.slice Ao43 t15015.length co43 : Value).ownBlock ∧ some k_ ≠ (.slice Ao31 y15019.length co31 : Value).ownBlock ∧ some k_ ≠ (v15024 : Value).ownBlock ∧ some k_ ≠ (.slice Ao36 y15028.length co36 : Value).ownBlock ∧ some k_ ≠ (.slice Ao40 y15032.length co40 : Value).ownBlock ∧ some k_ ≠ (.slice Ao44 y15036.length co44 : Value).ownBlock)) (Kd.R_apart' (Kd.R_apart' (Kd.R_apart' (Kd.R_apart' (HO15045.out) (Kd.N_typed HO15007.out) (by decide)) (Kd.R_typed HO15014.out) (by decide)) (Kd.R_typed HO15021.out) (by decide)) (Kd.N_typed HO15025.out) (by decide)) (fun k_ hk => ⟨hk.1.1.1.2, ⟨hk.1.1.1.1.1.1.1.1.1.2, ⟨hk.1.1.2, ⟨hk.1.1.1.1.1.1.1.1.2, ⟨hk.1.2, ⟨hk.2, ⟨hk.1.1.1.1.1.1.1.2, ⟨hk.1.1.1.1.1.1.2, hk.1.1.1.1.1.2⟩⟩⟩⟩⟩⟩⟩⟩))).2.1 (Kd.R_F (Kd.R_mono (ok' := (fun k_ => some k_ ≠ (.slice Ao23 y15005.length co23 : Value).ownBlock ∧ some k_ ≠ (.slice Ao39 t15008.length co39 : Value).ownBlock ∧ some k_ ≠ (.slice Ao27 y15012.length co27 : Value).ownBlock ∧ some k_ ≠ (.slice Ao43 t15015.length co43 : Value).ownBlock ∧ some k_ ≠ (.slice Ao31 y15019.length co31 : Value).ownBlock ∧ some k_ ≠ (v15024 : Value).ownBlock ∧ some k_ ≠ (.slice Ao36 y15028.length co36 : Value).ownBlock ∧ some k_ ≠ (.slice Ao40 y15032.length co40 : Value).ownBlock ∧ some k_ ≠ (.slice Ao44 y15036.length co44 : Value).ownBlock)) (Kd.R_apart' (Kd.R_apart' (Kd.R_apart' (Kd.R_apart' (HO15045.out) (Kd.N_typed HO15007.out) (by decide)) (Kd.R_typed HO15014.out) (by decide)) (Kd.R_typed HO15021.out) (by decide)) (Kd.N_typed HO15025.out) (by decide)) (fun k_ hk => ⟨hk.1.1.1.2, ⟨hk.1.1.1.1.1.1.1.1.1.2, ⟨hk.1.1.2, ⟨hk.1.1.1.1.1.1.1.1.2, ⟨hk.1.2, ⟨hk.2, ⟨hk.1.1.1.1.1.1.1.2, ⟨hk.1.1.1.1.1.1.2, hk.1.1.1.1.1.2⟩⟩⟩⟩⟩⟩⟩⟩))))) (Reps.none _ _)))); intro v15047 w51 ho52 hb hg_ hnew_; (try (replace HO15004 := Aside0.mk (Kd.R_below HO15004.out hb))); clear hg_ hnew_; (first | rw [← Ny15046.out] at ho52 | (simp only [Int.reduceToNat] at ho52; rw [← Ny15046.out] at ho52)); replace HO15007 := Aside0.mk (Kd.N_elder' (by (with_reducible repeat apply Kd.N_drewN); exact HO15007.out) (Kd.N_base ho52) hb); replace HO15011 := Aside0.mk (Kd.R_below (by (with_reducible repeat apply Kd.R_drewN); exact HO15011.out) hb); replace HO15014 := Aside0.mk (Kd.R_below (by (with_reducible repeat apply Kd.R_drewN); exact HO15014.out) hb); replace HO15018 := Aside0.mk (Kd.R_below (by (with_reducible repeat apply Kd.R_drewN); exact HO15018.out) hb); replace HO15021 := Aside0.mk (Kd.R_below (by (with_reducible repeat apply Kd.R_drewN); exact HO15021.out) hb); replace HO15025 := Aside0.mk (Kd.N_elder' (by (with_reducible repeat apply Kd.N_drewN); exact HO15025.out) (Kd.N_base ho52) hb); replace HO15030 := Aside0.mk (Kd.R_below (by (with_reducible repeat apply Kd.R_drewN); exact HO15030.out) hb); replace HO15034 := Aside0.mk (Kd.R_below (by (with_reducible repeat apply Kd.R_drewN); exact HO15034.out) hb); replace HO15038 := Aside0.mk (Kd.R_below (by (with_reducible repeat apply Kd.R_drewN); exact HO15038.out) hb); have HO15048 := Aside0.mk (Kd.N_lower ho52 (below_size (by repeat (first | exact HB.out | apply below_alloc | apply pw_below_drewN | apply below_drew1)))); replace HB := Aside0.mk (below_step (by repeat (first | exact HB.out | apply below_alloc | apply pw_below_drewN | apply below_drew1)) hb); clear HO15042 HO15045; clear hb ho52; obtain ⟨Ao53, co53, eo53⟩ := Kd.N_slice HO15025.out; subst eo53; obtain ⟨Ao54, co54, eo54⟩ := Kd.N_slice HO15048.out; subst eo54) | (go_at_call 19; (with_reducible refine (papermilllaw41_same.calls k _ _ t15022 _ _ y15046 true _ ?side1 ?side2 ?side3 ?side4 A17.out).mono ?_); (case side1 => repeat (first | exact (Kd.N_reads' HO15025.out).2.2 | (with_reducible refine Kd.C_alloc ?_ _) | (with_reducible refine Kd.C_drewN ?_ _) | (with_reducible refine Kd.C_drew ?_))); (case side2 => exact (Kd.N_reads' HO15025.out).2.1); (case side3 => repeat (first | exact (Kd.N_reads' HO15048.out).2.2 | (with_reducible refine Kd.C_alloc ?_ _) | (with_reducible refine Kd.C_drewN ?_ _) | (with_reducible refine Kd.C_drew ?_))); (case side4 => exact (Kd.N_reads' HO15048.out).2.1); rintro e w' ⟨rfl, ⟨nd, rfl⟩⟩))
          go_ret
          exact ⟨by rw [hr_.out] <;> first | rfl | (simp [errW_none, errW_some] <;> rfl) | (simp [*, errW_none, errW_some] <;> rfl), by repeat (first | exact HB.out | apply below_alloc | apply pw_below_drewN | apply below_drew1)⟩
         ·replace c18 := Bool.eq_false_iff.mpr c18
          subst c18
          have H1 : (some false) = some true := by rw [if_neg (show ¬ (false = true) by decide)] at H; first | exact H | simpa using H
          clear H
          have H := H1
          clear H1
          exact absurd H (by simp)
        ·replace c16 := Bool.eq_false_iff.mpr c16
         subst c16
         have H1 : (some false) = some true := by rw [if_neg (show ¬ (false = true) by decide)] at H; first | exact H | simpa using H
         clear H
         have H := H1
         clear H1
         exact absurd H (by simp)
       ·replace c14 := Bool.eq_false_iff.mpr c14
        subst c14
        have H1 : (some false) = some true := by rw [if_neg (show ¬ (false = true) by decide)] at H; first | exact H | simpa using H
        clear H
        have H := H1
        clear H1
        exact absurd H (by simp)
      ·replace c12 := Bool.eq_false_iff.mpr c12
       subst c12
       have H1 : (some false) = some true := by rw [if_neg (show ¬ (false = true) by decide)] at H; first | exact H | simpa using H
       clear H
       have H := H1
       clear H1
       exact absurd H (by simp)
     ·rw [if_neg c10] at H
      have c10b0 : (t15027 == 0) = false := beq_eq_false_iff_ne.mpr c10
      have c10b1 : (t15027 != 0) = true := bne_iff_ne.mpr c10
      exact absurd H (by simp)
    ·rw [if_neg c9] at H
     have c9b0 : (t15023 == 0) = false := beq_eq_false_iff_ne.mpr c9
     have c9b1 : (t15023 != 0) = true := bne_iff_ne.mpr c9
     exact absurd H (by simp)
   ·rw [if_neg c8] at H
    have c8b0 : (t15016 == 0) = false := beq_eq_false_iff_ne.mpr c8
    have c8b1 : (t15016 != 0) = true := bne_iff_ne.mpr c8
    exact absurd H (by simp)
  ·rw [if_neg c7] at H
   have c7b0 : (t15009 == 0) = false := beq_eq_false_iff_ne.mpr c7
   have c7b1 : (t15009 != 0) = true := bne_iff_ne.mpr c7
   exact absurd H (by simp)
 ·rw [if_neg c6] at H
  have c6b0 : (t15002 == 0) = false := beq_eq_false_iff_ne.mpr c6
  have c6b1 : (t15002 != 0) = true := bne_iff_ne.mpr c6
  exact absurd H (by simp)

end Go.Proofs.Ytalpegglbfobiaa.G

namespace Go.Proofs.Ytalpegglbfobiaa.G
open Go.RowKit Go.Proofs.YtalpegglbfobiaaW.PrintWords Go.Proofs.YtalpegglbfobiaaW.PrintLast Go.Proofs.YtalpegglbfobiaaW.PrintMore
set_option linter.unusedVariables false
set_option linter.unusedSimpArgs false
theorem awake41_true : ∃ k, papermilllaw41_awakeP.f k = some true := by
 suffices h : Ends (fun k => papermilllaw41_awakeP.f k) true from h.get
 unfold papermilllaw41_awakeP.f
 have e1 : wholeOf 100 = ([⟨99, 100, true⟩], 0) := by kernel_rfl
 have e2 : afterOf [[⟨99, 100, true⟩], [⟨99, 100, true⟩]] = ([⟨0, 100, false⟩], 0) := by kernel_rfl
 have e3 : cullOf 50 [⟨10, 20⟩, ⟨30, 33⟩] 5 = ([⟨49, 17, true⟩, ⟨29, 10, true⟩, ⟨9, 10, true⟩], 0) := by kernel_rfl
 have e4 : splitOf 100 [30, 70] = ([[⟨99, 30, true⟩], [⟨69, 70, true⟩]], 0) := by kernel_rfl
 have e5 : backwOf [⟨99, 100, true⟩] = (true, 0) := by kernel_rfl
 simp only [whole_is, e1, Option.bind_some]
 refine Ends.bind ((after_ends _).congr e2) (Ends.bind ((cull_ends 50 _ 5).congr e3) (Ends.bind ((split_ends 100 _).congr e4) (Ends.bind ((backw_ends _).congr e5) ?_)))
 refine Ends.pos (by first | trivial | rfl) (Ends.pos (by first | trivial | rfl) (Ends.pos (by first | trivial | rfl) (Ends.pos (by first | trivial | rfl) (Ends.pos (by first | trivial | rfl) (Ends.bind (rsameM_ends _ (by decide)) (Ends.pos (by first | trivial | rfl) (Ends.bind (rsameM_ends _ (by decide)) (Ends.pos (by first | trivial | rfl) (Ends.bind (rsameM_ends _ (by decide)) (Ends.pos (by first | trivial | rfl) (Ends.bind (same41_ends _ (by decide) (by decide)) (Ends.pos (by first | trivial | rfl) (Ends.ret _)))))))))))))
def papermilllaw41_awake.f : Option Bool := some true
theorem papermilllaw41_awake.calls (r : Bool) (w : World) (h : papermilllaw41_awake.f = some r) : Calls Try.prog 14 #[] w fun e w' => e = .returned (.bool r) ∧ Below w.heap.size w w' := by
 obtain rfl := Option.some.inj h
 obtain ⟨k, hk⟩ := awake41_true
 exact papermilllaw41_awakeP.calls k w hk
end Go.Proofs.Ytalpegglbfobiaa.G
