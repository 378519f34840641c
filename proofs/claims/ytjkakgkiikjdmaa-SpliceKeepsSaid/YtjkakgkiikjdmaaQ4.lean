import Derived.Test.YtjkakgkiikjdmaaQ2
import Derived.Test.YtjkakgkiikjdmaaQ3
import Derived.Test.YtjkakgkiikjdmaaQ1
import Derived.Deep.LoopGhost
import Derived.Sort.QuietIn
import Derived.Deep.Fields
import Derived.RangeFuncRecord
import Derived.StillTailTactics
namespace Go.Proofs.Ytjkakgkiikjdmaa.G
open Go.RowKit Go.Proofs.YtjkakgkiikjdmaaW.PrintWords Go.Proofs.YtjkakgkiikjdmaaW.PrintLast Go.Proofs.YtjkakgkiikjdmaaW.PrintMore
set_option linter.unusedVariables false
set_option linter.unusedSimpArgs false
theorem scheck_l0 (l : List S49) (hl : l.length ≤ 256) : ∀ (d i : Nat), l.length - i = d → i ≤ l.length → Ends (fun k => span_Check.l0 k l (l.length : Int) (i : Int)) (if ∃ s ∈ l.drop i, badS s then 1 else 0) := by
  intro d
  induction d with
  | zero =>
    intro i hd hi
    refine Ends.succ ?_
    simp only [span_Check.l0]
    refine Ends.neg (by omega) ?_
    rw [List.drop_of_length_le (by omega), if_neg (by simp)]
    exact Ends.ret _
  | succ d ih =>
    intro i hd hi
    refine Ends.succ ?_
    simp only [span_Check.l0, wrap_nat i (by omega)]
    refine Ends.pos (by omega) (Ends.pos (by omega) (Ends.pos (by omega) ?_))
    rw [drop36 l i (by omega)]
    generalize rd_T49 l (i : Int) = x
    by_cases h : badS x
    · rw [if_pos ⟨x, by simp, h⟩]
      unfold badS at h
      by_cases h1 : x.f0 < 0
      · exact Ends.pos h1 (Ends.ret _)
      · refine Ends.neg h1 ?_
        by_cases h2 : x.f0 > x.f1
        · exact Ends.pos h2 (Ends.ret _)
        · exact Ends.neg h2 (Ends.pos (by omega) (Ends.ret _))
    · have e : (∃ s ∈ x :: l.drop (i + 1), badS s) ↔ ∃ s ∈ l.drop (i + 1), badS s := by simp [h]
      simp only [e]
      unfold badS at h
      exact Ends.neg (by omega) (Ends.neg (by omega) (Ends.neg (by omega) (ih (i + 1) (by omega) (by omega))))
theorem scheck_ends (l : List S49) : Ends (fun k => span_Check.f k l) (check04 l) := by
  unfold span_Check.f check04
  by_cases h : l.length > 256
  · rw [if_pos h]
    exact Ends.pos (by omega) (Ends.ret _)
  · rw [if_neg h]
    exact Ends.neg (by omega) (scheck_l0 l (by omega) _ 0 rfl (by omega))
def idx (a : List S49) (x : Int) : Nat := (a.takeWhile fun s => decide (s.f1 ≤ x)).length
theorem idx_le (a : List S49) (x : Int) : idx a x ≤ a.length := by unfold idx; exact (List.takeWhile_sublist _).length_le
theorem idx_cons (s : S49) (a : List S49) (x : Int) : idx (s :: a) x = if s.f1 ≤ x then idx a x + 1 else 0 := by
  unfold idx
  by_cases h : s.f1 ≤ x <;> simp [List.takeWhile_cons, h]
theorem idx_lt : ∀ (a : List S49) (x : Int) (i : Nat), i < idx a x → (rd_T49 a (i : Int)).f1 ≤ x
  | [], x, i, h => by simp [idx] at h
  | s :: a, x, i, h => by
    rw [idx_cons] at h
    split at h
    · cases i with
      | zero => simpa [rd_T49]
      | succ i => have := idx_lt a x i (by omega); simpa [rd_T49] using this
    · omega
theorem idx_at : ∀ (a : List S49) (x : Int), idx a x < a.length → x < (rd_T49 a (idx a x : Int)).f1
  | [], x, h => by simp at h
  | s :: a, x, h => by
    rw [idx_cons] at h ⊢
    split at h
    · rename_i h1
      rw [if_pos h1]
      have := idx_at a x (by simp at h; omega)
      simpa [rd_T49] using this
    · rename_i h1
      rw [if_neg h1]
      simp [rd_T49]; omega
theorem idx_mono (x y : Int) (h : x ≤ y) : ∀ (a : List S49), idx a x ≤ idx a y
  | [] => Nat.le_refl _
  | s :: a => by
    rw [idx_cons, idx_cons]
    have := idx_mono x y h a
    split
    · rw [if_pos (by omega)]; omega
    · omega
theorem hasOf_cons (s : S49) (a : List S49) (x : Int) : hasOf (s :: a) x = (decide (s.f0 ≤ x ∧ x < s.f1) || hasOf a x) := rfl
theorem sep_has {a : List S49} {e x : Int} (h : sep e a) (hx : x ≤ e) : hasOf a x = false := by
  cases hh : hasOf a x with
  | false => rfl
  | true => have := sep_mem h ((hasOf_iff a x).1 hh); omega
theorem has_idx : ∀ (a : List S49) (e x : Int), sep e a → hasOf a x = (decide (idx a x < a.length) && decide ((rd_T49 a (idx a x : Int)).f0 ≤ x))
  | [], e, x, _ => by simp [hasOf]
  | s :: a, e, x, h => by
    rw [hasOf_cons, idx_cons]
    by_cases h1 : s.f1 ≤ x
    · rw [if_pos h1, has_idx a s.f1 x h.2.2]
      have e1 : decide (s.f0 ≤ x ∧ x < s.f1) = false := by simp; omega
      rw [e1]
      simp [rd_T49]
    · rw [if_neg h1, sep_has h.2.2 (by omega)]
      have e1 : (s.f0 ≤ x ∧ x < s.f1) ↔ s.f0 ≤ x := by omega
      simp [e1, rd_T49]
section
variable (kf : Bool → Bool → Option Bool) (kp : Bool → Bool → Bool) (hk : ∀ p q, kf p q = some (kp p q))
variable (a b : List S49) (E : List Int)
theorem sets_l2 (out : List S49) (j x n : Int) (r : List S49 × Int) (ha : a.length < 1000000) (h : Ends (fun k => span_sets.j3 kf k a b E out (idx a x) j n x E (E.length : Int) n) r) :
    ∀ (d i : Nat), idx a x - i = d → i ≤ idx a x → Ends (fun k => span_sets.l2 kf k a b E out (i : Int) j n x E (E.length : Int) n) r := by
  have hle := idx_le a x
  intro d
  induction d with
  | zero =>
    intro i hd hi
    obtain rfl : i = idx a x := by omega
    refine Ends.succ ?_
    simp only [span_sets.l2, wrap_nat (idx a x) (by omega)]
    by_cases h1 : idx a x < a.length
    · exact Ends.pos (by omega) (Ends.pos (by omega) (Ends.neg (by have := idx_at a x h1; omega) h))
    · exact Ends.neg (by omega) h
  | succ d ih =>
    intro i hd hi
    refine Ends.succ ?_
    simp only [span_sets.l2, wrap_nat i (by omega)]
    exact Ends.pos (by omega) (Ends.pos (by omega) (Ends.pos (idx_lt a x i (by omega)) (ih (i + 1) (by omega) (by omega))))
theorem sets_l3 (out : List S49) (i x n : Int) (r : List S49 × Int) (hb : b.length < 1000000) (h : Ends (fun k => span_sets.j5 kf k a b E out i (idx b x) n x E (E.length : Int) n) r) :
    ∀ (d j : Nat), idx b x - j = d → j ≤ idx b x → Ends (fun k => span_sets.l3 kf k a b E out i (j : Int) n x E (E.length : Int) n) r := by
  have hle := idx_le b x
  intro d
  induction d with
  | zero =>
    intro j hd hj
    obtain rfl : j = idx b x := by omega
    refine Ends.succ ?_
    simp only [span_sets.l3, wrap_nat (idx b x) (by omega)]
    by_cases h1 : idx b x < b.length
    · exact Ends.pos (by omega) (Ends.pos (by omega) (Ends.neg (by have := idx_at b x h1; omega) h))
    · exact Ends.neg (by omega) h
  | succ d ih =>
    intro j hd hj
    refine Ends.succ ?_
    simp only [span_sets.l3, wrap_nat j (by omega)]
    exact Ends.pos (by omega) (Ends.pos (by omega) (Ends.pos (idx_lt b x j (by omega)) (ih (j + 1) (by omega) (by omega))))
def setsFin (o : List S49) : List S49 × Int := if (joinOf o).length > 256 then ([], 8) else (joinOf o, 0)
include hk in
theorem sets_j6 (ea eb : Int) (sa : sep ea a) (sb : sep eb b) (out : List S49) (n : Nat) (x : Int) (hn : n + 1 < E.length) (hE : E.length < 1000000) (ho : out.length < 1000000) (r : List S49 × Int)
    (h : Ends (fun k => span_sets.l1 kf k a b E (out ++ if kp (hasOf a x) (hasOf b x) = true then [⟨x, rd E ((n + 1 : Nat) : Int)⟩] else []) (idx a x) (idx b x) E (E.length : Int) ((n + 1 : Nat) : Int)) r) :
    Ends (fun k => span_sets.j6 kf k a b E out (idx a x) (idx b x) (n : Int) x E (E.length : Int) (n : Int) false) r := by
  refine Ends.succ ?_
  simp only [span_sets.j6, wrap_nat n (by omega), hk, Option.bind_some]
  have ga := has_idx a ea x sa
  have gb := has_idx b eb x sb
  have fin : ∀ c : Bool, c = kp (hasOf a x) (hasOf b x) → Ends (fun k => if c = true then (if 0 ≤ ((n + 1 : Nat) : Int) then (if ((n + 1 : Nat) : Int) < (E.length : Int) then (if out.length < 8796093022208 then (span_sets.l1 kf k a b E (out ++ [(⟨x, rd E ((n + 1 : Nat) : Int)⟩ : S49)]) (idx a x) (idx b x) E (E.length : Int) ((n + 1 : Nat) : Int)) else none) else none) else none) else (span_sets.l1 kf k a b E out (idx a x) (idx b x) E (E.length : Int) ((n + 1 : Nat) : Int))) r := by
    intro c hc
    subst hc
    cases hkp : kp (hasOf a x) (hasOf b x) with
    | true => rw [hkp] at h; exact Ends.pos rfl (Ends.pos (by omega) (Ends.pos (by omega) (Ends.pos (by omega) (by simpa using h))))
    | false => rw [hkp] at h; exact Ends.neg (by simp) (by simpa using h)
  refine Ends.neg (by simp) ?_
  by_cases h1 : idx a x < a.length
  · have ea1 : hasOf a x = decide ((rd_T49 a (idx a x : Int)).f0 ≤ x) := by rw [ga]; simp [h1]
    refine Ends.pos (by omega) (Ends.pos (by omega) ?_)
    by_cases h2 : idx b x < b.length
    · have eb1 : hasOf b x = decide ((rd_T49 b (idx b x : Int)).f0 ≤ x) := by rw [gb]; simp [h2]
      exact Ends.pos (by omega) (Ends.pos (by omega) (fin _ (by rw [ea1, eb1])))
    · have eb1 : hasOf b x = false := by rw [gb]; simp [h2]
      exact Ends.neg (by omega) (fin _ (by rw [ea1, eb1]))
  · have ea1 : hasOf a x = false := by rw [ga]; simp [h1]
    refine Ends.neg (by omega) ?_
    by_cases h2 : idx b x < b.length
    · have eb1 : hasOf b x = decide ((rd_T49 b (idx b x : Int)).f0 ≤ x) := by rw [gb]; simp [h2]
      exact Ends.pos (by omega) (Ends.pos (by omega) (fin _ (by rw [ea1, eb1])))
    · have eb1 : hasOf b x = false := by rw [gb]; simp [h2]
      exact Ends.neg (by omega) (fin _ (by rw [ea1, eb1]))
theorem sweep_in : ∀ (L : List Int), L.Pairwise (· ≤ ·) → ∀ s ∈ sweep kp a b L, s.f0 ∈ L ∧ s.f1 ∈ L ∧ s.f0 ≤ s.f1
  | [], _, s, h => by simp [sweep] at h
  | [c], _, s, h => by simp [sweep] at h
  | c :: d :: r, hp, s, h => by
    rw [List.pairwise_cons] at hp
    rw [sweep, List.mem_append] at h
    rcases h with h | h
    · split at h
      · obtain rfl := List.mem_singleton.1 h
        exact ⟨by simp, by simp, hp.1 d (by simp)⟩
      · simp at h
    · obtain ⟨h1, h2, h3⟩ := sweep_in (d :: r) hp.2 s h
      exact ⟨List.mem_cons_of_mem _ h1, List.mem_cons_of_mem _ h2, h3⟩
theorem sorted_rd (hE : E.Pairwise (· ≤ ·)) (n : Nat) (h : n + 1 < E.length) : rd E (n : Int) ≤ rd E ((n + 1 : Nat) : Int) := by
  rw [rdI E n (by omega), rdI E (n + 1) h]
  exact List.pairwise_iff_getElem.1 hE n (n + 1) (by omega) h (by omega)
include hk in
theorem sets_l1 (ea eb : Int) (sa : sep ea a) (sb : sep eb b) (ha : a.length < 1000000) (hb : b.length < 1000000) (hE : E.length < 400000) (hs : E.Pairwise (· ≤ ·)) : ∀ (d n i j : Nat) (out : List S49), E.length - n = d → n ≤ E.length → (n < E.length → i ≤ idx a (rd E (n : Int)) ∧ j ≤ idx b (rd E (n : Int))) → out.length + d < 400000 → okSpans (out ++ sweep kp a b (E.drop n)) = true →
    Ends (fun k => span_sets.l1 kf k a b E out (i : Int) (j : Int) E (E.length : Int) (n : Int)) (setsFin (out ++ sweep kp a b (E.drop n))) := by
  intro d
  induction d with
  | zero =>
    intro n i j out hd hn hij ho hok
    refine Ends.succ ?_
    simp only [span_sets.l1]
    refine Ends.neg (by omega) ?_
    rw [List.drop_of_length_le (by omega)] at hok ⊢
    rw [show sweep kp a b ([] : List Int) = [] from rfl, List.append_nil] at hok ⊢
    have e : span_joined.f out = some (joinOf out) := by unfold span_joined.f; rw [if_pos hok]
    simp only [e, Option.bind_some]
    unfold setsFin
    by_cases h : (joinOf out).length > 256
    · rw [if_pos h]; exact Ends.pos (by omega) (Ends.ret _)
    · rw [if_neg h]; exact Ends.neg (by omega) (Ends.ret _)
  | succ d ih =>
    intro n i j out hd hn hij ho hok
    refine Ends.succ ?_
    simp only [span_sets.l1, wrap_nat n (by omega)]
    refine Ends.pos (by omega) (Ends.pos (by omega) (Ends.pos (by omega) ?_))
    obtain ⟨hi, hj⟩ := hij (by omega)
    refine sets_l2 kf a b E out j _ n _ ha ?_ _ i rfl hi
    refine Ends.succ ?_
    simp only [span_sets.j3]
    refine sets_l3 kf a b E out _ _ n _ hb ?_ _ j rfl hj
    refine Ends.succ ?_
    simp only [span_sets.j5, wrap_nat n (by omega)]
    have next : ∀ (out' : List S49), out'.length + d < 400000 → out' ++ sweep kp a b (E.drop (n + 1)) = out ++ sweep kp a b (E.drop n) → Ends (fun k => span_sets.l1 kf k a b E out' (idx a (rd E (n : Int)) : Int) (idx b (rd E (n : Int)) : Int) E (E.length : Int) ((n + 1 : Nat) : Int)) (setsFin (out ++ sweep kp a b (E.drop n))) := by
      intro out' ho' he
      rw [← he]
      refine ih (n + 1) _ _ out' (by omega) (by omega) (fun h => ?_) ho' (by rw [he]; exact hok)
      exact ⟨idx_mono _ _ (sorted_rd E hs n h) a, idx_mono _ _ (sorted_rd E hs n h) b⟩
    by_cases hl : n + 1 = E.length
    · refine Ends.pos (by omega) (Ends.succ ?_)
      simp only [span_sets.j6, wrap_nat n (by omega)]
      refine Ends.pos trivial (next out (by omega) ?_)
      rw [dropI E n (by omega), List.drop_of_length_le (by omega)]
      simp [sweep]
    · refine Ends.neg (by omega) (Ends.pos (by omega) (Ends.pos (by omega) ?_))
      have e1 := dropI E n (by omega)
      have e2 := dropI E (n + 1) (by omega)
      by_cases hx : rd E ((n + 1 : Nat) : Int) = rd E (n : Int)
      · have hb : (rd E ((n + 1 : Nat) : Int) == rd E (n : Int)) = true := by simpa using hx
        simp only [hb]
        refine Ends.succ ?_
        simp only [span_sets.j6, wrap_nat n (by omega)]
        refine Ends.pos trivial (next out (by omega) ?_)
        rw [e1, e2, sweep, ← e2, hx]
        simp
      · have hb : (rd E ((n + 1 : Nat) : Int) == rd E (n : Int)) = false := by simpa using hx
        simp only [hb]
        refine sets_j6 kf kp hk a b E ea eb sa sb out n _ (by omega) (by omega) (by omega) _ (next _ ?_ ?_)
        · rw [List.length_append]; split <;> simp <;> omega
        · rw [e1, e2, sweep, ← e2, List.append_assoc]
          congr 2
          have hx' : rd E (n : Int) ≠ rd E ((n + 1 : Nat) : Int) := fun h => hx h.symm
          simp only [hx', ne_eq, not_false_eq_true, true_and]
include hk in
theorem sets_l0 (ea eb : Int) (sa : sep ea a) (sb : sep eb b) (ha : a.length ≤ 100000) (hb : b.length ≤ 100000) (c : List S49) (hc : c.length ≤ 200000) (hv : ∀ s ∈ c, (0 ≤ s.f0 ∧ s.f0 ≤ 17179869184) ∧ 0 ≤ s.f1 ∧ s.f1 ≤ 17179869184) (he : c.length ≤ 10000) : ∀ (d i : Nat) (o : List Int), c.length - i = d → i ≤ c.length → o.length + 2 * d ≤ 100000 → (∀ x ∈ o, 0 ≤ x ∧ x ≤ 17179869184) →
    Ends (fun k => span_sets.l0 kf k a b o c (c.length : Int) (i : Int)) (setsFin (sweep kp a b (sortI (o ++ (c.drop i).flatMap fun s => [s.f0, s.f1])))) := by
  intro d
  induction d with
  | zero =>
    intro i o hd hi ho hv1
    refine Ends.succ ?_
    simp only [span_sets.l0]
    refine Ends.neg (by omega) ?_
    rw [List.drop_of_length_le (by omega)]
    simp only [List.flatMap_nil, List.append_nil]
    have e : slices_Sort_int_int.f o = some (sortI o) := by unfold slices_Sort_int_int.f; rw [if_pos (by omega)]
    have hl : (sortI o).length = o.length := List.length_mergeSort _
    have hs : (sortI o).Pairwise (· ≤ ·) := by
      have := List.pairwise_mergeSort (le := fun a b : Int => decide (a ≤ b)) (by intro a b c h1 h2; simp at *; omega) (by intro a b; simp; omega) o
      exact this.imp (by intro a b h; simpa using h)
    simp only [e, Option.bind_some]
    rw [show (o.length : Int) = ((sortI o).length : Int) by rw [hl]]
    refine (sets_l1 kf kp hk a b (sortI o) ea eb sa sb (by omega) (by omega) (by omega) hs _ 0 0 0 [] rfl (by omega) (fun _ => ⟨Nat.zero_le _, Nat.zero_le _⟩) (by simp; omega) ?_).congr (by simp)
    rw [okSpans_iff]
    refine ⟨by have := sweep_len kp a b (sortI o); simp; omega, fun s h => ?_⟩
    have hm : ∀ x, x ∈ sortI o → x ∈ o := fun x hx => List.mem_mergeSort.1 hx
    obtain ⟨h1, h2, h3⟩ := sweep_in kp a b (sortI o) hs s (by simpa using h)
    have := hv1 _ (hm _ h1); have := hv1 _ (hm _ h2)
    exact ⟨by omega, h3, by omega⟩
  | succ d ih =>
    intro i o hd hi ho hv1
    refine Ends.succ ?_
    simp only [span_sets.l0, wrap_nat i (by omega), Option.bind_some]
    refine Ends.pos (by omega) (Ends.pos (by omega) (Ends.pos (by omega) (Ends.pos (by simp; omega) ?_)))
    rw [drop36 c i (by omega)]
    have hx := hv (rd_T49 c (i : Int)) (by rw [rd36 c i (by omega)]; exact List.getElem_mem _)
    refine (ih (i + 1) (o ++ [(rd_T49 c (i : Int)).f0, (rd_T49 c (i : Int)).f1]) (by omega) (by omega) (by simp; omega) ?_).congr (by simp)
    intro x h
    rcases List.mem_append.1 h with h | h
    · exact hv1 x h
    · simp at h; rcases h with rfl | rfl
      · exact hx.1
      · exact hx.2
theorem sweep_congr (kq : Bool → Bool → Bool) (h : ∀ x, kp (hasOf a x) (hasOf b x) = kq (hasOf a x) (hasOf b x)) : ∀ (L : List Int), sweep kp a b L = sweep kq a b L
  | [] => rfl
  | [c] => rfl
  | c :: d :: r => by rw [sweep, sweep, h, sweep_congr kq h (d :: r)]
theorem sortI_sorted (o : List Int) : (sortI o).Pairwise (· ≤ ·) := by
  have := List.pairwise_mergeSort (le := fun a b : Int => decide (a ≤ b)) (by intro a b c h1 h2; simp at *; omega) (by intro a b; simp; omega) o
  exact this.imp (by intro a b h; simpa using h)
theorem good04 {l : List S49} (h : check04 l = 0) : l.length ≤ 256 ∧ ∀ s ∈ l, 0 ≤ s.f0 ∧ s.f0 ≤ s.f1 ∧ s.f1 ≤ 17179869184 := by
  obtain ⟨h1, h2⟩ := check04_zero h
  exact ⟨h1, fun s hs => by have := h2 s hs; unfold badS at this; omega⟩
theorem okSpans_good {l : List S49} (h : check04 l = 0) : okSpans l = true := by
  obtain ⟨h1, h2⟩ := good04 h
  exact (okSpans_iff l).2 ⟨by omega, h2⟩
include hk in
theorem sets_ends (l0 l1 : List S49) (c : Bool) (w : Int) (hw : w = 0 ∨ w = 1 ∨ w = 2) (hkw : ∀ x, kp (hasOf (joinOf l0) x) (hasOf (joinOf l1) x) = wayOf w (hasOf (joinOf l0) x) (hasOf (joinOf l1) x)) : Ends (fun k => span_sets.f kf k l0 l1 c) (bothOf l0 l1 w) := by
  unfold span_sets.f bothOf
  refine Ends.bind (scheck_ends l0) ?_
  by_cases h0 : check04 l0 = 0
  · rw [if_pos h0]
    refine Ends.pos h0 (Ends.bind (scheck_ends l1) ?_)
    by_cases h1 : check04 l1 = 0
    · rw [if_pos h1]
      refine Ends.pos h1 ?_
      obtain ⟨g0, v0⟩ := good04 h0
      obtain ⟨g1, v1⟩ := good04 h1
      have u0 : ∀ s ∈ l0, -1 < s.f0 ∧ s.f0 ≤ s.f1 := fun s hs => by have := v0 s hs; omega
      have u1 : ∀ s ∈ l1, -1 < s.f0 ∧ s.f0 ≤ s.f1 := fun s hs => by have := v1 s hs; omega
      have n0 := joinOf_len l0 (-1) u0
      have n1 := joinOf_len l1 (-1) u1
      have b0 := joinOf_bound l0 (-1) 17179869184 (fun s hs => by have := v0 s hs; omega)
      have b1 := joinOf_bound l1 (-1) 17179869184 (fun s hs => by have := v1 s hs; omega)
      have e0 : span_joined.f l0 = some (joinOf l0) := by unfold span_joined.f; rw [if_pos (okSpans_good h0)]
      have e1 : span_joined.f l1 = some (joinOf l1) := by unfold span_joined.f; rw [if_pos (okSpans_good h1)]
      have e2 : slices_Concat_api_Span_api_Span_2.f (joinOf l0) (joinOf l1) = some (joinOf l0 ++ joinOf l1) := by unfold slices_Concat_api_Span_api_Span_2.f; rw [if_pos ⟨by omega, by omega⟩]
      simp only [e0, e1, e2, Option.bind_some]
      have hvv : ∀ s ∈ joinOf l0 ++ joinOf l1, (0 ≤ s.f0 ∧ s.f0 ≤ 17179869184) ∧ 0 ≤ s.f1 ∧ s.f1 ≤ 17179869184 := by
        intro s hs
        rcases List.mem_append.1 hs with hs | hs
        · have := b0 s hs; omega
        · have := b1 s hs; omega
      refine (sets_l0 kf kp hk (joinOf l0) (joinOf l1) (-1) (-1) (joinOf_ok l0 (-1) u0).1 (joinOf_ok l1 (-1) u1).1 (by omega) (by omega) (joinOf l0 ++ joinOf l1) (by simp; omega) hvv (by simp; omega) _ 0 [] rfl (by omega) (by simp; omega) (by simp)).congr ?_
      unfold setsFin
      rw [sweep_congr kp (joinOf l0) (joinOf l1) (wayOf w) hkw]
      rw [sets_comb l0 l1 w hw u0 u1 _ (sortI_sorted _) (fun x => by
        unfold sortI
        rw [List.mem_mergeSort]
        simp only [List.nil_append, List.drop_zero, List.mem_flatMap, List.mem_append, List.mem_cons, List.not_mem_nil, or_false])]
    · rw [if_neg h1]
      exact Ends.neg h1 (Ends.ret _)
  · rw [if_neg h0]
    exact Ends.neg h0 (Ends.ret _)
end
theorem wayOf_0 (p q : Bool) : wayOf 0 p q = (p || q) := by cases p <;> cases q <;> rfl
theorem wayOf_1 (p q : Bool) : wayOf 1 p q = (p && q) := by cases p <;> cases q <;> rfl
theorem wayOf_2 (p q : Bool) : wayOf 2 p q = (p && !q) := by cases p <;> cases q <;> rfl
end Go.Proofs.Ytjkakgkiikjdmaa.G

namespace Go.Proofs.Ytjkakgkiikjdmaa.G
open Go.RowKit Go.Proofs.YtjkakgkiikjdmaaW.PrintWords Go.Proofs.YtjkakgkiikjdmaaW.PrintLast Go.Proofs.YtjkakgkiikjdmaaW.PrintMore
attribute [local go_sem] max2_int min2_int max_two min_two max_three min_three max_four min_four   -- for this text's walks alone
set_option linter.unusedVariables false
set_option linter.unusedSimpArgs false

def span_sets_Norm.f (k : Nat) (l0 : List (S49)) (l1 : List (S49)) (a2 : Bool) : Option ((List (S49)) × Int) := span_sets.f span_Norm_1.f k l0 l1 a2
theorem span_sets_Norm.mono : ∀ a0 a1 a2 k, LeO (span_sets_Norm.f k a0 a1 a2) (span_sets_Norm.f (k + 1) a0 a1 a2) := span_sets.mono span_Norm_1.f
theorem span_sets_Norm.calls (k : Nat) (A0 : Option Addr) (c0 : Nat) (l0 : List (S49)) (A1 : Option Addr) (c1 : Nat) (l1 : List (S49)) (a2 : Bool) (r1 : List (S49)) (r2 : Int) (w : World) (hr0 : Kd.C k49 w A0 l0.length l0) (hc0 : l0.length ≤ c0) (hr1 : Kd.C k49 w A1 l1.length l1) (hc1 : l1.length ≤ c1) (h : span_sets_Norm.f k l0 l1 a2 = some (r1, r2)) :
  Calls Try.prog 53 #[.slice A0 l0.length c0, .slice A1 l1.length c1, .func (.func 58) #[] #[]] w fun e w' => ∃ v0_ : Value, e = .returned (.tuple #[v0_, .int .i64 r2]) ∧ Kd.R k49 49 w' w.heap.size (fun _ => True) v0_ r1 ∧ Below w.heap.size w w' :=
  span_sets.calls span_Norm_1.f 58 (enters_of Try.func58 (by kernel_rfl) rfl) (fun a0 a1 r w h => span_Norm_1.calls a0 a1 r w h) k A0 c0 l0 A1 c1 l1 a2 r1 r2 w hr0 hc0 hr1 hc1 h
end Go.Proofs.Ytjkakgkiikjdmaa.G

namespace Go.Proofs.Ytjkakgkiikjdmaa.G
open Go.RowKit Go.Proofs.YtjkakgkiikjdmaaW.PrintWords Go.Proofs.YtjkakgkiikjdmaaW.PrintLast Go.Proofs.YtjkakgkiikjdmaaW.PrintMore
attribute [local go_sem] max2_int min2_int max_two min_two max_three min_three max_four min_four   -- for this text's walks alone
set_option linter.unusedVariables false
set_option linter.unusedSimpArgs false

def span_Norm.f (k : Nat) (l0 : List (S49)) : Option ((List (S49)) × Int) := (span_sets_Norm.f k l0 ([] : List (S49)) true).bind fun bt37001 => (some (bt37001.1, bt37001.2))
theorem span_Norm.mono : ∀ a0 k, LeO (span_Norm.f k a0) (span_Norm.f (k + 1) a0) := by
  intro a0 k
  unfold span_Norm.f
  repeat' first
      | (with_reducible exact span_sets_Norm.mono _ _ _ _)
      | (with_reducible exact LeO.refl _)
      | (with_reducible exact LeO.none _)
      | (with_reducible refine LeO.ite ?_ ?_)
      | (with_reducible refine LeO.bind ?_ (fun _ => ?_))
      | exact span_sets_Norm.mono _ _ _ _
      | exact LeO.none _
      | refine LeO.ite ?_ ?_
      | refine LeO.bind ?_ (fun _ => ?_)
set_option maxHeartbeats 8000000 in
set_option maxRecDepth 100000 in
theorem span_Norm.calls (k : Nat) (A0 : Option Addr) (c0 : Nat) (l0 : List (S49)) (r1 : List (S49)) (r2 : Int) (w : World) (hr0 : Kd.C k49 w A0 l0.length l0) (hc0 : l0.length ≤ c0) (h : span_Norm.f k l0 = some (r1, r2)) :
    Calls Try.prog 36 #[.slice A0 l0.length c0] w fun e w' => ∃ v0_ : Value, e = .returned (.tuple #[v0_, .int .i64 r2]) ∧ Kd.R k49 49 w' w.heap.size (fun _ => True) v0_ r1 ∧ Below w.heap.size w w' := by
  have HR0 := Aside0.mk hr0
  have HC0 := Aside0.mk hc0
  clear hr0 hc0
  have HB := Aside0.mk (Below.refl w.heap.size w)
  have H : ((span_sets_Norm.f k l0 ([] : List (S49)) true).bind fun bt37001 => (some (bt37001.1, bt37001.2))) = some (r1, r2) := h
  clear h
  replace H := Option.bind_eq_some_iff.mp H
  obtain ⟨⟨t37001, t37002⟩, A20, H⟩ := H
  replace H : (some (t37001, t37002)) = some (r1, r2) := H
  have A2 := Aside0.mk A20
  clear A20
  simp only [Option.some.injEq, Prod.mk.injEq] at H
  obtain ⟨rfl, rfl⟩ := H
  go_enter Try.func36, Try.ntmps36
  go_wp2_with (first | ((with_reducible refine gate_callee (f := 53) rfl ?_); refine goesL_ (some 5) rfl rfl Try.func53 (by kernel_rfl) rfl #[.slice A0 l0.length c0, .slice none 0 0, .func (.func 58) #[] #[]] rfl (by (try simp only [List.map_toArray, List.map_cons, List.map_nil]); first | done | rfl | (simp only [List.length_drop, List.length_take]; rfl)) ?_; (refine (span_sets_Norm.calls k _ _ l0 _ _ ([] : List (S49)) true t37001 t37002 _ ?side1 ?side2 ?side3 ?side4 A2.out).mono ?_); (case side1 => exact HR0.out); (case side2 => exact HC0.out); (case side3 => exact Kd.C_nil _ _); (case side4 => exact Nat.le_refl _); rintro e w3 ⟨v37003, rfl, ho0, hb⟩; refine ⟨_, rfl, ?_⟩; have n0_ := Aside0.mk (Kd.R_lower ho0 (below_size (by repeat (first | exact HB.out | apply below_alloc | apply pw_below_drewN | apply below_drew1)))); have n1_ := Aside0.mk (below_step (by repeat (first | exact HB.out | apply below_alloc | apply pw_below_drewN | apply below_drew1)) hb); clear HB; have HO37004 := n0_; have HB := n1_; clear n0_ n1_; (try clear hb); (try clear hb2); (try clear hk); (try clear hi); (try clear ho0)))
  go_ret2
  exact ⟨_, by first | rfl | (simp [errW_none, errW_some] <;> rfl) | (simp [*, errW_none, errW_some] <;> rfl), by exact HO37004.out, by repeat (first | exact HB.out | apply below_alloc | apply pw_below_drewN | apply below_drew1)⟩

end Go.Proofs.Ytjkakgkiikjdmaa.G

namespace Go.Proofs.Ytjkakgkiikjdmaa.G
open Go.RowKit Go.Proofs.YtjkakgkiikjdmaaW.PrintWords Go.Proofs.YtjkakgkiikjdmaaW.PrintLast Go.Proofs.YtjkakgkiikjdmaaW.PrintMore
attribute [local go_sem] max2_int min2_int max_two min_two max_three min_three max_four min_four   -- for this text's walks alone
set_option linter.unusedVariables false
set_option linter.unusedSimpArgs false

def span_sets_Minus.f (k : Nat) (l0 : List (S49)) (l1 : List (S49)) (a2 : Bool) : Option ((List (S49)) × Int) := span_sets.f span_Minus_1.f k l0 l1 a2
theorem span_sets_Minus.mono : ∀ a0 a1 a2 k, LeO (span_sets_Minus.f k a0 a1 a2) (span_sets_Minus.f (k + 1) a0 a1 a2) := span_sets.mono span_Minus_1.f
theorem span_sets_Minus.calls (k : Nat) (A0 : Option Addr) (c0 : Nat) (l0 : List (S49)) (A1 : Option Addr) (c1 : Nat) (l1 : List (S49)) (a2 : Bool) (r1 : List (S49)) (r2 : Int) (w : World) (hr0 : Kd.C k49 w A0 l0.length l0) (hc0 : l0.length ≤ c0) (hr1 : Kd.C k49 w A1 l1.length l1) (hc1 : l1.length ≤ c1) (h : span_sets_Minus.f k l0 l1 a2 = some (r1, r2)) :
  Calls Try.prog 53 #[.slice A0 l0.length c0, .slice A1 l1.length c1, .func (.func 62) #[] #[]] w fun e w' => ∃ v0_ : Value, e = .returned (.tuple #[v0_, .int .i64 r2]) ∧ Kd.R k49 49 w' w.heap.size (fun _ => True) v0_ r1 ∧ Below w.heap.size w w' :=
  span_sets.calls span_Minus_1.f 62 (enters_of Try.func62 (by kernel_rfl) rfl) (fun a0 a1 r w h => span_Minus_1.calls a0 a1 r w h) k A0 c0 l0 A1 c1 l1 a2 r1 r2 w hr0 hc0 hr1 hc1 h
end Go.Proofs.Ytjkakgkiikjdmaa.G

namespace Go.Proofs.Ytjkakgkiikjdmaa.G
open Go.RowKit Go.Proofs.YtjkakgkiikjdmaaW.PrintWords Go.Proofs.YtjkakgkiikjdmaaW.PrintLast Go.Proofs.YtjkakgkiikjdmaaW.PrintMore
attribute [local go_sem] max2_int min2_int max_two min_two max_three min_three max_four min_four   -- for this text's walks alone
set_option linter.unusedVariables false
set_option linter.unusedSimpArgs false

def span_Minus.f (k : Nat) (l0 : List (S49)) (l1 : List (S49)) : Option ((List (S49)) × Int) := (span_sets_Minus.f k l0 l1 true).bind fun bt44001 => (some (bt44001.1, bt44001.2))
theorem span_Minus.mono : ∀ a0 a1 k, LeO (span_Minus.f k a0 a1) (span_Minus.f (k + 1) a0 a1) := by
  intro a0 a1 k
  unfold span_Minus.f
  repeat' first
      | (with_reducible exact span_sets_Minus.mono _ _ _ _)
      | (with_reducible exact LeO.refl _)
      | (with_reducible exact LeO.none _)
      | (with_reducible refine LeO.ite ?_ ?_)
      | (with_reducible refine LeO.bind ?_ (fun _ => ?_))
      | exact span_sets_Minus.mono _ _ _ _
      | exact LeO.none _
      | refine LeO.ite ?_ ?_
      | refine LeO.bind ?_ (fun _ => ?_)
set_option maxHeartbeats 8000000 in
set_option maxRecDepth 100000 in
theorem span_Minus.calls (k : Nat) (A0 : Option Addr) (c0 : Nat) (l0 : List (S49)) (A1 : Option Addr) (c1 : Nat) (l1 : List (S49)) (r1 : List (S49)) (r2 : Int) (w : World) (hr0 : Kd.C k49 w A0 l0.length l0) (hc0 : l0.length ≤ c0) (hr1 : Kd.C k49 w A1 l1.length l1) (hc1 : l1.length ≤ c1) (h : span_Minus.f k l0 l1 = some (r1, r2)) :
    Calls Try.prog 43 #[.slice A0 l0.length c0, .slice A1 l1.length c1] w fun e w' => ∃ v0_ : Value, e = .returned (.tuple #[v0_, .int .i64 r2]) ∧ Kd.R k49 49 w' w.heap.size (fun _ => True) v0_ r1 ∧ Below w.heap.size w w' := by
  have HR0 := Aside0.mk hr0
  have HC0 := Aside0.mk hc0
  clear hr0 hc0
  have HR1 := Aside0.mk hr1
  have HC1 := Aside0.mk hc1
  clear hr1 hc1
  have HB := Aside0.mk (Below.refl w.heap.size w)
  have H : ((span_sets_Minus.f k l0 l1 true).bind fun bt44001 => (some (bt44001.1, bt44001.2))) = some (r1, r2) := h
  clear h
  replace H := Option.bind_eq_some_iff.mp H
  obtain ⟨⟨t44001, t44002⟩, A30, H⟩ := H
  replace H : (some (t44001, t44002)) = some (r1, r2) := H
  have A3 := Aside0.mk A30
  clear A30
  simp only [Option.some.injEq, Prod.mk.injEq] at H
  obtain ⟨rfl, rfl⟩ := H
  go_enter Try.func43, Try.ntmps43
  go_wp2_with (first | ((with_reducible refine gate_callee (f := 53) rfl ?_); refine goesL_ (some 8) rfl rfl Try.func53 (by kernel_rfl) rfl #[.slice A0 l0.length c0, .slice A1 l1.length c1, .func (.func 62) #[] #[]] rfl (by (try simp only [List.map_toArray, List.map_cons, List.map_nil]); first | done | rfl | (simp only [List.length_drop, List.length_take]; rfl)) ?_; (with_reducible refine (span_sets_Minus.calls k _ _ l0 _ _ l1 true t44001 t44002 _ ?side1 ?side2 ?side3 ?side4 A3.out).mono ?_); (case side1 => exact HR0.out); (case side2 => exact HC0.out); (case side3 => exact HR1.out); (case side4 => exact HC1.out); rintro e w4 ⟨v44003, rfl, ho0, hb⟩; refine ⟨_, rfl, ?_⟩; have n0_ := Aside0.mk (Kd.R_lower ho0 (below_size (by repeat (first | exact HB.out | apply below_alloc | apply pw_below_drewN | apply below_drew1)))); have n1_ := Aside0.mk (below_step (by repeat (first | exact HB.out | apply below_alloc | apply pw_below_drewN | apply below_drew1)) hb); clear HB; have HO44004 := n0_; have HB := n1_; clear n0_ n1_; (try clear hb); (try clear hb2); (try clear hk); (try clear hi); (try clear ho0)))
  go_ret2
  exact ⟨_, by first | rfl | (simp [errW_none, errW_some] <;> rfl) | (simp [*, errW_none, errW_some] <;> rfl), by exact HO44004.out, by repeat (first | exact HB.out | apply below_alloc | apply pw_below_drewN | apply below_drew1)⟩

end Go.Proofs.Ytjkakgkiikjdmaa.G

namespace Go.Proofs.Ytjkakgkiikjdmaa.G
open Go.RowKit Go.Proofs.YtjkakgkiikjdmaaW.PrintWords Go.Proofs.YtjkakgkiikjdmaaW.PrintLast Go.Proofs.YtjkakgkiikjdmaaW.PrintMore
set_option linter.unusedVariables false
set_option linter.unusedSimpArgs false
theorem hasOf_nil (x : Int) : hasOf [] x = false := rfl
theorem joinOf_nil : joinOf [] = [] := rfl
theorem norm_ends (l : List S49) : Ends (fun k => span_Norm.f k l) (bothOf l [] 0) := by
  unfold span_Norm.f span_sets_Norm.f
  exact Ends.bind (sets_ends span_Norm_1.f (fun p _ => p) (fun p q => rfl) l [] true 0 (.inl rfl) (fun x => by rw [wayOf_0, joinOf_nil, hasOf_nil, Bool.or_false])) (Ends.ret _)
theorem minus_ends (a b : List S49) : Ends (fun k => span_Minus.f k a b) (bothOf a b 2) := by
  unfold span_Minus.f span_sets_Minus.f
  exact Ends.bind (sets_ends span_Minus_1.f (fun p q => p && !q) (fun p q => by cases p <;> rfl) a b true 2 (.inr (.inr rfl)) (fun x => by rw [wayOf_2])) (Ends.ret _)
def tot (l : List S49) : Int := (l.map fun s => s.f1 - s.f0).sum
theorem tot_cons (s : S49) (l : List S49) : tot (s :: l) = s.f1 - s.f0 + tot l := by simp [tot]
def totalOf (l : List S49) : Int × Int := if check04 l = 0 then (tot (joinOf l), 0) else (0, check04 l)
theorem norm_fits {l : List S49} (h0 : check04 l = 0) : bothOf l [] 0 = (joinOf l, 0) := by
  obtain ⟨g0, v0⟩ := good04 h0
  have n0 := joinOf_len l (-1) (fun s hs => by have := v0 s hs; omega)
  unfold bothOf
  rw [if_pos h0, if_pos (show check04 [] = 0 from rfl)]
  unfold joinOf at n0 ⊢
  rw [if_neg (by omega)]
def movable (by_ : Int) (s : S49) : Prop := -s.f0 ≤ by_ ∧ by_ ≤ 17179869184 - s.f1
instance (by_ : Int) (s : S49) : Decidable (movable by_ s) := by unfold movable; infer_instance
def shift (by_ : Int) (s : S49) : S49 := ⟨s.f0 + by_, s.f1 + by_⟩
def moveOf (l : List S49) (by_ : Int) : List S49 × Int := if check04 l = 0 then (if ∀ s ∈ l, movable by_ s then (l.map (shift by_), 0) else ([], 1)) else ([], check04 l)
end Go.Proofs.Ytjkakgkiikjdmaa.G

namespace Go.Proofs.Ytjkakgkiikjdmaa.G
open Go.RowKit Go.Proofs.YtjkakgkiikjdmaaW.PrintWords Go.Proofs.YtjkakgkiikjdmaaW.PrintLast Go.Proofs.YtjkakgkiikjdmaaW.PrintMore
set_option linter.unusedVariables false
set_option linter.unusedSimpArgs false
instance decSpan : DecidableEq S49 := fun a b => if h : a.f0 = b.f0 ∧ a.f1 = b.f1 then .isTrue (by cases a; cases b; simp_all) else .isFalse (by rintro rfl; exact h ⟨rfl, rfl⟩)
def keepGo (n least : Int) : Int → List S49 → List S49
  | a, [] => if least ≤ n - a then [⟨a, n⟩] else []
  | a, s :: l => (if least ≤ min n s.f0 - a then [⟨a, min n s.f0⟩] else []) ++ keepGo n least s.f1 l
def wide (n least : Int) : Prop := n < 0 ∨ n > 17179869184 ∨ least < 1 ∨ least > 17179869184
instance (n least : Int) : Decidable (wide n least) := by unfold wide; infer_instance
def keepOf (n : Int) (bad : List S49) (least : Int) : List S49 × Int :=
  if wide n least then ([], 1) else if check04 bad = 0 then (if (keepGo n least 0 (joinOf bad)).length > 256 then ([], 8) else (keepGo n least 0 (joinOf bad), 0)) else ([], check04 bad)
theorem keepGo_len (n least : Int) : ∀ (l : List S49) (a : Int), (keepGo n least a l).length ≤ l.length + 1
  | [], a => by unfold keepGo; split <;> simp
  | s :: l, a => by
    have := keepGo_len n least l s.f1
    unfold keepGo
    rw [List.length_append, List.length_cons]
    split <;> simp <;> omega
theorem sep_down {e : Int} {s : S49} {l : List S49} (h : sep e (s :: l)) : e < s.f0 ∧ s.f0 < s.f1 ∧ sep (s.f1 - 1) l := ⟨h.1, h.2.1, sep_le (by omega) h.2.2⟩
theorem keepGo_sep (n least : Int) (hl : 1 ≤ least) : ∀ (l : List S49) (a e : Int), e < a → sep (a - 1) l → sep e (keepGo n least a l)
  | [], a, e, he, _ => by
    unfold keepGo
    split
    · exact ⟨he, by dsimp only; omega, trivial⟩
    · exact trivial
  | s :: l, a, e, he, hs => by
    obtain ⟨h1, h2, h3⟩ := sep_down hs
    unfold keepGo
    split
    · rw [List.singleton_append]
      refine ⟨he, by dsimp only; omega, keepGo_sep n least hl l _ _ ?_ h3⟩
      dsimp only
      omega
    · rw [List.nil_append]
      exact keepGo_sep n least hl l _ _ (by omega) h3
theorem keepGo_in (n least : Int) (hl : 1 ≤ least) : ∀ (l : List S49) (a : Int), sep (a - 1) l → ∀ s ∈ keepGo n least a l, a ≤ s.f0 ∧ s.f0 + least ≤ s.f1 ∧ s.f1 ≤ n
  | [], a, _, s, hs => by
    unfold keepGo at hs
    split at hs
    · rw [List.mem_singleton.mp hs]
      dsimp only
      omega
    · simp at hs
  | t :: l, a, h, s, hs => by
    obtain ⟨h1, h2, h3⟩ := sep_down h
    unfold keepGo at hs
    rcases List.mem_append.mp hs with hs | hs
    · split at hs
      · rw [List.mem_singleton.mp hs]
        dsimp only
        omega
      · simp at hs
    · have := keepGo_in n least hl l _ h3 s hs
      omega
theorem keepGo_tot (n least : Int) (hl : 1 ≤ least) : ∀ (l : List S49) (a : Int), sep (a - 1) l → 0 ≤ tot (keepGo n least a l) ∧ (tot (keepGo n least a l) ≤ n - a ∨ tot (keepGo n least a l) = 0)
  | [], a, _ => by
    unfold keepGo
    split
    · simp [tot]; omega
    · simp [tot]
  | s :: l, a, h => by
    obtain ⟨h1, h2, h3⟩ := sep_down h
    have h4 := keepGo_tot n least hl l _ h3
    unfold keepGo
    split
    · rw [List.singleton_append, tot_cons]
      dsimp only
      omega
    · rw [List.nil_append]
      omega
structure KeptL (n least : Int) (l : List S49) : Prop where
  few : l.length ≤ 256
  sep_ : sep (-1) l
  in_ : ∀ s ∈ l, 0 ≤ s.f0 ∧ s.f0 + least ≤ s.f1 ∧ s.f1 ≤ n
  tot_ : 0 ≤ tot l ∧ tot l ≤ n
theorem joinOf_fit {l : List S49} (h : check04 l = 0) : sep (-1) (joinOf l) ∧ (∀ x, Mem (joinOf l) x ↔ Mem l x) ∧ (∀ s ∈ joinOf l, 0 ≤ s.f0 ∧ s.f0 < s.f1 ∧ s.f1 ≤ 17179869184) := by
  obtain ⟨h1, h2⟩ := check04_zero h
  obtain ⟨h3, h4⟩ := joinOf_ok l (-1) (fun s hs => by have := h2 s hs; unfold badS at this; omega)
  refine ⟨h3, h4, fun s hs => ?_⟩
  have h5 := sep_in h3 s hs
  obtain ⟨t, ht, h6, h7⟩ := (h4 (s.f1 - 1)).mp ⟨s, hs, by omega, by omega⟩
  have := h2 t ht
  unfold badS at this
  omega
theorem joinOf_few {l : List S49} (h : check04 l = 0) : (joinOf l).length ≤ 256 := by
  have h1 := norm_fits h
  unfold bothOf at h1
  rw [if_pos h, if_pos (by rfl)] at h1
  split at h1
  · simp at h1
  · unfold joinOf; omega
theorem keep_kept {n least : Int} {bad l : List S49} (h : keepOf n bad least = (l, 0)) : ¬ wide n least ∧ check04 bad = 0 ∧ l = keepGo n least 0 (joinOf bad) ∧ KeptL n least l := by
  unfold keepOf at h
  split at h
  · simp at h
  · rename_i hw
    split at h
    · rename_i hc
      obtain ⟨h1, h2, h3⟩ := joinOf_fit hc
      split at h
      · simp at h
      · rename_i hf
        obtain rfl := (Prod.mk.inj h).1
        unfold wide at hw
        have h4 := keepGo_tot n least (by omega) (joinOf bad) 0 h1
        exact ⟨hw, hc, rfl, ⟨by omega, keepGo_sep n least (by omega) _ _ _ (by omega) h1, keepGo_in n least (by omega) _ _ h1, by omega⟩⟩
    · rename_i hc
      exact absurd (Prod.mk.inj h).2 hc
theorem KeptL.check {n least : Int} {l : List S49} (h : KeptL n least l) (hw : ¬ wide n least) : check04 l = 0 := by
  unfold wide at hw
  unfold check04
  rw [if_neg (by have := h.few; omega), if_neg]
  rintro ⟨s, hs, hb⟩
  have := h.in_ s hs
  unfold badS at hb
  omega
theorem KeptL.join {n least : Int} {l : List S49} (h : KeptL n least l) (hw : ¬ wide n least) : joinOf l = l := by
  obtain ⟨h1, h2, _⟩ := joinOf_fit (h.check hw)
  exact sep_unique h1 h.sep_ h2
def wasteOf (n : Int) (bad : List S49) (least : Int) : Int × Int := if (keepOf n bad least).2 = 0 then (n - tot (keepOf n bad least).1, 0) else (0, (keepOf n bad least).2)
theorem keep_split (n : Int) (bad : List S49) (least : Int) (h : (keepOf n bad least).2 = 0) : ¬ wide n least ∧ check04 bad = 0 ∧ (keepOf n bad least).1 = keepGo n least 0 (joinOf bad) ∧ KeptL n least (keepOf n bad least).1 :=
  keep_kept (l := (keepOf n bad least).1) (by rw [← h])
end Go.Proofs.Ytjkakgkiikjdmaa.G

namespace Go.Proofs.Ytjkakgkiikjdmaa.G
open Go.RowKit Go.Proofs.YtjkakgkiikjdmaaW.PrintWords Go.Proofs.YtjkakgkiikjdmaaW.PrintLast Go.Proofs.YtjkakgkiikjdmaaW.PrintMore
attribute [local go_sem] max2_int min2_int max_two min_two max_three min_three max_four min_four   -- for this text's walks alone
set_option linter.unusedVariables false
set_option linter.unusedSimpArgs false
structure VSt (a b g h : Nat) (n least : Int) (v : Value) (o : List S49) (W : World) : Prop where
  ca : W.heap[a]? = some (.cells #[.int .i64 n] 3 (0, 0))
  cb : W.heap[b]? = some (.cells #[.int .i64 least] 3 (0, 0))
  cg : W.heap[g]? = some (.cells #[v] 22 (0, 0))
  ch : W.heap[h]? = some (.cells #[.func (.func 37) #[] #[.pointer (some ⟨a, 0, none⟩), .pointer (some ⟨b, 0, none⟩), .pointer (some ⟨g, 0, none⟩), .pointer (some ⟨h, 0, none⟩)]] 58 (0, 0))
  o : Kd.R k49 49 W g (fun k => h < k) v o
theorem VSt.below {a b g h : Nat} {n least : Int} {v : Value} {o : List S49} {W W' : World} (s : VSt a b g h n least v o W) (hb : Below W.heap.size W W') : VSt a b g h n least v o W' :=
  ⟨blk_below s.ca hb, blk_below s.cb hb, blk_below s.cg hb, blk_below s.ch hb, Kd.R_below s.o hb⟩
def visF (a b g h : Nat) : Array Value := #[.pointer (some ⟨a, 0, none⟩), .pointer (some ⟨b, 0, none⟩), .pointer (some ⟨g, 0, none⟩), .pointer (some ⟨h, 0, none⟩)]
theorem VSt.put {a b g h : Nat} (hab : a < b) (hbg : b < g) (hgh : g < h) {n least : Int} {v u : Value} {o : List S49} {W : World} (ca : W.heap[a]? = some (.cells #[.int .i64 n] 3 (0, 0))) (cb : W.heap[b]? = some (.cells #[.int .i64 least] 3 (0, 0))) (cg : W.heap[g]? = some (.cells #[u] 22 (0, 0)))
    (ch : W.heap[h]? = some (.cells #[.func (.func 37) #[] #[.pointer (some ⟨a, 0, none⟩), .pointer (some ⟨b, 0, none⟩), .pointer (some ⟨g, 0, none⟩), .pointer (some ⟨h, 0, none⟩)]] 58 (0, 0))) (ho : Kd.R k49 49 W g (fun k => h < k) v o) : VSt a b g h n least v o (W.setCell ⟨g, 0, none⟩ v) :=
  ⟨(Below.heap_setCell W ⟨g, 0, none⟩ v a (show a ≠ g by omega)).trans ca, (Below.heap_setCell W ⟨g, 0, none⟩ v b (show b ≠ g by omega)).trans cb, blk_set cg 0 _, (Below.heap_setCell W ⟨g, 0, none⟩ v h (show h ≠ g by omega)).trans ch, Kd.R_far ho (fun k hk => (show k ≠ g by omega)) _⟩
set_option maxRecDepth 100000 in
set_option maxHeartbeats 8000000 in
theorem visit_nil (a b g h : Nat) (hab : a < b) (hbg : b < g) (hgh : g < h) (n least : Int) (hn : 0 ≤ n ∧ n ≤ 17179869184) (A : Option Addr) (c : Nat) (f : Int) (hf : 0 ≤ f ∧ f ≤ 17179869184) (O : List S49) (hO : O.length < 65536) (v : Value) (W : World) (hV : VSt a b g h n least v O W) :
    Calls Try.prog 37 #[.int .i64 f, .slice A 0 c, .pointer (some ⟨a, 0, none⟩), .pointer (some ⟨b, 0, none⟩), .pointer (some ⟨g, 0, none⟩), .pointer (some ⟨h, 0, none⟩)] W fun e W' => e = .returned (.tuple #[]) ∧ (∃ v', VSt a b g h n least v' (O ++ keepGo n least f []) W') ∧ Below g W W' := by
  have hwr : wrap64 (n - f) = n - f := by unfold wrap64; omega
  have HV := Aside0.mk hV
  have hca := blk_cell hV.ca 0
  have hcb := blk_cell hV.cb 0
  have hcg := blk_cell hV.cg 0
  have HBr := Aside0.mk (Below.refl g W)
  by_cases hk : least ≤ n - f
  · have hkb : decide (least ≤ n - f) = true := decide_eq_true hk
    have hNO := Aside0.mk (show ∀ X, X ≤ h → v.ownBlock ≠ some X from fun X hX e => by have := hV.o.1 X e; omega)
    obtain ⟨A1, c1, e1, _, _⟩ := Kd.R_reads hV.o
    subst e1
    clear hV
    go_enter Try.func37, Try.ntmps37
    go_wp2_with (at_builtin; (refine Kd.R_append k49 (w0 := W) g rfl (.tmp 24) (.tmp 28) 22 49 (.agg #[.int .i64 0, .int .i64 0]) 16 rfl Try.underlying22 info49 (by decide) (by decide) (by decide) (.slice A1 O.length c1) O ⟨f, n⟩ [.int .i64 f, .int .i64 n] (fun k => h < k) (fun _ => False) rfl ?ax (k49_mkM _ _ _ _) (fun _ h => h.elim) ?af HV.out.o HBr.out (Nat.le_of_lt (blk_lt HV.out.cg)) (by omega) ?_; (case ax => first | rfl | (simp; done) | (simp; rfl)); (case af => exact fun k hk => by have h1 := blk_lt HV.out.ch; omega); intro v' w5 ho hb5 hg5 hat5; have HO5 := Aside0.mk ho; have HB5 := Aside0.mk hb5; have HA5 := Aside0.mk (blk_grown HV.out.ca hg5 (fun e => hNO.out a (by omega) e.symm)); have HBB5 := Aside0.mk (blk_grown HV.out.cb hg5 (fun e => hNO.out b (by omega) e.symm)); have HG5 := Aside0.mk (blk_grown HV.out.cg hg5 (fun e => hNO.out g (by omega) e.symm)); have HH5 := Aside0.mk (blk_grown HV.out.ch hg5 (fun e => hNO.out h (by omega) e.symm)); clear ho hb5 hg5 hat5; obtain ⟨A5, c5, e5, _, _⟩ := Kd.R_reads HO5.out; subst e5; have hgc := blk_cell HG5.out 0; have hgf5 : w5.frozen? ⟨g, 0, none⟩ = false := (by simp [World.frozen?, HG5.out])))
    (try simp only [Exit.inBlock, Exit.then]); refine bodyPost_end (results_none rfl _ _ _) rfl ?_
    have e2 : O.length + 1 = (O ++ [(⟨f, n⟩ : S49)]).length := by simp
    rw [e2]
    unfold keepGo
    rw [if_pos hk]
    exact ⟨rfl, ⟨_, VSt.put hab hbg hgh HA5.out HBB5.out HG5.out HH5.out HO5.out⟩, HB5.out.setCell (p := ⟨g, 0, none⟩) (Nat.le_refl _) _⟩
  · have hkb : decide (least ≤ n - f) = false := decide_eq_false hk
    clear hV
    go_enter Try.func37, Try.ntmps37
    go_wp2
    (try simp only [Exit.inBlock, Exit.then]); refine bodyPost_end (results_none rfl _ _ _) rfl ?_
    unfold keepGo
    rw [if_neg (by omega), List.append_nil]
    exact ⟨rfl, ⟨_, HV.out⟩, Below.refl _ _⟩
set_option maxRecDepth 100000 in
set_option maxHeartbeats 8000000 in
theorem visit_cons (a b g h : Nat) (hab : a < b) (hbg : b < g) (hgh : g < h) (n least : Int) (hn : 0 ≤ n ∧ n ≤ 17179869184) (w0 : World) (hg0 : w0.heap.size ≤ g) (s : S49) (q : List S49) (hs : 0 ≤ s.f0 ∧ s.f0 ≤ 17179869184 ∧ 0 ≤ s.f1 ∧ s.f1 ≤ 17179869184)
    (ih : ∀ (A : Option Addr) (c : Nat) (f : Int) (O : List S49) (v : Value) (W : World), 0 ≤ f ∧ f ≤ 17179869184 → O.length + q.length < 65536 → Kd.C k49 w0 A q.length q → q.length ≤ c → Below g w0 W → VSt a b g h n least v O W →
      Calls Try.prog 37 #[.int .i64 f, .slice A q.length c, .pointer (some ⟨a, 0, none⟩), .pointer (some ⟨b, 0, none⟩), .pointer (some ⟨g, 0, none⟩), .pointer (some ⟨h, 0, none⟩)] W fun e W' => e = .returned (.tuple #[]) ∧ (∃ v', VSt a b g h n least v' (O ++ keepGo n least f q) W') ∧ Below g W W')
    (A : Option Addr) (c : Nat) (f : Int) (hf : 0 ≤ f ∧ f ≤ 17179869184) (O : List S49) (hO : O.length + (s :: q).length < 65536) (v : Value) (W : World) (hC : Kd.C k49 w0 A (s :: q).length (s :: q)) (hc : (s :: q).length ≤ c) (hb : Below g w0 W) (hV : VSt a b g h n least v O W) :
    Calls Try.prog 37 #[.int .i64 f, .slice A (s :: q).length c, .pointer (some ⟨a, 0, none⟩), .pointer (some ⟨b, 0, none⟩), .pointer (some ⟨g, 0, none⟩), .pointer (some ⟨h, 0, none⟩)] W fun e W' => e = .returned (.tuple #[]) ∧ (∃ v', VSt a b g h n least v' (O ++ keepGo n least f (s :: q)) W') ∧ Below g W W' := by
  have hlen : (s :: q).length = q.length + 1 := rfl
  have hd0 : decide ((0 : Int) < ((s :: q).length : Int)) = true := decide_eq_true (by omega)
  obtain ⟨ad, rfl, hz0, hz1⟩ := at_T49 (Kd.C_below hC (hb.mono hg0)) 0 (by omega) (by omega)
  have hdr := Kd.C_drop (m := 1) (c := c) hC (by omega) hc
  rw [show (s :: q).drop 1 = q from rfl] at hdr
  obtain ⟨i0, hi0, _, hsz, _⟩ := info_parts info49
  have hcut := cut_from (P := Try.prog) 22 49 .i64 Try.underlying22 hi0 2 hsz (some ad) (s :: q).length c 1 (by omega) (by omega)
  have haz : ad.add 0 = ad := by simp [Addr.add]
  obtain ⟨A2, hA2⟩ : ∃ A2, A2 = (if c = Int.toNat 1 then some ad else (some ad : Option Addr).map (·.add (Int.toNat 1 * 2))) := ⟨_, rfl⟩
  have HD := Aside0.mk (show Kd.C k49 w0 A2 q.length q by rw [hA2]; exact hdr)
  rw [← hA2, show (s :: q).length - Int.toNat 1 = q.length from rfl, hlen] at hcut
  rw [show Int.toNat 0 * 2 = 0 from rfl, show rd_T49 (s :: q) 0 = s from rfl, haz] at hz0 hz1
  have HC := Aside0.mk hC
  have HV := Aside0.mk hV
  have HB := Aside0.mk hb
  have IH := Aside0.mk ih
  have hca := blk_cell hV.ca 0
  have hcb := blk_cell hV.cb 0
  have hcg := blk_cell hV.cg 0
  have hch := blk_cell hV.ch 0
  have HBr := Aside0.mk (Below.refl g W)
  have hcl := Aside0.mk (show q.length ≤ c - Int.toNat 1 by have : (s :: q).length = q.length + 1 := rfl; have : Int.toNat 1 = 1 := rfl; omega)
  clear hdr hA2 hi0 hsz hC hb ih
  generalize c - Int.toNat 1 = c2 at *
  have HZA := Aside0.mk (show ∀ W', Below g w0 W' → W'.cell? { block := ad.block, off := ad.off + 1 } = some (.int .i64 s.f1) from fun W' hb' => by
    obtain ⟨ad', e', _, hq⟩ := at_T49 (Kd.C_below HC.out (hb'.mono hg0)) 0 (by omega) (by omega)
    cases e'
    rw [show Int.toNat 0 * 2 = 0 from rfl, haz] at hq
    exact hq)
  go_enter Try.func37, Try.ntmps37
  go_wp2
  go_quiet (fail)
  rename_i nq
  have em : (if s.f0 < n then s.f0 else n) = min n s.f0 := by split <;> omega
  rw [em]
  clear em hca hcb hcg hch hz0 hz1
  have HBD := Aside0.mk (pw_below_drewN (Below.refl W.heap.size W) nq)
  have HV2 := Aside0.mk (HV.out.below HBD.out)
  have HB1 := Aside0.mk (below_then HB.out (Nat.le_of_lt (blk_lt HV.out.cg)) HBD.out)
  have HW1 := Aside0.mk (below_then HBr.out (Nat.le_of_lt (blk_lt HV.out.cg)) HBD.out)
  clear hV
  generalize W.drewN nq = W2 at *
  have hca := blk_cell HV2.out.ca 0
  have hcb := blk_cell HV2.out.cb 0
  have hcg := blk_cell HV2.out.cg 0
  have hch := blk_cell HV2.out.ch 0
  replace HBr := Aside0.mk (Below.refl g W2)
  have hm : 0 ≤ min n s.f0 ∧ min n s.f0 ≤ 17179869184 := by omega
  have hgo : keepGo n least f (s :: q) = (if least ≤ min n s.f0 - f then [⟨f, min n s.f0⟩] else []) ++ keepGo n least s.f1 q := rfl
  generalize min n s.f0 = m at *
  have hwr : wrap64 (m - f) = m - f := by unfold wrap64; omega
  by_cases hk : least ≤ m - f
  · have hkb : decide (least ≤ m - f) = true := decide_eq_true hk
    rw [if_pos hk] at hgo
    have hNO := Aside0.mk (show ∀ X, X ≤ h → v.ownBlock ≠ some X from fun X hX e => by have := HV2.out.o.1 X e; omega)
    obtain ⟨A1, c1, e1, _, _⟩ := Kd.R_reads HV2.out.o
    subst e1
    go_wp2_with (at_builtin; (refine Kd.R_append k49 (w0 := W2) g rfl (.tmp 24) (.tmp 28) 22 49 (.agg #[.int .i64 0, .int .i64 0]) 16 rfl Try.underlying22 info49 (by decide) (by decide) (by decide) (.slice A1 O.length c1) O ⟨f, m⟩ [.int .i64 f, .int .i64 m] (fun k => h < k) (fun _ => False) rfl ?ax (k49_mkM _ _ _ _) (fun _ h => h.elim) ?af HV2.out.o HBr.out (Nat.le_of_lt (blk_lt HV2.out.cg)) (by omega) ?_; (case ax => first | rfl | (simp; done) | (simp; rfl)); (case af => exact fun k hk => by have h1 := blk_lt HV2.out.ch; omega); intro v' w5 ho hb5 hg5 hat5; have HO5 := Aside0.mk ho; have HB5 := Aside0.mk hb5; have HA5 := Aside0.mk (blk_grown HV2.out.ca hg5 (fun e => hNO.out a (by omega) e.symm)); have HBB5 := Aside0.mk (blk_grown HV2.out.cb hg5 (fun e => hNO.out b (by omega) e.symm)); have HG5 := Aside0.mk (blk_grown HV2.out.cg hg5 (fun e => hNO.out g (by omega) e.symm)); have HH5 := Aside0.mk (blk_grown HV2.out.ch hg5 (fun e => hNO.out h (by omega) e.symm)); clear ho hb5 hg5 hat5; obtain ⟨A5, c5, e5, _, _⟩ := Kd.R_reads HO5.out; subst e5; have hgc := blk_cell HG5.out 0; have hgf5 : w5.frozen? ⟨g, 0, none⟩ = false := (by simp [World.frozen?, HG5.out])))
    have e2 : O.length + 1 = (O ++ [(⟨f, m⟩ : S49)]).length := by simp
    rw [e2]
    have HV1 := Aside0.mk (VSt.put (u := .slice A1 O.length c1) hab hbg hgh HA5.out HBB5.out HG5.out HH5.out HO5.out)
    replace HW1 := Aside0.mk (HW1.out.trans (HB5.out.setCell (p := ⟨g, 0, none⟩) (Nat.le_refl _) (.slice A5 (O ++ [(⟨f, m⟩ : S49)]).length c5)))
    replace HB1 := Aside0.mk (HB.out.trans HW1.out)
    have hlo : (O ++ [(⟨f, m⟩ : S49)]).length = O.length + 1 := by simp
    have hasc : O ++ keepGo n least f (s :: q) = (O ++ [(⟨f, m⟩ : S49)]) ++ keepGo n least s.f1 q := by rw [hgo, List.append_assoc]
    clear hgc hgf5 hca hcb hcg hch hgo e2
    generalize O ++ [(⟨f, m⟩ : S49)] = O1 at *
    generalize w5.setCell ⟨g, 0, none⟩ _ = W1 at *
    have HZ1 := Aside0.mk (HZA.out W1 HB1.out)
    -- REGION O1 W1
    refine start_ (n := 8) (S := fun w' => w'.cell? ⟨h, 0, none⟩ = some (.func (.func 37) #[] #[.pointer (some ⟨a, 0, none⟩), .pointer (some ⟨b, 0, none⟩), .pointer (some ⟨g, 0, none⟩), .pointer (some ⟨h, 0, none⟩)]) ∧ w'.cell? { block := ad.block, off := ad.off + 1 } = some (.int .i64 s.f1)) (ds := []) #[false, false, false, false, false, false, false, false] (by kernel_rfl) rfl rfl ⟨(blk_cell HV1.out.ch 0).trans rfl, HZ1.out⟩ (fun hHeld => ?_)
    generalize hwy_ : W1.drew = wy at hHeld ⊢
    have HBD := hwy_ ▸ below_drew (Below.refl W1.heap.size W1)
    replace HB1 := Aside0.mk (below_then HB1.out (Nat.le_of_lt (blk_lt HV1.out.cg)) HBD)
    replace HW1 := Aside0.mk (below_then HW1.out (Nat.le_of_lt (blk_lt HV1.out.cg)) HBD)
    replace HV1 := Aside0.mk (HV1.out.below HBD)
    clear HBD
    clear hwy_
    refine pure_ (i := 1) (N := some 34) (v := ?_) (a' := ?_) #[false, true, false, false, false, false, false, false] rfl rfl (by kernel_rfl) (fun _ _ _ h => h) (Or.inl ⟨by rfl, ?_⟩) ?_ ?_
    rotate_left
    · intro w'
      go_simp
      with_reducible rfl
    rotate_left
    · simp only [Act.put, List.setIfInBounds_toArray, List.set_cons_zero, List.set_cons_succ, i64_w, i32_w]
      rfl
    refine pure_ (i := 2) (N := some 35) (v := ?_) (a' := ?_) #[false, true, true, false, false, false, false, false] rfl rfl (by kernel_rfl) (fun _ _ _ h => h) (Or.inl ⟨by rfl, ?_⟩) ?_ ?_
    rotate_left
    · intro w'
      go_simp
      with_reducible rfl
    rotate_left
    · simp only [Act.put, List.setIfInBounds_toArray, List.set_cons_zero, List.set_cons_succ, i64_w, i32_w]
      rfl
    refine pure_ (i := 3) (N := some 36) (v := ?_) (a' := ?_) #[false, true, true, true, false, false, false, false] rfl rfl (by kernel_rfl) (fun _ _ _ h => h) (Or.inl ⟨by rfl, ?_⟩) ?_ ?_
    rotate_left
    · intro w'
      go_simp
      with_reducible rfl
    rotate_left
    · simp only [Act.put, List.setIfInBounds_toArray, List.set_cons_zero, List.set_cons_succ, i64_w, i32_w]
      rfl
    refine pure_ (i := 5) (N := some 38) (v := ?_) (a' := ?_) #[false, true, true, true, false, true, false, false] rfl rfl (by kernel_rfl) (fun _ _ _ h => h) (Or.inl ⟨by rfl, ?_⟩) ?_ ?_
    rotate_left
    · intro w'
      go_simp
      with_reducible rfl
    rotate_left
    · simp only [Act.put, List.setIfInBounds_toArray, List.set_cons_zero, List.set_cons_succ, i64_w, i32_w]
      rfl
    refine pure_ (i := 6) (N := some 39) (v := ?_) (a' := ?_) #[false, true, true, true, false, true, true, false] rfl rfl (by kernel_rfl) (fun _ _ _ h => h) (Or.inl ⟨by rfl, ?_⟩) ?_ ?_
    rotate_left
    · intro w'
      go_simp
      with_reducible rfl
    rotate_left
    · simp only [Act.put, List.setIfInBounds_toArray, List.set_cons_zero, List.set_cons_succ, i64_w, i32_w]
      rfl
    refine take_ (i := 0) (N := some 33) (v := ?_) (a' := ?_) #[true, true, true, true, false, true, true, false] rfl rfl (by kernel_rfl) (fun _ _ _ h => h) (Or.inl ⟨by rfl, ?_⟩) hHeld ?_ ?_
    rotate_left
    · rintro w' ⟨s0, s1⟩
      go_simp
      with_reducible rfl
    rotate_left
    · simp only [Act.put, List.setIfInBounds_toArray, List.set_cons_zero, List.set_cons_succ, i64_w, i32_w]
      rfl
    refine take_ (i := 4) (N := some 37) (v := ?_) (a' := ?_) #[true, true, true, true, true, true, true, false] rfl rfl (by kernel_rfl) (fun _ _ _ h => h) (Or.inl ⟨by rfl, ?_⟩) hHeld ?_ ?_
    rotate_left
    · rintro w' ⟨s0, s1⟩
      go_simp
      with_reducible rfl
    rotate_left
    · simp only [Act.put, List.setIfInBounds_toArray, List.set_cons_zero, List.set_cons_succ, i64_w, i32_w]
      rfl
    refine one_ (i := 7) (N := some 40) #[true, true, true, true, true, true, true, true] rfl rfl (by kernel_rfl) (by decide) (fun K hK => ?_)
    refine goesV_ 33 #[] #[.pointer (some ⟨a, 0, none⟩), .pointer (some ⟨b, 0, none⟩), .pointer (some ⟨g, 0, none⟩), .pointer (some ⟨h, 0, none⟩)] Try.func37 (by kernel_rfl) rfl #[.int .i64 s.f1, .slice A2 q.length c2, .pointer (some ⟨a, 0, none⟩), .pointer (some ⟨b, 0, none⟩), .pointer (some ⟨g, 0, none⟩), .pointer (some ⟨h, 0, none⟩)] (by rfl) rfl rfl rfl (by simp only [List.map_toArray, List.map_cons, List.map_nil]; rfl) ?_
    refine (IH.out A2 c2 s.f1 O1 _ _ (by omega) (by omega) HD.out hcl.out HB1.out HV1.out).mono ?_
    rintro e w4 ⟨rfl, ⟨v4, hv4⟩, hb4⟩
    refine ⟨_, rfl, ?_⟩
    have HV4 := Aside0.mk hv4
    have HW4 := Aside0.mk (HW1.out.trans hb4)
    have HZ4 := Aside0.mk (HZA.out w4 (HB1.out.trans hb4))
    clear hv4 hb4
    refine hK.out _ _ ⟨(blk_cell HV4.out.ch 0).trans rfl, HZ4.out⟩ (fun hHeld => ?_)
    clear hK K
    refine norm_ (a' := ?_) ?_ ?_
    rotate_left
    · show Act.put _ (some 40) _ = _
      simp only [Act.put, List.setIfInBounds_toArray, List.set_cons_zero, List.set_cons_succ, i64_w, i32_w]
      rfl
    refine done_ (by kernel_rfl) ?_
    -- ENDREGION
    go_wp2
    (try simp only [Exit.inBlock, Exit.then]); refine bodyPost_end (results_none rfl _ _ _) rfl ?_
    exact ⟨rfl, ⟨_, by rw [hasc]; exact HV4.out⟩, HW4.out⟩
  · have hkb : decide (least ≤ m - f) = false := decide_eq_false hk
    rw [if_neg hk, List.nil_append] at hgo
    go_wp2
    have HV1 := HV2
    clear hca hcb hcg hch HV2
    have HZ1 := Aside0.mk (HZA.out W2 HB1.out)
    -- REGION O W2
    refine start_ (n := 8) (S := fun w' => w'.cell? ⟨h, 0, none⟩ = some (.func (.func 37) #[] #[.pointer (some ⟨a, 0, none⟩), .pointer (some ⟨b, 0, none⟩), .pointer (some ⟨g, 0, none⟩), .pointer (some ⟨h, 0, none⟩)]) ∧ w'.cell? { block := ad.block, off := ad.off + 1 } = some (.int .i64 s.f1)) (ds := []) #[false, false, false, false, false, false, false, false] (by kernel_rfl) rfl rfl ⟨(blk_cell HV1.out.ch 0).trans rfl, HZ1.out⟩ (fun hHeld => ?_)
    generalize hwy_ : W2.drew = wy at hHeld ⊢
    have HBD := hwy_ ▸ below_drew (Below.refl W2.heap.size W2)
    replace HB1 := Aside0.mk (below_then HB1.out (Nat.le_of_lt (blk_lt HV1.out.cg)) HBD)
    replace HW1 := Aside0.mk (below_then HW1.out (Nat.le_of_lt (blk_lt HV1.out.cg)) HBD)
    replace HV1 := Aside0.mk (HV1.out.below HBD)
    clear HBD
    clear hwy_
    refine pure_ (i := 1) (N := some 34) (v := ?_) (a' := ?_) #[false, true, false, false, false, false, false, false] rfl rfl (by kernel_rfl) (fun _ _ _ h => h) (Or.inl ⟨by rfl, ?_⟩) ?_ ?_
    rotate_left
    · intro w'
      go_simp
      with_reducible rfl
    rotate_left
    · simp only [Act.put, List.setIfInBounds_toArray, List.set_cons_zero, List.set_cons_succ, i64_w, i32_w]
      rfl
    refine pure_ (i := 2) (N := some 35) (v := ?_) (a' := ?_) #[false, true, true, false, false, false, false, false] rfl rfl (by kernel_rfl) (fun _ _ _ h => h) (Or.inl ⟨by rfl, ?_⟩) ?_ ?_
    rotate_left
    · intro w'
      go_simp
      with_reducible rfl
    rotate_left
    · simp only [Act.put, List.setIfInBounds_toArray, List.set_cons_zero, List.set_cons_succ, i64_w, i32_w]
      rfl
    refine pure_ (i := 3) (N := some 36) (v := ?_) (a' := ?_) #[false, true, true, true, false, false, false, false] rfl rfl (by kernel_rfl) (fun _ _ _ h => h) (Or.inl ⟨by rfl, ?_⟩) ?_ ?_
    rotate_left
    · intro w'
      go_simp
      with_reducible rfl
    rotate_left
    · simp only [Act.put, List.setIfInBounds_toArray, List.set_cons_zero, List.set_cons_succ, i64_w, i32_w]
      rfl
    refine pure_ (i := 5) (N := some 38) (v := ?_) (a' := ?_) #[false, true, true, true, false, true, false, false] rfl rfl (by kernel_rfl) (fun _ _ _ h => h) (Or.inl ⟨by rfl, ?_⟩) ?_ ?_
    rotate_left
    · intro w'
      go_simp
      with_reducible rfl
    rotate_left
    · simp only [Act.put, List.setIfInBounds_toArray, List.set_cons_zero, List.set_cons_succ, i64_w, i32_w]
      rfl
    refine pure_ (i := 6) (N := some 39) (v := ?_) (a' := ?_) #[false, true, true, true, false, true, true, false] rfl rfl (by kernel_rfl) (fun _ _ _ h => h) (Or.inl ⟨by rfl, ?_⟩) ?_ ?_
    rotate_left
    · intro w'
      go_simp
      with_reducible rfl
    rotate_left
    · simp only [Act.put, List.setIfInBounds_toArray, List.set_cons_zero, List.set_cons_succ, i64_w, i32_w]
      rfl
    refine take_ (i := 0) (N := some 33) (v := ?_) (a' := ?_) #[true, true, true, true, false, true, true, false] rfl rfl (by kernel_rfl) (fun _ _ _ h => h) (Or.inl ⟨by rfl, ?_⟩) hHeld ?_ ?_
    rotate_left
    · rintro w' ⟨s0, s1⟩
      go_simp
      with_reducible rfl
    rotate_left
    · simp only [Act.put, List.setIfInBounds_toArray, List.set_cons_zero, List.set_cons_succ, i64_w, i32_w]
      rfl
    refine take_ (i := 4) (N := some 37) (v := ?_) (a' := ?_) #[true, true, true, true, true, true, true, false] rfl rfl (by kernel_rfl) (fun _ _ _ h => h) (Or.inl ⟨by rfl, ?_⟩) hHeld ?_ ?_
    rotate_left
    · rintro w' ⟨s0, s1⟩
      go_simp
      with_reducible rfl
    rotate_left
    · simp only [Act.put, List.setIfInBounds_toArray, List.set_cons_zero, List.set_cons_succ, i64_w, i32_w]
      rfl
    refine one_ (i := 7) (N := some 40) #[true, true, true, true, true, true, true, true] rfl rfl (by kernel_rfl) (by decide) (fun K hK => ?_)
    refine goesV_ 33 #[] #[.pointer (some ⟨a, 0, none⟩), .pointer (some ⟨b, 0, none⟩), .pointer (some ⟨g, 0, none⟩), .pointer (some ⟨h, 0, none⟩)] Try.func37 (by kernel_rfl) rfl #[.int .i64 s.f1, .slice A2 q.length c2, .pointer (some ⟨a, 0, none⟩), .pointer (some ⟨b, 0, none⟩), .pointer (some ⟨g, 0, none⟩), .pointer (some ⟨h, 0, none⟩)] (by rfl) rfl rfl rfl (by simp only [List.map_toArray, List.map_cons, List.map_nil]; rfl) ?_
    refine (IH.out A2 c2 s.f1 O _ _ (by omega) (by omega) HD.out hcl.out HB1.out HV1.out).mono ?_
    rintro e w4 ⟨rfl, ⟨v4, hv4⟩, hb4⟩
    refine ⟨_, rfl, ?_⟩
    have HV4 := Aside0.mk hv4
    have HW4 := Aside0.mk (HW1.out.trans hb4)
    have HZ4 := Aside0.mk (HZA.out w4 (HB1.out.trans hb4))
    clear hv4 hb4
    refine hK.out _ _ ⟨(blk_cell HV4.out.ch 0).trans rfl, HZ4.out⟩ (fun hHeld => ?_)
    clear hK K
    refine norm_ (a' := ?_) ?_ ?_
    rotate_left
    · show Act.put _ (some 40) _ = _
      simp only [Act.put, List.setIfInBounds_toArray, List.set_cons_zero, List.set_cons_succ, i64_w, i32_w]
      rfl
    refine done_ (by kernel_rfl) ?_
    -- ENDREGION
    go_wp2
    (try simp only [Exit.inBlock, Exit.then]); refine bodyPost_end (results_none rfl _ _ _) rfl ?_
    exact ⟨rfl, ⟨_, by rw [hgo]; exact HV4.out⟩, HW4.out⟩
end Go.Proofs.Ytjkakgkiikjdmaa.G

namespace Go.Proofs.Ytjkakgkiikjdmaa.G
open Go.RowKit Go.Proofs.YtjkakgkiikjdmaaW.PrintWords Go.Proofs.YtjkakgkiikjdmaaW.PrintLast Go.Proofs.YtjkakgkiikjdmaaW.PrintMore
set_option linter.unusedVariables false
set_option linter.unusedSimpArgs false
def runS (s : S49) : S56 := ⟨s.f0, s.f1 - s.f0, false⟩
theorem addOf_apart (acc : List S56) (r : S56) (hr : 1 ≤ r.f1 ∧ r.f2 = false) (h : ∀ t ∈ acc, t.f2 = false ∧ 1 ≤ t.f1 ∧ t.f0 + t.f1 < r.f0) : addOf acc r = acc ++ [r] := by
  obtain ⟨a, n, b⟩ := r
  obtain ⟨hn, hb⟩ := hr
  dsimp only at hn hb
  subst hb
  have e : partR ⟨a, n, false⟩ 0 n = ⟨a, n, false⟩ := by simp [partR, img]
  unfold addOf
  rw [if_neg (by dsimp only; omega)]
  cases hq : acc.reverse with
  | nil =>
    have : acc = [] := by simpa using hq
    subst this
    simp [addR, e]
  | cons t d =>
    have ht : t ∈ acc := by rw [← List.mem_reverse, hq]; simp
    obtain ⟨h1, h2, h3⟩ := h t ht
    dsimp only at h3
    have hj : ¬ joins ⟨a, n, false⟩ t := by
      rintro ⟨hg, _⟩
      unfold goes img at hg
      rw [h1] at hg
      simp at hg
      omega
    have ea : addR ⟨a, n, false⟩ (t :: d) = ⟨a, n, false⟩ :: t :: d := by
      unfold addR
      dsimp only
      rw [if_neg hj, e]
    rw [ea, ← hq]
    simp
theorem runs_fold : ∀ (l : List S49) (e : Int) (acc : List S56), sep e l → (∀ t ∈ acc, t.f2 = false ∧ 1 ≤ t.f1 ∧ t.f0 + t.f1 ≤ e) → (l.map runS).foldl addOf acc = acc ++ l.map runS
  | [], e, acc, _, _ => by simp
  | s :: l, e, acc, h, ha => by
    obtain ⟨h1, h2, h3⟩ := h
    rw [List.map_cons, List.foldl_cons, addOf_apart acc (runS s) ⟨by simp [runS]; omega, rfl⟩ (fun t ht => by have := ha t ht; refine ⟨this.1, this.2.1, ?_⟩; show _ < s.f0; omega), runs_fold l s.f1 _ h3 ?_]
    · simp
    · intro t ht
      rcases List.mem_append.mp ht with ht | ht
      · have := ha t ht
        exact ⟨this.1, this.2.1, by omega⟩
      · rw [List.mem_singleton.mp ht]
        simp only [runS]
        exact ⟨trivial, by omega, by omega⟩
theorem runs_nrm {l : List S49} {e : Int} (h : sep e l) : nrm (sem (l.map runS)) = l.map runS := by
  rw [← addAll _ (fun r hr => by obtain ⟨s, hs, rfl⟩ := List.mem_map.mp hr; have := sep_in h s hs; simp only [runS]; omega)]
  simpa using runs_fold l e [] h (by simp)
theorem tot_runs : ∀ l : List S49, tot13 (l.map runS) = tot l
  | [] => rfl
  | s :: l => by rw [List.map_cons, tot13_cons, tot_cons, tot_runs l]; rfl
theorem sep_tot (N : Int) : ∀ (l : List S49) (e : Int), sep e l → (∀ s ∈ l, s.f1 ≤ N) → 0 ≤ tot l ∧ (tot l ≤ N - e ∨ l = [])
  | [], e, _, _ => by simp [tot]
  | s :: l, e, h, hv => by
    obtain ⟨h1, h2, h3⟩ := h
    have h4 := hv s (by simp)
    rcases sep_tot N l s.f1 h3 (fun t ht => hv t (by simp [ht])) with ⟨h5, h6 | h6⟩
    · rw [tot_cons]; omega
    · subst h6; rw [tot_cons]; simp [tot]; omega
theorem runs_check {l : List S49} (hs : sep (-1) l) (hl : l.length ≤ 256) (hv : ∀ s ∈ l, s.f1 ≤ 17179869184) (ht : tot l ≤ 17179869184) : check13 (l.map runS) = 0 := by
  have hb : anyBad (l.map runS) = false := by
    unfold anyBad
    rw [List.any_eq_false]
    intro r hr
    obtain ⟨s, h1, rfl⟩ := List.mem_map.mp hr
    have h2 := sep_in hs s h1
    have h3 := hv s h1
    rw [decide_eq_true_eq]
    unfold badR runS
    simp
    omega
  unfold check13
  rw [List.length_map, if_neg (by omega), hb, if_neg (by simp), tot_runs, if_neg (by omega)]
def own04 (l : List S49) : Prop := check04 l = 0 ∧ joinOf l = l
theorem own_sep {l : List S49} (h : own04 l) : sep (-1) l ∧ l.length ≤ 256 ∧ (∀ s ∈ l, 0 ≤ s.f0 ∧ s.f0 < s.f1 ∧ s.f1 ≤ 17179869184) ∧ 0 ≤ tot l ∧ tot l ≤ 17179869184 := by
  obtain ⟨h1, h2, h3⟩ := joinOf_fit h.1
  rw [h.2] at h1 h3
  have h5 : 0 ≤ tot l ∧ tot l ≤ 17179869184 := by
    match l, h1, h3 with
    | [], _, _ => simp [tot]
    | s :: q, h1, h3 =>
      have h6 := h3 s (by simp)
      rcases sep_tot 17179869184 q s.f1 h1.2.2 (fun t ht => (h3 t (by simp [ht])).2.2) with ⟨h7, h8 | h8⟩
      · rw [tot_cons]; omega
      · subst h8; rw [tot_cons]; simp [tot]; omega
  exact ⟨h1, (check04_zero h.1).1, h3, h5⟩
def runsOf (l : List S49) : List S56 × Int :=
  if check04 l = 0 then (if joinOf l = l then (l.map runS, 0) else ([], 9)) else ([], check04 l)
theorem normOf_runs {l : List S49} (h : own04 l) : normOf (l.map runS) = (l.map runS, 0) := by
  obtain ⟨h1, h2, h3, h4, h5⟩ := own_sep h
  unfold normOf
  rw [if_pos (runs_check h1 h2 (fun s hs => (h3 s hs).2.2) h5), runs_nrm h1]
def plcGo : Int → List S56 → List Int
  | _, [] => []
  | a, r :: l => a :: plcGo (a + r.f1) l
theorem plcGo_append : ∀ (l m : List S56) (a : Int), plcGo a (l ++ m) = plcGo a l ++ plcGo (a + tot13 l) m
  | [], m, a => by simp [plcGo, tot13]
  | r :: l, m, a => by
    rw [List.cons_append, plcGo, plcGo, plcGo_append l m, List.cons_append, tot13_cons]
    congr 3
    omega
theorem plcGo_len : ∀ (l : List S56) (a : Int), (plcGo a l).length = l.length
  | [], a => rfl
  | r :: l, a => by rw [plcGo, List.length_cons, List.length_cons, plcGo_len l]
def places (l : List S56) : List Int := (plcGo 0 l).drop 1
theorem places_len (l : List S56) : (places l).length = l.length - 1 := by unfold places; rw [List.length_drop, plcGo_len]
theorem places_snoc (l : List S56) (r : S56) : places (l ++ [r]) = places l ++ (if l = [] then [] else [tot13 l]) := by
  unfold places
  rw [plcGo_append]
  cases l with
  | nil => rfl
  | cons x l => simp [plcGo]
theorem plcGo_get : ∀ (l : List S56) (a : Int) (j : Nat), j < l.length → (plcGo a l)[j]? = some (a + tot13 (l.take j))
  | [], a, j, h => by simp at h
  | r :: l, a, 0, h => by simp [plcGo, tot13]
  | r :: l, a, j + 1, h => by
    rw [plcGo, List.getElem?_cons_succ, plcGo_get l _ j (by simpa using h), List.take_succ_cons, tot13_cons]
    congr 1
    omega
theorem places_rd (l : List S56) (i : Nat) (h : i + 1 < l.length) : rd (places l) (i : Int) = tot13 (l.take (i + 1)) := by
  have e : (places l)[i]? = some (tot13 (l.take (i + 1))) := by
    unfold places
    rw [List.getElem?_drop, Nat.add_comm, plcGo_get l 0 (i + 1) h, Int.zero_add]
  simp [rd, List.getD_eq_getElem?_getD, e]
def placesOf (m : List S56) : List Int × Int := if check13 m = 0 then (places (nrm (sem m)), 0) else ([], check13 m)
end Go.Proofs.Ytjkakgkiikjdmaa.G

namespace Go.Proofs.Ytjkakgkiikjdmaa.G
open Go.RowKit Go.Proofs.YtjkakgkiikjdmaaW.PrintWords Go.Proofs.YtjkakgkiikjdmaaW.PrintLast Go.Proofs.YtjkakgkiikjdmaaW.PrintMore
attribute [local go_sem] max2_int min2_int max_two min_two max_three min_three max_four min_four   -- for this text's walks alone
set_option linter.unusedVariables false
set_option linter.unusedSimpArgs false
theorem store_func (P : Program) (w : World) (a : Addr) (m : Mode) (f : Fn) (x y : Array Value) : (store a (.func f x y) m).run P w = stored P w a (.func f x y) m := Go.run_store P w a _ m rfl
attribute [local go_sem] store_func
theorem visit_main (a b g h : Nat) (hab : a < b) (hbg : b < g) (hgh : g < h) (n least : Int) (hn : 0 ≤ n ∧ n ≤ 17179869184) (w0 : World) (hg0 : w0.heap.size ≤ g) : ∀ (L : List S49), (∀ s ∈ L, 0 ≤ s.f0 ∧ s.f0 ≤ 17179869184 ∧ 0 ≤ s.f1 ∧ s.f1 ≤ 17179869184) →
    ∀ (A : Option Addr) (c : Nat) (f : Int) (O : List S49) (v : Value) (W : World), 0 ≤ f ∧ f ≤ 17179869184 → O.length + L.length < 65536 → Kd.C k49 w0 A L.length L → L.length ≤ c → Below g w0 W → VSt a b g h n least v O W →
      Calls Try.prog 37 #[.int .i64 f, .slice A L.length c, .pointer (some ⟨a, 0, none⟩), .pointer (some ⟨b, 0, none⟩), .pointer (some ⟨g, 0, none⟩), .pointer (some ⟨h, 0, none⟩)] W fun e W' => e = .returned (.tuple #[]) ∧ (∃ v', VSt a b g h n least v' (O ++ keepGo n least f L) W') ∧ Below g W W'
  | [], _, A, c, f, O, v, W, hf, hO, _, _, _, hV => visit_nil a b g h hab hbg hgh n least hn A c f hf O (by simpa using hO) v W hV
  | s :: q, hv, A, c, f, O, v, W, hf, hO, hC, hc, hb, hV =>
    visit_cons a b g h hab hbg hgh n least hn w0 hg0 s q (hv s (by simp)) (visit_main a b g h hab hbg hgh n least hn w0 hg0 q (fun t ht => hv t (by simp [ht]))) A c f hf O hO v W hC hc hb hV
def splice_Keep.f (a0 : Int) (l1 : List S49) (a2 : Int) : Option (List S49 × Int) := some (keepOf a0 l1 a2)
theorem or4 {p q r s : Bool} (h : (p || (q || (r || s))) = true) : p = true ∨ p = false ∧ (q = true ∨ q = false ∧ (r = true ∨ r = false ∧ s = true)) := by
  cases p <;> cases q <;> cases r <;> cases s <;> simp_all
set_option maxRecDepth 100000 in
set_option maxHeartbeats 16000000 in
theorem keep_wide (n : Int) (A0 : Option Addr) (c0 : Nat) (bad : List S49) (least : Int) (w : World) (hw : wide n least) :
    Calls Try.prog 13 #[.int .i64 n, .slice A0 bad.length c0, .int .i64 least] w fun e w' => ∃ v, e = .returned (.tuple #[v, .int .i64 1]) ∧ Kd.R k49 49 w' w.heap.size (fun _ => True) v [] ∧ Below w.heap.size w w' := by
  have HB := Aside0.mk (((Below.refl w.heap.size w).alloc (Nat.le_refl _) (.cells #[.int .i64 n] 3)).alloc (by rw [World.size_alloc]; omega) (.cells #[.int .i64 least] 3))
  unfold wide at hw
  have hx : (decide (n < 0) || (decide (17179869184 < n) || (decide (least < 1) || decide (17179869184 < least)))) = true := by simpa using hw
  clear hw
  rcases or4 hx with h1 | ⟨h1, h2 | ⟨h2, h3 | ⟨h3, h4⟩⟩⟩
  · clear hx
    go_enter Try.func13, Try.ntmps13
    go_wp2
    refine bodyPost_ret (results_tmp2 rfl _ _ _) rfl ?_
    exact ⟨_, rfl, Kd.R_nil _ _ _ _ _, HB.out⟩
  · clear hx
    go_enter Try.func13, Try.ntmps13
    go_wp2
    refine bodyPost_ret (results_tmp2 rfl _ _ _) rfl ?_
    exact ⟨_, rfl, Kd.R_nil _ _ _ _ _, HB.out⟩
  · clear hx
    go_enter Try.func13, Try.ntmps13
    go_wp2
    refine bodyPost_ret (results_tmp2 rfl _ _ _) rfl ?_
    exact ⟨_, rfl, Kd.R_nil _ _ _ _ _, HB.out⟩
  · clear hx
    go_enter Try.func13, Try.ntmps13
    go_wp2
    refine bodyPost_ret (results_tmp2 rfl _ _ _) rfl ?_
    exact ⟨_, rfl, Kd.R_nil _ _ _ _ _, HB.out⟩
theorem keep_start (n least : Int) (w w1 : World) (hlt : w.heap.size + 1 < ((w.alloc (.cells #[.int .i64 n] 3)).alloc (.cells #[.int .i64 least] 3)).heap.size) (hsz : ((w.alloc (.cells #[.int .i64 n] 3)).alloc (.cells #[.int .i64 least] 3)).heap.size ≤ w1.heap.size)
    (qa : w1.heap[w.heap.size]? = some (.cells #[.int .i64 n] 3 (0, 0))) (qb : w1.heap[w.heap.size + 1]? = some (.cells #[.int .i64 least] 3 (0, 0))) :
    VSt w.heap.size (w.heap.size + 1) w1.heap.size (w1.heap.size + 1) n least (.slice none 0 0) [] ((w1.alloc (.cells #[.slice none 0 0] 22)).alloc (.cells #[(.func (.func 37) #[] #[.pointer (some ⟨w.heap.size, 0, none⟩), .pointer (some ⟨w.heap.size + 1, 0, none⟩), .pointer (some ⟨w1.heap.size, 0, none⟩), .pointer (some ⟨w1.heap.size + 1, 0, none⟩)])] 58)) := by
  have qh := World.alloc_heap_new (w1.alloc (.cells #[.slice none 0 0] 22)) (.cells #[(.func (.func 37) #[] #[.pointer (some ⟨w.heap.size, 0, none⟩), .pointer (some ⟨w.heap.size + 1, 0, none⟩), .pointer (some ⟨w1.heap.size, 0, none⟩), .pointer (some ⟨w1.heap.size + 1, 0, none⟩)])] 58)
  rw [World.size_alloc] at qh
  exact ⟨blk_alloc (blk_alloc qa _) _, blk_alloc (blk_alloc qb _) _, blk_alloc (World.alloc_heap_new w1 _) _, qh, Kd.R_nil _ _ _ _ _⟩
set_option maxRecDepth 100000 in
set_option maxHeartbeats 16000000 in
theorem keep_main (n : Int) (A0 : Option Addr) (c0 : Nat) (bad : List S49) (least : Int) (w : World) (hr : Kd.C k49 w A0 bad.length bad) (hc : bad.length ≤ c0) (hw : ¬ wide n least) :
    Calls Try.prog 13 #[.int .i64 n, .slice A0 bad.length c0, .int .i64 least] w fun e w' => ∃ v, e = .returned (.tuple #[v, .int .i64 (keepOf n bad least).2]) ∧ Kd.R k49 49 w' w.heap.size (fun _ => True) v (keepOf n bad least).1 ∧ Below w.heap.size w w' := by
  have HB0 := Aside0.mk (((Below.refl w.heap.size w).alloc (Nat.le_refl _) (.cells #[.int .i64 n] 3)).alloc (by rw [World.size_alloc]; omega) (.cells #[.int .i64 least] 3))
  have HA0 := Aside0.mk (blk_alloc (World.alloc_heap_new w (.cells #[.int .i64 n] 3)) (.cells #[.int .i64 least] 3))
  have HE0 := Aside0.mk (World.alloc_heap_new (w.alloc (.cells #[.int .i64 n] 3)) (.cells #[.int .i64 least] 3))
  rw [World.size_alloc] at HE0
  have HR := Aside0.mk (Kd.C_below hr HB0.out)
  have HC := Aside0.mk hc
  have h1 : decide (n < 0) = false := decide_eq_false (fun h => hw (.inl h))
  have h2 : decide (17179869184 < n) = false := decide_eq_false (fun h => hw (.inr (.inl h)))
  have h3 : decide (least < 1) = false := decide_eq_false (fun h => hw (.inr (.inr (.inl h))))
  have h4 : decide (17179869184 < least) = false := decide_eq_false (fun h => hw (.inr (.inr (.inr h))))
  have hn : 0 ≤ n ∧ n ≤ 17179869184 := by unfold wide at hw; omega
  obtain ⟨kn, hkn⟩ := (norm_ends bad).get
  unfold keepOf
  rw [if_neg hw]
  clear hr hc hw
  by_cases hc : check04 bad = 0
  · rw [norm_fits hc] at hkn
    have HKN := Aside0.mk hkn
    obtain ⟨j1, _, j3⟩ := joinOf_fit hc
    have hj := joinOf_few hc
    have hgl := keepGo_len n least (joinOf bad) 0
    have HJ := Aside0.mk (show ∀ s ∈ joinOf bad, 0 ≤ s.f0 ∧ s.f0 ≤ 17179869184 ∧ 0 ≤ s.f1 ∧ s.f1 ≤ 17179869184 from fun s hs => by have := j3 s hs; omega)
    rw [if_pos hc]
    clear hkn j1 j3 hc
    generalize joinOf bad = G at *
    by_cases hf : (keepGo n least 0 G).length > 256
    · have hfb : decide (256 < ((keepGo n least 0 G).length : Int)) = true := decide_eq_true (by omega)
      rw [if_pos hf]
      go_enter Try.func13, Try.ntmps13
      go_wp2_with (first | (go_at_call 36; (with_reducible refine (span_Norm.calls kn A0 c0 bad G 0 _ HR.out HC.out HKN.out).mono ?_); rintro e w1 ⟨v1, rfl, ho1, hb1⟩; obtain ⟨A1, c1, e1⟩ := Kd.R_slice ho1; subst e1; have HB1 := Aside0.mk (below_then HB0.out HB0.out.size hb1); have HO1 := Aside0.mk (Kd.R_reads' ho1).2.2; have HC1 := Aside0.mk (Kd.R_reads' ho1).2.1; have hlt := blk_lt HE0.out; have hsz := hb1.size; have qa := blk_below HA0.out hb1; have qb := blk_below HE0.out hb1; have qh := World.alloc_heap_new (w1.alloc (.cells #[.slice none 0 0] 22)) (.cells #[.nilFunc] 58); rw [World.size_alloc] at qh; have hfz : ((w1.alloc (.cells #[.slice none 0 0] 22)).alloc (.cells #[.nilFunc] 58)).frozen? ⟨w1.heap.size + 1, 0, none⟩ = false := blk_frozen qh 0; have hhc : ((w1.alloc (.cells #[.slice none 0 0] 22)).alloc (.cells #[.nilFunc] 58)).cell? ⟨w1.heap.size + 1, 0, none⟩ = some .nilFunc := blk_cell qh 0; have HV := Aside0.mk (keep_start n least w w1 hlt hsz qa qb); have hch : ((w1.alloc (.cells #[.slice none 0 0] 22)).alloc (.cells #[(.func (.func 37) #[] #[.pointer (some ⟨w.heap.size, 0, none⟩), .pointer (some ⟨w.heap.size + 1, 0, none⟩), .pointer (some ⟨w1.heap.size, 0, none⟩), .pointer (some ⟨w1.heap.size + 1, 0, none⟩)])] 58)).cell? ⟨w1.heap.size + 1, 0, none⟩ = some (.func (.func 37) #[] #[.pointer (some ⟨w.heap.size, 0, none⟩), .pointer (some ⟨w.heap.size + 1, 0, none⟩), .pointer (some ⟨w1.heap.size, 0, none⟩), .pointer (some ⟨w1.heap.size + 1, 0, none⟩)]) := blk_cell HV.out.ch 0; have HBA := Aside0.mk (((Below.refl w1.heap.size w1).alloc (Nat.le_refl _) (.cells #[.slice none 0 0] 22)).alloc (by rw [World.size_alloc]; omega) (.cells #[(.func (.func 37) #[] #[.pointer (some ⟨w.heap.size, 0, none⟩), .pointer (some ⟨w.heap.size + 1, 0, none⟩), .pointer (some ⟨w1.heap.size, 0, none⟩), .pointer (some ⟨w1.heap.size + 1, 0, none⟩)])] 58)); have hlt1 : w.heap.size + 1 < w1.heap.size := (by omega); clear ho1 hb1 qa qb qh hlt hsz) | (go_at_call 37; (refine (visit_main w.heap.size (w.heap.size + 1) w1.heap.size (w1.heap.size + 1) (by omega) hlt1 (by omega) n least hn w1 (Nat.le_refl _) G HJ.out A1 c1 0 [] _ _ (by omega) (by simp; omega) HO1.out HC1.out HBA.out HV.out).mono ?_); rintro e w4 ⟨rfl, ⟨v4, hv4⟩, hb4⟩; rw [List.nil_append] at hv4; obtain ⟨A4, c4, e4⟩ := Kd.R_slice hv4.o; subst e4; have HV4 := Aside0.mk hv4; have hcg4 : w4.cell? ⟨w1.heap.size, 0, none⟩ = some (.slice A4 (keepGo n least 0 G).length c4) := blk_cell hv4.cg 0; have HB4 := Aside0.mk (HB1.out.trans ((HBA.out.trans hb4).mono (show w.heap.size ≤ w1.heap.size by omega))); clear hv4 hb4 hch))
      refine bodyPost_ret (results_tmp2 rfl _ _ _) rfl ?_
      exact ⟨_, rfl, Kd.R_nil _ _ _ _ _, HB4.out⟩
    · have hfb : decide (256 < ((keepGo n least 0 G).length : Int)) = false := decide_eq_false (by omega)
      rw [if_neg hf]
      go_enter Try.func13, Try.ntmps13
      go_wp2_with (first | (go_at_call 36; (with_reducible refine (span_Norm.calls kn A0 c0 bad G 0 _ HR.out HC.out HKN.out).mono ?_); rintro e w1 ⟨v1, rfl, ho1, hb1⟩; obtain ⟨A1, c1, e1⟩ := Kd.R_slice ho1; subst e1; have HB1 := Aside0.mk (below_then HB0.out HB0.out.size hb1); have HO1 := Aside0.mk (Kd.R_reads' ho1).2.2; have HC1 := Aside0.mk (Kd.R_reads' ho1).2.1; have hlt := blk_lt HE0.out; have hsz := hb1.size; have qa := blk_below HA0.out hb1; have qb := blk_below HE0.out hb1; have qh := World.alloc_heap_new (w1.alloc (.cells #[.slice none 0 0] 22)) (.cells #[.nilFunc] 58); rw [World.size_alloc] at qh; have hfz : ((w1.alloc (.cells #[.slice none 0 0] 22)).alloc (.cells #[.nilFunc] 58)).frozen? ⟨w1.heap.size + 1, 0, none⟩ = false := blk_frozen qh 0; have hhc : ((w1.alloc (.cells #[.slice none 0 0] 22)).alloc (.cells #[.nilFunc] 58)).cell? ⟨w1.heap.size + 1, 0, none⟩ = some .nilFunc := blk_cell qh 0; have HV := Aside0.mk (keep_start n least w w1 hlt hsz qa qb); have hch : ((w1.alloc (.cells #[.slice none 0 0] 22)).alloc (.cells #[(.func (.func 37) #[] #[.pointer (some ⟨w.heap.size, 0, none⟩), .pointer (some ⟨w.heap.size + 1, 0, none⟩), .pointer (some ⟨w1.heap.size, 0, none⟩), .pointer (some ⟨w1.heap.size + 1, 0, none⟩)])] 58)).cell? ⟨w1.heap.size + 1, 0, none⟩ = some (.func (.func 37) #[] #[.pointer (some ⟨w.heap.size, 0, none⟩), .pointer (some ⟨w.heap.size + 1, 0, none⟩), .pointer (some ⟨w1.heap.size, 0, none⟩), .pointer (some ⟨w1.heap.size + 1, 0, none⟩)]) := blk_cell HV.out.ch 0; have HBA := Aside0.mk (((Below.refl w1.heap.size w1).alloc (Nat.le_refl _) (.cells #[.slice none 0 0] 22)).alloc (by rw [World.size_alloc]; omega) (.cells #[(.func (.func 37) #[] #[.pointer (some ⟨w.heap.size, 0, none⟩), .pointer (some ⟨w.heap.size + 1, 0, none⟩), .pointer (some ⟨w1.heap.size, 0, none⟩), .pointer (some ⟨w1.heap.size + 1, 0, none⟩)])] 58)); have hlt1 : w.heap.size + 1 < w1.heap.size := (by omega); clear ho1 hb1 qa qb qh hlt hsz) | (go_at_call 37; (refine (visit_main w.heap.size (w.heap.size + 1) w1.heap.size (w1.heap.size + 1) (by omega) hlt1 (by omega) n least hn w1 (Nat.le_refl _) G HJ.out A1 c1 0 [] _ _ (by omega) (by simp; omega) HO1.out HC1.out HBA.out HV.out).mono ?_); rintro e w4 ⟨rfl, ⟨v4, hv4⟩, hb4⟩; rw [List.nil_append] at hv4; obtain ⟨A4, c4, e4⟩ := Kd.R_slice hv4.o; subst e4; have HV4 := Aside0.mk hv4; have hcg4 : w4.cell? ⟨w1.heap.size, 0, none⟩ = some (.slice A4 (keepGo n least 0 G).length c4) := blk_cell hv4.cg 0; have HB4 := Aside0.mk (HB1.out.trans ((HBA.out.trans hb4).mono (show w.heap.size ≤ w1.heap.size by omega))); clear hv4 hb4 hch))
      refine bodyPost_ret (results_tmp2 rfl _ _ _) rfl ?_
      exact ⟨_, rfl, Kd.R_lower (Kd.R_mono HV4.out.o (fun _ _ => trivial)) (by omega), HB4.out⟩
  · have e : bothOf bad [] 0 = ([], check04 bad) := by unfold bothOf; rw [if_neg hc]
    rw [e] at hkn
    have HKN := Aside0.mk hkn
    have hne : (check04 bad == 0) = false := by simpa using hc
    have hne1 : (check04 bad != 0) = true := by simpa using hc
    rw [if_neg hc]
    clear hkn hc e
    generalize check04 bad = q at *
    go_enter Try.func13, Try.ntmps13
    go_wp2_with (go_at_call 36; (with_reducible refine (span_Norm.calls kn A0 c0 bad [] q _ HR.out HC.out HKN.out).mono ?_); rintro e w1 ⟨v1, rfl, ho1, hb1⟩; have HB1 := Aside0.mk (below_then HB0.out HB0.out.size hb1); clear ho1 hb1)
    refine bodyPost_ret (results_tmp2 rfl _ _ _) rfl ?_
    exact ⟨_, rfl, Kd.R_nil _ _ _ _ _, HB1.out⟩
theorem splice_Keep.calls (a0 : Int) (A0 : Option Addr) (c0 : Nat) (l1 : List (S49)) (a2 : Int) (r1 : List (S49)) (r2 : Int) (w : World) (hr0 : Kd.C k49 w A0 l1.length l1) (hc0 : l1.length ≤ c0) (h : splice_Keep.f a0 l1 a2 = some (r1, r2)) :
    Calls Try.prog 13 #[.int .i64 a0, .slice A0 l1.length c0, .int .i64 a2] w fun e w' => ∃ v0_ : Value, e = .returned (.tuple #[v0_, .int .i64 r2]) ∧ Kd.R k49 49 w' w.heap.size (fun _ => True) v0_ r1 ∧ Below w.heap.size w w' := by
  have e : keepOf a0 l1 a2 = (r1, r2) := Option.some.inj h
  by_cases hw : wide a0 a2
  · have e2 : keepOf a0 l1 a2 = ([], 1) := by unfold keepOf; rw [if_pos hw]
    rw [e2] at e
    obtain ⟨rfl, rfl⟩ := Prod.mk.inj e
    exact keep_wide a0 A0 c0 l1 a2 w hw
  · have := keep_main a0 A0 c0 l1 a2 w hr0 hc0 hw
    rw [e] at this
    exact this
end Go.Proofs.Ytjkakgkiikjdmaa.G

namespace Go.Proofs.Ytjkakgkiikjdmaa.G
open Go.RowKit Go.Proofs.YtjkakgkiikjdmaaW.PrintWords Go.Proofs.YtjkakgkiikjdmaaW.PrintLast Go.Proofs.YtjkakgkiikjdmaaW.PrintMore
attribute [local go_sem] max2_int min2_int max_two min_two max_three min_three max_four min_four   -- for this text's walks alone
set_option linter.unusedVariables false
set_option linter.unusedSimpArgs false

def splice_Waste.l0 : Nat → Int → List (S49) → Int → Int → Option (Int × Int)
 | 0, _, _, _, _ => none
 | k + 1, x0, x22, x23, x24 => if x24 < x23 then (if 0 ≤ x24 then (if x24 < (x22.length : Int) then (splice_Waste.l0 k (wrap64 (x0 - (wrap64 (((rd_T49 x22 x24).f1) - ((rd_T49 x22 x24).f0))))) x22 x23 (wrap64 (x24 + 1))) else (none)) else (none)) else (some (x0, 0))
def splice_Waste.f (k : Nat) (a0 : Int) (l1 : List (S49)) (a2 : Int) : Option (Int × Int) := (splice_Keep.f a0 l1 a2).bind fun bt16001 => (if bt16001.2 = 0 then (splice_Waste.l0 k a0 bt16001.1 (bt16001.1.length : Int) 0) else (some (0, bt16001.2)))
theorem splice_Waste.mono_l : ∀ k, (∀ y0 y1 y2 y3, LeO (splice_Waste.l0 k y0 y1 y2 y3) (splice_Waste.l0 (k + 1) y0 y1 y2 y3))
 | 0 => fun _ _ _ _ r h => by simp [splice_Waste.l0] at h
 | k + 1 => by
  have ih0 := splice_Waste.mono_l k
  ·intro y0 y1 y2 y3
   unfold splice_Waste.l0
   repeat' first
   | (with_reducible exact ih0 _ _ _ _)
   | (with_reducible exact LeO.refl _)
   | (with_reducible exact LeO.none _)
   | (with_reducible refine LeO.ite ?_ ?_)
   | (with_reducible refine LeO.bind ?_ (fun _ => ?_))
   | exact ih0 _ _ _ _
   | exact LeO.none _
   | refine LeO.ite ?_ ?_
   | refine LeO.bind ?_ (fun _ => ?_)
theorem splice_Waste.mono : ∀ a0 a1 a2 k, LeO (splice_Waste.f k a0 a1 a2) (splice_Waste.f (k + 1) a0 a1 a2) := by
 intro a0 a1 a2 k
 have ih0 := splice_Waste.mono_l k
 unfold splice_Waste.f
 repeat' first
   | (with_reducible exact ih0 _ _ _ _)
   | (with_reducible exact LeO.refl _)
   | (with_reducible exact LeO.none _)
   | (with_reducible refine LeO.ite ?_ ?_)
   | (with_reducible refine LeO.bind ?_ (fun _ => ?_))
   | exact ih0 _ _ _ _
   | exact LeO.none _
   | refine LeO.ite ?_ ?_
   | refine LeO.bind ?_ (fun _ => ?_)
set_option maxHeartbeats 8000000 in
set_option maxRecDepth 100000 in
theorem splice_Waste.calls (k : Nat) (a0 : Int) (A1 : Option Addr) (c1 : Nat) (l1 : List (S49)) (a2 : Int) (r1 : Int) (r2 : Int) (w : World) (hr1 : Kd.C k49 w A1 l1.length l1) (hc1 : l1.length ≤ c1) (h : splice_Waste.f k a0 l1 a2 = some (r1, r2)) :
  Calls Try.prog 15 #[.int .i64 a0, .slice A1 l1.length c1, .int .i64 a2] w fun e w' => e = .returned (.tuple #[.int .i64 r1, .int .i64 r2]) ∧ Below w.heap.size w w' := by
 have hu49 := Try.underlying49
 have HR1 := Aside0.mk hr1
 have HC1 := Aside0.mk hc1
 clear hr1 hc1
 have HB := Aside0.mk (Below.refl w.heap.size w)
 have H : ((splice_Keep.f a0 l1 a2).bind fun bt16001 => (if bt16001.2 = 0 then (splice_Waste.l0 k a0 bt16001.1 (bt16001.1.length : Int) 0) else (some (0, bt16001.2)))) = some (r1, r2) := h
 clear h
 replace H := Option.bind_eq_some_iff.mp H
 obtain ⟨⟨t16001, t16002⟩, A40, H⟩ := H
 replace H : (if t16002 = 0 then (splice_Waste.l0 k a0 t16001 (t16001.length : Int) 0) else (some (0, t16002))) = some (r1, r2) := H
 have A4 := Aside0.mk A40
 clear A40
 by_cases c5 : t16002 = 0
 ·rw [if_pos c5] at H
  have c5b0 : (t16002 == 0) = true := beq_iff_eq.mpr c5
  have c5b1 : (t16002 != 0) = false := bne_eq_false_iff_eq.mpr c5
  clear c5
  have H' := Aside0.mk H
  clear H
  go_enter Try.func15, Try.ntmps15
  go_wp2_with (first | ((with_reducible refine gate_callee (f := 13) rfl ?_); refine goesL_ (some 16) rfl rfl Try.func13 (by kernel_rfl) rfl #[.int .i64 a0, .slice A1 l1.length c1, .int .i64 a2] rfl (by (try simp only [List.map_toArray, List.map_cons, List.map_nil]); first | done | rfl | (simp only [List.length_drop, List.length_take]; rfl)) ?_; (with_reducible refine (splice_Keep.calls a0 _ _ l1 a2 t16001 t16002 _ ?side1 ?side2 A4.out).mono ?_); (case side1 => exact HR1.out); (case side2 => exact HC1.out); rintro e w6 ⟨v16003, rfl, ho0, hb⟩; refine ⟨_, rfl, ?_⟩; have n0_ := Aside0.mk (Kd.R_lower ho0 (below_size (by repeat (first | exact HB.out | apply below_alloc | apply pw_below_drewN | apply below_drew1)))); have n1_ := Aside0.mk (below_step (by repeat (first | exact HB.out | apply below_alloc | apply pw_below_drewN | apply below_drew1)) hb); clear HB; have HO16004 := n0_; have HB := n1_; clear n0_ n1_; (try clear hb); (try clear hb2); (try clear hk); (try clear hi); (try clear ho0); obtain ⟨Ao7, co7, eo7⟩ := Kd.R_slice HO16004.out; subst eo7))
  go_loopg [0, 24] k (fun kq v0 v24 w' => ∃ (x0_1 : Int) (x24_1 : Int), v0 = .int .i64 x0_1 ∧ v24 = .int .i64 x24_1 ∧ Aside0 (splice_Waste.l0 kq x0_1 t16001 (t16001.length : Int) x24_1 = some (r1, r2)) ∧ Aside0 (kq ≤ k) ∧ Aside0 (Kd.R k49 49 w' w.heap.size (fun _ => True) (.slice Ao7 t16001.length co7) t16001) ∧ Aside0 (Below w.heap.size w w'))
  case atStart => exact ⟨(a0), (0), (by first | rfl | (simp; done) | (simp [*]; done)), (by first | rfl | (simp; done) | (simp [*]; done)), H', ⟨Nat.le_refl _⟩, ⟨HO16004.out⟩, ⟨by repeat (first | exact HB.out | apply below_alloc | apply pw_below_drewN | apply below_drew1)⟩⟩
  case round =>
   clear H'
   try clear c1
   try clear p2
   try clear c5
   try clear c5b0
   try clear c5b1
   obtain ⟨x0_1, x24_1, rfl, rfl, HA, HK1, HO_22, HB⟩ := hrel
   cases gk with
   | zero => exact absurd HA.out (by simp [splice_Waste.l0])
   | succ k1 =>
    have H := HA.out
    clear HA
    simp only [splice_Waste.l0] at H
    by_cases c8 : x24_1 < (t16001.length : Int)
    ·rw [if_pos c8] at H
     have c8b0 : decide (x24_1 < (t16001.length : Int)) = true := decide_eq_true c8
     clear c8
     by_cases c9 : 0 ≤ x24_1
     ·rw [if_pos c9] at H
      have c9b0 : decide (0 ≤ x24_1) = true := decide_eq_true c9
      clear c9
      by_cases c10 : x24_1 < (t16001.length : Int)
      ·rw [if_pos c10] at H
       have c10b0 : decide (x24_1 < (t16001.length : Int)) = true := decide_eq_true c10
       clear c10
       have H' := Aside0.mk H
       clear H
       have p16005 : 0 ≤ (x24_1 : Int) := of_decide_eq_true (by assumption)
       have q16005 : x24_1 < (t16001.length : Int) := of_decide_eq_true (by assumption)
       obtain ⟨ad16005, e16005, hx16005_0, hx16005_1⟩ := at_T49 (Kd.R_reads' HO_22.out).2.2 x24_1 p16005 q16005
       cases e16005
       replace p16005 := eq_true p16005
       replace q16005 := eq_true q16005
       go_wp2_with (first | ((with_reducible refine gate_dst (N := 11) rfl ?_); refine box_event ?hg (N := 11) ?hd (cs := #[.int .i64 0, .int .i64 0]) (t := 49) ?hr ?_; (case hd => rfl); (case hg => rfl); (case hr => first | (go_simp; done) | (go_simp; rfl)); intro gb16006 hg w11 hbox hb; have n0_ := Aside0.mk (Kd.R_below (Kd.R_elderB (HO_22.out) gb16006 (Nat.le_of_eq hg.symm)) hb); have n1_ := Aside0.mk (below_step (by repeat (first | exact HB.out | apply below_alloc | apply pw_below_drewN | apply below_drew1)) hb); have n2_ := Aside0.mk (hbox); have n3_ := Aside0.mk ((by rw [hg]; exact (below_size (by repeat (first | exact HB.out | apply below_alloc | apply pw_below_drewN | apply below_drew1))) : w.heap.size ≤ gb16006)); have n4_ := Aside0.mk ((by rw [hg]; exact (below_size (by repeat (first | exact HB.out | apply below_alloc | apply pw_below_drewN | apply below_drew1))) : w.heap.size ≤ gb16006)); clear HO_22; clear HB; have HO_22 := n0_; have HB := n1_; have BK16006 := n2_; have GW16006 := n3_; have GE16006 := n4_; clear n0_ n1_ n2_ n3_ n4_; clear hb hbox hg; have hcz12_0 : w11.cell? ⟨gb16006, 0, none⟩ = some (.int .i64 0) := (blk_cell BK16006.out 0).trans rfl; have hcz12_1 : w11.cell? ⟨gb16006, 1, none⟩ = some (.int .i64 0) := (blk_cell BK16006.out 1).trans rfl; have hfz12_0 := blk_frozen BK16006.out 0; have hfz12_1 := blk_frozen BK16006.out 1))
       go_roundg k1
       case measure => have := HK1.out; omega
       case rel => exact ⟨(wrap64 (x0_1 - (wrap64 (((rd_T49 t16001 x24_1).f1) - ((rd_T49 t16001 x24_1).f0))))), (wrap64 (x24_1 + 1)), (by first | rfl | (simp; done) | (simp [*]; done)), (by first | rfl | (simp; done) | (simp [*]; done)), H', ⟨by have := HK1.out; omega⟩, ⟨by exact Kd.R_mono (Kd.R_far (p := ⟨gb16006, 1, none⟩) (Kd.R_far (p := ⟨gb16006, 0, none⟩) (Kd.R_mono HO_22.out (fun k_ hk => (⟨hk, hk.2⟩ : _ ∧ k_ ≠ gb16006))) (fun _ hk => hk.2) (.int .i64 ((rd_T49 t16001 x24_1).f0))) (fun _ hk => hk.2) (.int .i64 ((rd_T49 t16001 x24_1).f1))) (fun _ hk => trivial)⟩, ⟨by repeat (first | exact HB.out | apply below_alloc | apply pw_below_drewN | apply below_drew1 | refine below_set ?_ GE16006.out)⟩⟩
      ·rw [if_neg c10] at H
       exact absurd H (by simp)
     ·rw [if_neg c9] at H
      exact absurd H (by simp)
    ·rw [if_neg c8] at H
     have c8b0 : decide (x24_1 < (t16001.length : Int)) = false := decide_eq_false c8
     clear c8
     simp only [Option.some.injEq, Prod.mk.injEq] at H
     obtain ⟨rfl, rfl⟩ := H
     go_wp2
     go_ret2
     exact ⟨by first | rfl | (simp [errW_none, errW_some] <;> rfl) | (simp [*, errW_none, errW_some] <;> rfl), by repeat (first | exact HB.out | apply below_alloc | apply pw_below_drewN | apply below_drew1)⟩
 ·rw [if_neg c5] at H
  have c5b0 : (t16002 == 0) = false := beq_eq_false_iff_ne.mpr c5
  have c5b1 : (t16002 != 0) = true := bne_iff_ne.mpr c5
  simp only [Option.some.injEq, Prod.mk.injEq] at H
  obtain ⟨rfl, rfl⟩ := H
  go_enter Try.func15, Try.ntmps15
  go_wp2_with (first | ((with_reducible refine gate_callee (f := 13) rfl ?_); refine goesL_ (some 16) rfl rfl Try.func13 (by kernel_rfl) rfl #[.int .i64 a0, .slice A1 l1.length c1, .int .i64 a2] rfl (by (try simp only [List.map_toArray, List.map_cons, List.map_nil]); first | done | rfl | (simp only [List.length_drop, List.length_take]; rfl)) ?_; (with_reducible refine (splice_Keep.calls a0 _ _ l1 a2 t16001 t16002 _ ?side1 ?side2 A4.out).mono ?_); (case side1 => exact HR1.out); (case side2 => exact HC1.out); rintro e w13 ⟨v16003, rfl, ho0, hb⟩; refine ⟨_, rfl, ?_⟩; have n0_ := Aside0.mk (Kd.R_lower ho0 (below_size (by repeat (first | exact HB.out | apply below_alloc | apply pw_below_drewN | apply below_drew1)))); have n1_ := Aside0.mk (below_step (by repeat (first | exact HB.out | apply below_alloc | apply pw_below_drewN | apply below_drew1)) hb); clear HB; have HO16004 := n0_; have HB := n1_; clear n0_ n1_; (try clear hb); (try clear hb2); (try clear hk); (try clear hi); (try clear ho0)))
  go_ret2
  exact ⟨by first | rfl | (simp [errW_none, errW_some] <;> rfl) | (simp [*, errW_none, errW_some] <;> rfl), by repeat (first | exact HB.out | apply below_alloc | apply pw_below_drewN | apply below_drew1)⟩

end Go.Proofs.Ytjkakgkiikjdmaa.G

namespace Go.Proofs.Ytjkakgkiikjdmaa.G
open Go.RowKit Go.Proofs.YtjkakgkiikjdmaaW.PrintWords Go.Proofs.YtjkakgkiikjdmaaW.PrintLast Go.Proofs.YtjkakgkiikjdmaaW.PrintMore
set_option linter.unusedVariables false
set_option linter.unusedSimpArgs false
theorem swaste_l0 (l : List S49) (hl : l.length ≤ 256) (hv : ∀ s ∈ l, 0 ≤ s.f0 ∧ s.f0 ≤ s.f1 ∧ s.f1 ≤ 17179869184) : ∀ (d i : Nat) (x : Int), l.length - i = d → i ≤ l.length → 0 ≤ x → x - tot (l.drop i) ≥ 0 → x ≤ 17179869184 → 0 ≤ tot (l.drop i) → Ends (fun k => splice_Waste.l0 k x l (l.length : Int) (i : Int)) (x - tot (l.drop i), 0) := by
  intro d
  induction d with
  | zero =>
    intro i x hd hi h0 h1 h2 h3
    refine Ends.succ ?_
    simp only [splice_Waste.l0]
    rw [List.drop_of_length_le (by omega)]
    exact Ends.neg (by omega) ((Ends.ret _).congr (by simp [tot]))
  | succ d ih =>
    intro i x hd hi h0 h1 h2 h3
    refine Ends.succ ?_
    have hx := hv (rd_T49 l (i : Int)) (by rw [rd36 l i (by omega)]; exact List.getElem_mem _)
    rw [drop36 l i (by omega), tot_cons] at h1 h3 ⊢
    have h4 : 0 ≤ tot (l.drop (i + 1)) := by
      have hq : ∀ m : List S49, (∀ s ∈ m, s.f0 ≤ s.f1) → 0 ≤ tot m := by
        intro m
        induction m with
        | nil => intro _; simp [tot]
        | cons s m ihm => intro hm; rw [tot_cons]; have := hm s (by simp); have := ihm (fun t ht => hm t (by simp [ht])); omega
      exact hq _ (fun s hs => (hv s (List.mem_of_mem_drop hs)).2.1)
    simp only [splice_Waste.l0, wrap_nat i (by omega)]
    generalize rd_T49 l (i : Int) = s at *
    have hw : wrap64 (s.f1 - s.f0) = s.f1 - s.f0 := by unfold wrap64; omega
    have hw2 : wrap64 (x - (s.f1 - s.f0)) = x - (s.f1 - s.f0) := by unfold wrap64; omega
    rw [hw, hw2]
    exact Ends.pos (by omega) (Ends.pos (by omega) (Ends.pos (by omega) ((ih (i + 1) _ (by omega) (by omega) (by omega) (by omega) (by omega) h4).congr (by rw [Int.sub_sub]))))
theorem swaste_ends (n : Int) (bad : List S49) (least : Int) : Ends (fun k => splice_Waste.f k n bad least) (wasteOf n bad least) := by
  unfold splice_Waste.f wasteOf
  simp only [splice_Keep.f, Option.bind_some]
  by_cases h : (keepOf n bad least).2 = 0
  · obtain ⟨h1, h2, h3, h4⟩ := keep_split n bad least h
    rw [if_pos h]
    have ht := h4.tot_
    have hw := h1
    unfold wide at hw
    refine Ends.pos h (swaste_l0 _ h4.few (fun s hs => by have := h4.in_ s hs; omega) _ 0 n rfl (by omega) (by omega) ?_ (by omega) ?_)
    · simp only [List.drop_zero]; omega
    · simp only [List.drop_zero]; omega
  · rw [if_neg h]
    exact Ends.neg h (Ends.ret _)
end Go.Proofs.Ytjkakgkiikjdmaa.G

namespace Go.Proofs.Ytjkakgkiikjdmaa.G
open Go.RowKit Go.Proofs.YtjkakgkiikjdmaaW.PrintWords Go.Proofs.YtjkakgkiikjdmaaW.PrintLast Go.Proofs.YtjkakgkiikjdmaaW.PrintMore
set_option linter.unusedVariables false
set_option linter.unusedSimpArgs false
def inRoll (x size y : Int) : Bool := decide (x < y) && decide (y < x + size)
def cnt40 (p : List Int) (x size : Int) : Nat := p.countP (inRoll x size)
theorem cnt_split (x size : Int) (hs : 1 ≤ size) : ∀ p : List Int, p.Pairwise (· < ·) → ∃ j k, j ≤ k ∧ k ≤ p.length ∧ cnt40 p x size + j = k ∧ ∀ (i : Nat) (y : Int), p[i]? = some y → ((x < y ↔ j ≤ i) ∧ (y < x + size ↔ i < k))
  | [], _ => ⟨0, 0, Nat.le_refl _, Nat.le_refl _, rfl, fun i y h => by simp at h⟩
  | z :: q, h => by
    obtain ⟨h1, h2⟩ := List.pairwise_cons.mp h
    obtain ⟨j, k, hjk, hk, hc, hv⟩ := cnt_split x size hs q h2
    have hc2 : cnt40 (z :: q) x size = cnt40 q x size + (if inRoll x size z = true then 1 else 0) := by unfold cnt40; rw [List.countP_cons]
    by_cases hz : x < z
    · have hj : j = 0 := by
        cases q with
        | nil => simp at hk; omega
        | cons w q =>
          have h3 := h1 w (by simp)
          have h4 := (hv 0 w (by simp)).1.mp (by omega)
          omega
      by_cases hz2 : z < x + size
      · refine ⟨0, k + 1, by omega, by simp; omega, ?_, fun i y hi => ?_⟩
        · rw [hc2, if_pos (by unfold inRoll; simp; omega)]; omega
        · cases i with
          | zero => simp only [List.getElem?_cons_zero, Option.some.injEq] at hi; subst hi; omega
          | succ i =>
            rw [List.getElem?_cons_succ] at hi
            have h5 := hv i y hi
            have h6 := h1 y (List.mem_of_getElem? hi)
            omega
      · have hk0 : k = 0 := by
          cases q with
          | nil => simp at hk; omega
          | cons w q =>
            have h3 := h1 w (by simp)
            have h4 := (hv 0 w (by simp)).2
            have h5 : ¬ (0 < k) := fun h => by have := h4.mpr h; omega
            omega
        refine ⟨0, 0, by omega, by omega, ?_, fun i y hi => ?_⟩
        · rw [hc2, if_neg (by unfold inRoll; simp; omega)]; omega
        · cases i with
          | zero => simp only [List.getElem?_cons_zero, Option.some.injEq] at hi; subst hi; omega
          | succ i =>
            rw [List.getElem?_cons_succ] at hi
            have h6 := h1 y (List.mem_of_getElem? hi)
            omega
    · refine ⟨j + 1, k + 1, by omega, by simp; omega, ?_, fun i y hi => ?_⟩
      · rw [hc2, if_neg (by unfold inRoll; simp; omega)]; omega
      · cases i with
        | zero => simp only [List.getElem?_cons_zero, Option.some.injEq] at hi; subst hi; omega
        | succ i =>
          rw [List.getElem?_cons_succ] at hi
          have h5 := hv i y hi
          omega
def badAt (p : List Int) (size : Int) (most i : Nat) : List S49 :=
  if max 0 (rd p (i : Int) - size + 1) < rd p ((i - most : Nat) : Int) then [⟨max 0 (rd p (i : Int) - size + 1), rd p ((i - most : Nat) : Int)⟩] else []
def badsGo (p : List Int) (size : Int) (most : Nat) : Nat → Nat → List S49
  | 0, _ => []
  | d + 1, i => badAt p size most i ++ badsGo p size most d (i + 1)
theorem badAt_len (p : List Int) (size : Int) (most i : Nat) : (badAt p size most i).length ≤ 1 := by unfold badAt; split <;> simp
theorem badsGo_len (p : List Int) (size : Int) (most : Nat) : ∀ d i, (badsGo p size most d i).length ≤ d
  | 0, _ => by simp [badsGo]
  | d + 1, i => by
    have h1 := badAt_len p size most i
    have h2 := badsGo_len p size most d (i + 1)
    rw [badsGo, List.length_append]
    omega
theorem mem_badsGo (p : List Int) (size : Int) (most : Nat) : ∀ (d i : Nat) (s : S49), s ∈ badsGo p size most d i → ∃ j, i ≤ j ∧ j < i + d ∧ s = ⟨max 0 (rd p (j : Int) - size + 1), rd p ((j - most : Nat) : Int)⟩ ∧ s.f0 < s.f1
  | 0, i, s, h => by simp [badsGo] at h
  | d + 1, i, s, h => by
    rw [badsGo] at h
    rcases List.mem_append.mp h with h | h
    · unfold badAt at h
      split at h
      · rw [List.mem_singleton.mp h]
        exact ⟨i, by omega, by omega, rfl, by assumption⟩
      · simp at h
    · obtain ⟨j, h1, h2, h3⟩ := mem_badsGo p size most d (i + 1) s h
      exact ⟨j, by omega, by omega, h3⟩
theorem bads_mem (p : List Int) (size : Int) (most : Nat) (x : Int) : ∀ (d i : Nat), Mem (badsGo p size most d i) x ↔ ∃ j, i ≤ j ∧ j < i + d ∧ max 0 (rd p (j : Int) - size + 1) ≤ x ∧ x < rd p ((j - most : Nat) : Int)
  | 0, i => by
    constructor
    · rintro ⟨s, hs, _⟩; simp [badsGo] at hs
    · rintro ⟨j, h1, h2, _⟩; omega
  | d + 1, i => by
    have ih := bads_mem p size most x d (i + 1)
    have e : Mem (badsGo p size most (d + 1) i) x ↔ Mem (badAt p size most i) x ∨ Mem (badsGo p size most d (i + 1)) x := by
      unfold Mem
      rw [badsGo]
      constructor
      · rintro ⟨s, hs, h⟩
        rcases List.mem_append.mp hs with hs | hs
        · exact .inl ⟨s, hs, h⟩
        · exact .inr ⟨s, hs, h⟩
      · rintro (⟨s, hs, h⟩ | ⟨s, hs, h⟩)
        · exact ⟨s, by simp [hs], h⟩
        · exact ⟨s, by simp [hs], h⟩
    rw [e, ih]
    constructor
    · rintro (⟨s, hs, h1, h2⟩ | ⟨j, h1, h2, h3⟩)
      · unfold badAt at hs
        split at hs
        · rw [List.mem_singleton] at hs
          subst hs
          exact ⟨i, by omega, by omega, h1, h2⟩
        · simp at hs
      · exact ⟨j, by omega, by omega, h3⟩
    · rintro ⟨j, h1, h2, h3, h4⟩
      rcases Nat.eq_or_lt_of_le h1 with rfl | h5
      · left
        unfold badAt
        rw [if_pos (by omega)]
        exact ⟨_, List.mem_singleton.mpr rfl, h3, h4⟩
      · exact .inr ⟨j, by omega, by omega, h3, h4⟩
theorem bads_cnt (p : List Int) (size : Int) (hs : 1 ≤ size) (most : Nat) (hp : p.Pairwise (· < ·)) (x : Int) (hx : 0 ≤ x) : Mem (badsGo p size most (p.length - most) most) x ↔ most < cnt40 p x size := by
  rw [bads_mem]
  obtain ⟨j, k, hjk, hk, hc, hv⟩ := cnt_split x size hs p hp
  constructor
  · rintro ⟨i, h1, h2, h3, h4⟩
    have hi : i < p.length := by omega
    have e1 := hv i p[i] (List.getElem?_eq_getElem hi)
    have e2 := hv (i - most) (p[i - most]'(by omega)) (List.getElem?_eq_getElem (by omega))
    rw [rdI p i hi] at h3
    rw [rdI p (i - most) (by omega)] at h4
    have h5 := e1.2.mp (by omega)
    have h6 := e2.1.mp h4
    omega
  · intro h
    have hi : k - 1 < p.length := by omega
    have e1 := hv (k - 1) p[k - 1] (List.getElem?_eq_getElem hi)
    have e2 := hv (k - 1 - most) (p[k - 1 - most]'(by omega)) (List.getElem?_eq_getElem (by omega))
    refine ⟨k - 1, by omega, by omega, ?_, ?_⟩
    · rw [rdI p (k - 1) hi]
      have := e1.2.mpr (by omega)
      omega
    · rw [rdI p (k - 1 - most) (by omega)]
      exact e2.1.mpr (by omega)
theorem plcGo_up : ∀ (l : List S56) (a : Int), (∀ r ∈ l, 1 ≤ r.f1) → (plcGo a l).Pairwise (· < ·) ∧ ∀ y ∈ plcGo a l, a ≤ y ∧ y < a + tot13 l
  | [], a, _ => ⟨List.Pairwise.nil, fun y h => by simp [plcGo] at h⟩
  | r :: l, a, h => by
    have h1 := h r (by simp)
    obtain ⟨h2, h3⟩ := plcGo_up l (a + r.f1) (fun t ht => h t (by simp [ht]))
    have h4 : ∀ y ∈ plcGo (a + r.f1) l, 0 ≤ tot13 l := fun y hy => by have := h3 y hy; omega
    have h0 : 0 ≤ tot13 l := by
      clear h2 h3 h4
      induction l with
      | nil => simp [tot13]
      | cons t l ih => have := h t (by simp); rw [tot13_cons]; have := ih (fun q hq => h q (by simp at hq ⊢; rcases hq with hq | hq <;> simp [hq])); omega
    refine ⟨List.pairwise_cons.mpr ⟨fun y hy => by have := h3 y hy; omega, h2⟩, fun y hy => ?_⟩
    rw [plcGo] at hy
    rw [tot13_cons]
    rcases List.mem_cons.mp hy with rfl | hy
    · omega
    · have := h3 y hy; omega
theorem places_up {l : List S56} (h : ∀ r ∈ l, 1 ≤ r.f1) : (places l).Pairwise (· < ·) ∧ ∀ y ∈ places l, 0 ≤ y ∧ y < tot13 l := by
  obtain ⟨h1, h2⟩ := plcGo_up l 0 h
  unfold places
  exact ⟨h1.sublist (List.drop_sublist _ _), fun y hy => by have := h2 y ((List.drop_sublist _ _).subset hy); omega⟩
def badsOf (p : List Int) (size : Int) (most : Nat) : List S49 := badsGo p size most (p.length - most) most
def allowL (p : List Int) (length size most : Int) : List S49 := combOf [⟨0, length - size + 1⟩] (badsOf p size most.toNat) 2
def allowOf (m : List S56) (size most : Int) : List S49 × Int :=
  if check13 m = 0 then (if size < 1 ∨ size > 17179869184 ∨ most < 0 ∨ most > 8 then ([], 1) else if tot13 m < size then ([], 0) else (allowL (places (nrm (sem m))) (tot13 m) size most, 0)) else ([], check13 m)
def nextStep (x size n y : Int) : Int := if y - size + 1 > x then min (if y > x then min n y else n) (y - size + 1) else (if y > x then min n y else n)
def nextOf (p : List Int) (x size n : Int) : Int := p.foldl (nextStep x size) n
theorem nextOf_ok (x size : Int) : ∀ (p : List Int) (n : Int), x < n → x < nextOf p x size n ∧ nextOf p x size n ≤ n ∧ ∀ y ∈ p, (y > x → nextOf p x size n ≤ y) ∧ (y - size + 1 > x → nextOf p x size n ≤ y - size + 1)
  | [], n, h => ⟨h, Int.le_refl _, fun y hy => by simp at hy⟩
  | z :: p, n, h => by
    have e : nextOf (z :: p) x size n = nextOf p x size (nextStep x size n z) := rfl
    have h1 : x < nextStep x size n z ∧ nextStep x size n z ≤ n ∧ (z > x → nextStep x size n z ≤ z) ∧ (z - size + 1 > x → nextStep x size n z ≤ z - size + 1) := by
      unfold nextStep
      split <;> split <;> omega
    obtain ⟨h2, h3, h4⟩ := nextOf_ok x size p (nextStep x size n z) h1.1
    rw [e]
    refine ⟨h2, by omega, fun y hy => ?_⟩
    rcases List.mem_cons.mp hy with rfl | hy
    · omega
    · exact h4 y hy
theorem next_same (p : List Int) (x size n z : Int) (h : x < n) (h1 : x ≤ z) (h2 : z < nextOf p x size n) : cnt40 p z size = cnt40 p x size := by
  obtain ⟨_, _, h3⟩ := nextOf_ok x size p n h
  unfold cnt40
  refine List.countP_congr (fun y hy => ?_)
  have := h3 y hy
  unfold inRoll
  simp only [Bool.and_eq_true, decide_eq_true_eq]
  omega
structure Swept (p : List Int) (size most L : Int) (out : List S49) (x : Int) (F : List S49) : Prop where
  sep_ : sep (-1) F
  mem_ : ∀ z, Mem F z ↔ Mem out z ∨ (x ≤ z ∧ z < L ∧ (cnt40 p z size : Int) ≤ most)
theorem Swept.here {p : List Int} {size most L x : Int} {out : List S49} (h : sep (-1) out) (hx : L ≤ x) : Swept p size most L out x out :=
  ⟨h, fun z => ⟨.inl, fun hz => by rcases hz with hz | hz; (· exact hz); omega⟩⟩
theorem Swept.step {p : List Int} {size most L x : Int} {out F : List S49} (hx : x < L) (h0 : 0 ≤ x) (h : sep (-1) out) (ht : ∀ t ∈ out, t.f1 ≤ x) (hc : (cnt40 p x size : Int) ≤ most)
    (hf : Swept p size most L (push out x (nextOf p x size L)) (nextOf p x size L) F) : Swept p size most L out x F := by
  obtain ⟨h1, h2, h3⟩ := nextOf_ok x size p L hx
  refine ⟨hf.sep_, fun z => ?_⟩
  rw [hf.mem_, (push_ok h ht (by omega) h1).2.2]
  constructor
  · rintro ((h4 | h4) | h4)
    · exact .inl h4
    · exact .inr ⟨by omega, by omega, by rw [next_same p x size L z hx (by omega) (by omega)]; exact hc⟩
    · exact .inr ⟨by omega, h4.2⟩
  · rintro (h4 | h4)
    · exact .inl (.inl h4)
    · by_cases hz : z < nextOf p x size L
      · exact .inl (.inr ⟨by omega, hz⟩)
      · exact .inr ⟨by omega, h4.2⟩
theorem Swept.skip {p : List Int} {size most L x : Int} {out F : List S49} (hx : x < L) (hc : ¬ (cnt40 p x size : Int) ≤ most)
    (hf : Swept p size most L out (nextOf p x size L) F) : Swept p size most L out x F := by
  obtain ⟨h1, h2, h3⟩ := nextOf_ok x size p L hx
  refine ⟨hf.sep_, fun z => ?_⟩
  rw [hf.mem_]
  constructor
  · rintro (h4 | h4)
    · exact .inl h4
    · exact .inr ⟨by omega, h4.2⟩
  · rintro (h4 | h4)
    · exact .inl h4
    · by_cases hz : z < nextOf p x size L
      · exact absurd h4.2.2 (by rw [next_same p x size L z hx (by omega) (by omega)]; exact hc)
      · exact .inr ⟨by omega, h4.2⟩
theorem allowL_ok (p : List Int) (length size most : Int) (hp : p.Pairwise (· < ·)) (hs : 1 ≤ size) (hm : 0 ≤ most) (hl : size ≤ length) (hv : ∀ y ∈ p, 0 ≤ y ∧ y ≤ 17179869184) : sep (-1) (allowL p length size most) ∧ ∀ z, Mem (allowL p length size most) z ↔ 0 ≤ z ∧ z < length - size + 1 ∧ (cnt40 p z size : Int) ≤ most := by
  obtain ⟨h1, h2⟩ := comb_ok [⟨0, length - size + 1⟩] (badsOf p size most.toNat) 2 (by omega) (-1) (fun s hs => by
    rcases hs with hs | hs
    · rw [List.mem_singleton.mp hs]; dsimp only; omega
    · obtain ⟨j, _, _, e, h⟩ := mem_badsGo _ _ _ _ _ _ hs
      rw [e] at h ⊢
      dsimp only at h ⊢
      omega)
  refine ⟨h1, fun z => ?_⟩
  rw [show allowL p length size most = combOf [⟨0, length - size + 1⟩] (badsOf p size most.toNat) 2 from rfl, h2]
  have e1 : Mem [(⟨0, length - size + 1⟩ : S49)] z ↔ 0 ≤ z ∧ z < length - size + 1 := by
    unfold Mem
    simp
  have e2 : keeps 2 [⟨0, length - size + 1⟩] (badsOf p size most.toNat) z ↔ ((0 ≤ z ∧ z < length - size + 1) ∧ ¬ Mem (badsOf p size most.toNat) z) := by
    rw [← e1, ← hasOf_iff, ← hasOf_iff]
    unfold keeps skips
    cases hasOf [⟨0, length - size + 1⟩] z <;> cases hasOf (badsOf p size most.toNat) z <;> simp
  rw [e2]
  constructor
  · rintro ⟨⟨h3, h4⟩, h5⟩
    refine ⟨h3, h4, ?_⟩
    rw [show badsOf p size most.toNat = badsGo p size most.toNat (p.length - most.toNat) most.toNat from rfl, bads_cnt p size hs _ hp z h3] at h5
    omega
  · rintro ⟨h3, h4, h5⟩
    refine ⟨⟨h3, h4⟩, ?_⟩
    rw [show badsOf p size most.toNat = badsGo p size most.toNat (p.length - most.toNat) most.toNat from rfl, bads_cnt p size hs _ hp z h3]
    omega
end Go.Proofs.Ytjkakgkiikjdmaa.G

namespace Go.Proofs.Ytjkakgkiikjdmaa.G
open Go.RowKit Go.Proofs.YtjkakgkiikjdmaaW.PrintWords Go.Proofs.YtjkakgkiikjdmaaW.PrintLast Go.Proofs.YtjkakgkiikjdmaaW.PrintMore
attribute [local go_sem] max2_int min2_int max_two min_two max_three min_three max_four min_four   -- for this text's walks alone
set_option linter.unusedVariables false
set_option linter.unusedSimpArgs false

def splice_Runs.l0 : Nat → List (S56) → List (S49) → Int → Int → Option ((List (S56)) × Int)
 | 0, _, _, _, _ => none
 | k + 1, x6, x21, x22, x23 => if x23 < x22 then (if 0 ≤ x23 then (if x23 < (x21.length : Int) then (if x6.length < 5864062014805 then (splice_Runs.l0 k (x6 ++ [(⟨(rd_T49 x21 x23).f0, wrap64 (((rd_T49 x21 x23).f1) - ((rd_T49 x21 x23).f0)), false⟩ : S56)]) x21 x22 (wrap64 (x23 + 1))) else (none)) else (none)) else (none)) else ((iso_Norm.f x6).bind fun bt19011 => (some (bt19011.1, bt19011.2)))
def splice_Runs.f (k : Nat) (l0 : List (S49)) : Option ((List (S56)) × Int) := (span_Norm.f k l0).bind fun bt19001 => (if bt19001.2 = 0 then ((slices_Equal_api_Span_api_Span.f k bt19001.1 l0).bind fun t19005 => (if t19005 = true then (splice_Runs.l0 k ([] : List (S56)) l0 (l0.length : Int) 0) else (some (([] : List (S56)), 9)))) else (some (([] : List (S56)), bt19001.2)))
theorem splice_Runs.mono_l : ∀ k, (∀ y0 y1 y2 y3, LeO (splice_Runs.l0 k y0 y1 y2 y3) (splice_Runs.l0 (k + 1) y0 y1 y2 y3))
 | 0 => fun _ _ _ _ r h => by simp [splice_Runs.l0] at h
 | k + 1 => by
  have ih0 := splice_Runs.mono_l k
  ·intro y0 y1 y2 y3
   unfold splice_Runs.l0
   repeat' first
   | (with_reducible exact ih0 _ _ _ _)
   | (with_reducible exact slices_Equal_api_Span_api_Span.mono _ _ _)
   | (with_reducible exact span_Norm.mono _ _)
   | (with_reducible exact LeO.refl _)
   | (with_reducible exact LeO.none _)
   | (with_reducible refine LeO.ite ?_ ?_)
   | (with_reducible refine LeO.bind ?_ (fun _ => ?_))
   | exact ih0 _ _ _ _
   | exact slices_Equal_api_Span_api_Span.mono _ _ _
   | exact span_Norm.mono _ _
   | exact LeO.none _
   | refine LeO.ite ?_ ?_
   | refine LeO.bind ?_ (fun _ => ?_)
theorem splice_Runs.mono : ∀ a0 k, LeO (splice_Runs.f k a0) (splice_Runs.f (k + 1) a0) := by
 intro a0 k
 have ih0 := splice_Runs.mono_l k
 unfold splice_Runs.f
 repeat' first
   | (with_reducible exact ih0 _ _ _ _)
   | (with_reducible exact slices_Equal_api_Span_api_Span.mono _ _ _)
   | (with_reducible exact span_Norm.mono _ _)
   | (with_reducible exact LeO.refl _)
   | (with_reducible exact LeO.none _)
   | (with_reducible refine LeO.ite ?_ ?_)
   | (with_reducible refine LeO.bind ?_ (fun _ => ?_))
   | exact ih0 _ _ _ _
   | exact slices_Equal_api_Span_api_Span.mono _ _ _
   | exact span_Norm.mono _ _
   | exact LeO.none _
   | refine LeO.ite ?_ ?_
   | refine LeO.bind ?_ (fun _ => ?_)
set_option maxHeartbeats 8000000 in
set_option maxRecDepth 100000 in
theorem splice_Runs.calls (k : Nat) (A0 : Option Addr) (c0 : Nat) (l0 : List (S49)) (r1 : List (S56)) (r2 : Int) (w : World) (hr0 : Kd.C k49 w A0 l0.length l0) (hc0 : l0.length ≤ c0) (h : splice_Runs.f k l0 = some (r1, r2)) :
  Calls Try.prog 18 #[.slice A0 l0.length c0] w fun e w' => ∃ v0_ : Value, e = .returned (.tuple #[v0_, .int .i64 r2]) ∧ Kd.R k56 56 w' w.heap.size (fun _ => True) v0_ r1 ∧ Below w.heap.size w w' := by
 have hu49 := Try.underlying49
 have hu56 := Try.underlying56
 have HR0 := Aside0.mk hr0
 have HC0 := Aside0.mk hc0
 clear hr0 hc0
 have HB := Aside0.mk (Below.refl w.heap.size w)
 have H : ((span_Norm.f k l0).bind fun bt19001 => (if bt19001.2 = 0 then ((slices_Equal_api_Span_api_Span.f k bt19001.1 l0).bind fun t19005 => (if t19005 = true then (splice_Runs.l0 k ([] : List (S56)) l0 (l0.length : Int) 0) else (some (([] : List (S56)), 9)))) else (some (([] : List (S56)), bt19001.2)))) = some (r1, r2) := h
 clear h
 replace H := Option.bind_eq_some_iff.mp H
 obtain ⟨⟨t19001, t19002⟩, A20, H⟩ := H
 replace H : (if t19002 = 0 then ((slices_Equal_api_Span_api_Span.f k t19001 l0).bind fun t19005 => (if t19005 = true then (splice_Runs.l0 k ([] : List (S56)) l0 (l0.length : Int) 0) else (some (([] : List (S56)), 9)))) else (some (([] : List (S56)), t19002))) = some (r1, r2) := H
 have A2 := Aside0.mk A20
 clear A20
 by_cases c3 : t19002 = 0
 ·rw [if_pos c3] at H
  have c3b0 : (t19002 == 0) = true := beq_iff_eq.mpr c3
  have c3b1 : (t19002 != 0) = false := bne_eq_false_iff_eq.mpr c3
  clear c3
  replace H := Option.bind_eq_some_iff.mp H
  obtain ⟨t19005, A40, H⟩ := H
  replace H : (if t19005 = true then (splice_Runs.l0 k ([] : List (S56)) l0 (l0.length : Int) 0) else (some (([] : List (S56)), 9))) = some (r1, r2) := H
  have A4 := Aside0.mk A40
  clear A40
  by_cases c5 : t19005 = true
  ·subst c5
   have H1 : (splice_Runs.l0 k ([] : List (S56)) l0 (l0.length : Int) 0) = some (r1, r2) := by rw [if_pos rfl] at H; exact H
   clear H
   have H := H1
   clear H1
   have H' := Aside0.mk H
   clear H
   go_enter Try.func18, Try.ntmps18
   go_wp2_with (first | ((with_reducible refine gate_callee (f := 36) rfl ?_); refine goesL_ (some 11) rfl rfl Try.func36 (by kernel_rfl) rfl #[.slice A0 l0.length c0] rfl (by (try simp only [List.map_toArray, List.map_cons, List.map_nil]); first | done | rfl | (simp only [List.length_drop, List.length_take]; rfl)) ?_; (with_reducible refine (span_Norm.calls k _ _ l0 t19001 t19002 _ ?side1 ?side2 A2.out).mono ?_); (case side1 => exact HR0.out); (case side2 => exact HC0.out); rintro e w6 ⟨v19003, rfl, ho0, hb⟩; refine ⟨_, rfl, ?_⟩; have n0_ := Aside0.mk (Kd.R_lower ho0 (below_size (by repeat (first | exact HB.out | apply below_alloc | apply pw_below_drewN | apply below_drew1)))); have n1_ := Aside0.mk (below_step (by repeat (first | exact HB.out | apply below_alloc | apply pw_below_drewN | apply below_drew1)) hb); clear HB; have HO19004 := n0_; have HB := n1_; clear n0_ n1_; (try clear hb); (try clear hb2); (try clear hk); (try clear hi); (try clear ho0); obtain ⟨Ao7, co7, eo7⟩ := Kd.R_slice HO19004.out; subst eo7) | ((with_reducible refine gate_callee (f := 40) rfl ?_); refine goesL_ (some 19) rfl rfl Try.func40 (by kernel_rfl) rfl #[.slice Ao7 t19001.length co7, .slice A0 l0.length c0] rfl (by (try simp only [List.map_toArray, List.map_cons, List.map_nil]); first | done | rfl | (simp only [List.length_drop, List.length_take]; rfl)) ?_; (with_reducible refine (slices_Equal_api_Span_api_Span.calls k _ _ t19001 _ _ l0 true _ ?side1 ?side2 ?side3 ?side4 A4.out).mono ?_); (case side1 => exact (Kd.R_reads' HO19004.out).2.2); (case side2 => exact (Kd.R_reads' HO19004.out).2.1); (case side3 => exact (Kd.C_below HR0.out HB.out)); (case side4 => exact HC0.out); rintro e w' ⟨rfl, ⟨nd, rfl⟩⟩; refine ⟨_, rfl, ?_⟩))
   go_loopg [6, 23] k (fun kq v6 v23 w' => ∃ (x6_1 : List (S56)) (x23_1 : Int), v23 = .int .i64 x23_1 ∧ Aside0 (splice_Runs.l0 kq x6_1 l0 (l0.length : Int) x23_1 = some (r1, r2)) ∧ Aside0 (kq ≤ k) ∧ Aside0 (Kd.R k56 56 w' w.heap.size (fun _ => True) v6 x6_1) ∧ Aside0 (Below w.heap.size w w'))
   case atStart => exact ⟨(([] : List (S56))), (0), (by first | rfl | (simp; done) | (simp [*]; done)), H', ⟨Nat.le_refl _⟩, ⟨by first | exact Kd.R_nil _ _ _ _ _ | exact Kd.N_nil _ _ _ _ _ | exact Kd.V_nil _ _ _ _ _ | exact Kd.Q_nil _ _ _ _ _ | exact Kd.S_nil _ _ _ _ _⟩, ⟨by repeat (first | exact HB.out | apply below_alloc | apply pw_below_drewN | apply below_drew1)⟩⟩
   case round =>
    clear H'
    try clear c1
    try clear p2
    try clear c3
    try clear c3b0
    try clear c3b1
    try clear c4
    try clear c5
    obtain ⟨x6_1, x23_1, rfl, HA, HK1, HO_6, HB⟩ := hrel
    cases gk with
    | zero => exact absurd HA.out (by simp [splice_Runs.l0])
    | succ k1 =>
     have H := HA.out
     clear HA
     simp only [splice_Runs.l0] at H
     by_cases c8 : x23_1 < (l0.length : Int)
     ·rw [if_pos c8] at H
      have c8b0 : decide (x23_1 < (l0.length : Int)) = true := decide_eq_true c8
      clear c8
      by_cases c9 : 0 ≤ x23_1
      ·rw [if_pos c9] at H
       have c9b0 : decide (0 ≤ x23_1) = true := decide_eq_true c9
       clear c9
       by_cases c10 : x23_1 < (l0.length : Int)
       ·rw [if_pos c10] at H
        have c10b0 : decide (x23_1 < (l0.length : Int)) = true := decide_eq_true c10
        clear c10
        by_cases c11 : x6_1.length < 5864062014805
        ·rw [if_pos c11] at H
         have LMc11 := Aside0.mk c11
         clear c11
         obtain ⟨y19008, hy19008⟩ : ∃ y_ : List (S56), y_ = (x6_1 ++ [(⟨(rd_T49 l0 x23_1).f0, wrap64 (((rd_T49 l0 x23_1).f1) - ((rd_T49 l0 x23_1).f0)), false⟩ : S56)]) := ⟨_, rfl⟩
         replace H : (splice_Runs.l0 k1 y19008 l0 (l0.length : Int) (wrap64 (x23_1 + 1))) = some (r1, r2) := by first | (rw [hy19008]; with_reducible exact H) | (have H2_ := (Option.bind_some _ _).symm.trans H; rw [hy19008]; with_reducible exact H2_) | (have H2_ := (Option.bind_some _ _).symm.trans H; with_reducible exact H2_) | with_reducible exact H | (rw [hy19008]; exact H) | exact H
         have Ny19008 := Aside0.mk hy19008
         clear hy19008
         have H' := Aside0.mk H
         clear H
         have p19006 : 0 ≤ (x23_1 : Int) := of_decide_eq_true (by assumption)
         have q19006 : x23_1 < (l0.length : Int) := of_decide_eq_true (by assumption)
         obtain ⟨ad19006, e19006, hx19006_0, hx19006_1⟩ := at_T49 HR0.out x23_1 p19006 q19006
         cases e19006
         replace hx19006_0 := (HB.out.cell (World.block_lt_of_cell? w _ hx19006_0)).trans hx19006_0
         replace hx19006_1 := (HB.out.cell (World.block_lt_of_cell? w _ hx19006_1)).trans hx19006_1
         replace p19006 := eq_true p19006
         replace q19006 := eq_true q19006
         go_wp2_with (first | ((with_reducible refine gate_dst (N := 8) rfl ?_); refine box_event ?hg (N := 8) ?hd (cs := #[.int .i64 0, .int .i64 0]) (t := 49) ?hr ?_; (case hd => rfl); (case hg => rfl); (case hr => first | (go_simp; done) | (go_simp; rfl)); intro gb19007 hg w12 hbox hb; have n0_ := Aside0.mk (Kd.R_below (HO_6.out) hb); have n1_ := Aside0.mk (below_step (by repeat (first | exact HB.out | apply below_alloc | apply pw_below_drewN | apply below_drew1)) hb); have n2_ := Aside0.mk (hbox); have n3_ := Aside0.mk ((by rw [hg]; exact (below_size (by repeat (first | exact HB.out | apply below_alloc | apply pw_below_drewN | apply below_drew1))) : w.heap.size ≤ gb19007)); have n4_ := Aside0.mk ((by rw [hg]; exact (below_size (by repeat (first | exact HB.out | apply below_alloc | apply pw_below_drewN | apply below_drew1))) : w.heap.size ≤ gb19007)); clear HO_6; clear HB; have HO_6 := n0_; have HB := n1_; have BK19007 := n2_; have GW19007 := n3_; have GE19007 := n4_; clear n0_ n1_ n2_ n3_ n4_; clear hb hbox hg; have hcz13_0 : w12.cell? ⟨gb19007, 0, none⟩ = some (.int .i64 0) := (blk_cell BK19007.out 0).trans rfl; have hcz13_1 : w12.cell? ⟨gb19007, 1, none⟩ = some (.int .i64 0) := (blk_cell BK19007.out 1).trans rfl; have hfz13_0 := blk_frozen BK19007.out 0; have hfz13_1 := blk_frozen BK19007.out 1) | ((with_reducible refine gate_builtin (b := .append) (xs := #[.tmp 27, .tmp 36]) rfl ?_); at_builtin; refine Kd.R_append k56 (w0 := w) w.heap.size rfl (.tmp 27) (.tmp 36) 32 56 (.agg #[(.int .i64 0), (.int .i64 0), (.bool false)]) 24 rfl Try.underlying32 info56 rfl (by decide) (by omega) u6 x6_1 (⟨(rd_T49 l0 x23_1).f0, wrap64 (((rd_T49 l0 x23_1).f1) - ((rd_T49 l0 x23_1).f0)), false⟩ : S56) [.int .i64 ((rd_T49 l0 x23_1).f0), .int .i64 (wrap64 (((rd_T49 l0 x23_1).f1) - ((rd_T49 l0 x23_1).f0))), .bool false] (fun _ => True) (fun _ => False) rfl (by first | (go_simp; done) | (go_simp; rfl)) ?aP (fun _ hk => hk.elim) ?aF ?aO ?aB ?aS ?aL ?_; (case aP => exact k56_mkM _ _ _ (⟨(rd_T49 l0 x23_1).f0, wrap64 (((rd_T49 l0 x23_1).f1) - ((rd_T49 l0 x23_1).f0)), false⟩ : S56)); (case aB => exact (by repeat (first | exact HB.out | apply below_alloc | apply pw_below_drewN | apply below_drew1 | refine below_set ?_ GE19007.out))); (case aF => exact (fun _ _ => trivial)); (case aO => exact (by exact Kd.R_mono (Kd.R_far (p := ⟨gb19007, 1, none⟩) (Kd.R_far (p := ⟨gb19007, 0, none⟩) (Kd.R_types HO_6.out BK19007.out (by decide)) (fun _ hk => hk.2) (.int .i64 ((rd_T49 l0 x23_1).f0))) (fun _ hk => hk.2) (.int .i64 ((rd_T49 l0 x23_1).f1))) (fun _ hk => trivial))); (case aS => exact (below_size (by repeat (first | exact HB.out | apply below_alloc | apply pw_below_drewN | apply below_drew1 | refine below_set ?_ GE19007.out)))); (case aL => have := LMc11.out; omega); intro v19009 w14 ho hb hg hat; rw [← Ny19008.out] at ho; have n0_ := Aside0.mk (blk_grown (g := gb19007) (o := .cells #[.int .i64 ((rd_T49 l0 x23_1).f0), .int .i64 ((rd_T49 l0 x23_1).f1)] 49 (0, 0)) (by refine blk_put (cs := #[.int .i64 ((rd_T49 l0 x23_1).f0), .int .i64 0]) ?_ 1 _ rfl; refine blk_put (cs := #[.int .i64 0, .int .i64 0]) ?_ 0 _ rfl; exact BK19007.out) hg (Kd.R_ne HO_6.out BK19007.out (by decide))); have n1_ := Aside0.mk (hb); have n2_ := Aside0.mk (ho); clear BK19007; clear HB; clear HO_6; have BK19007 := n0_; have HB := n1_; have HO19010 := n2_; clear n0_ n1_ n2_; clear ho hb hg hat))
         go_roundg k1
         case measure => have := HK1.out; omega
         case rel => exact ⟨(y19008), (wrap64 (x23_1 + 1)), (by first | rfl | (simp; done) | (simp [*]; done)), H', ⟨by have := HK1.out; omega⟩, ⟨HO19010.out⟩, ⟨by repeat (first | exact HB.out | apply below_alloc | apply pw_below_drewN | apply below_drew1 | refine below_set ?_ GE19007.out)⟩⟩
        ·rw [if_neg c11] at H
         exact absurd H (by simp)
       ·rw [if_neg c10] at H
        exact absurd H (by simp)
      ·rw [if_neg c9] at H
       exact absurd H (by simp)
     ·rw [if_neg c8] at H
      have c8b0 : decide (x23_1 < (l0.length : Int)) = false := decide_eq_false c8
      clear c8
      replace H := Option.bind_eq_some_iff.mp H
      obtain ⟨⟨t19011, t19012⟩, A150, H⟩ := H
      replace H : (some (t19011, t19012)) = some (r1, r2) := H
      have A15 := Aside0.mk A150
      clear A150
      simp only [Option.some.injEq, Prod.mk.injEq] at H
      obtain ⟨rfl, rfl⟩ := H
      obtain ⟨Ao16, co16, eo16⟩ := Kd.R_slice HO_6.out
      subst eo16
      go_wp2_with (first | ((with_reducible refine gate_callee (f := 41) rfl ?_); refine goesL_ (some 40) rfl rfl Try.func41 (by kernel_rfl) rfl #[.slice Ao16 x6_1.length co16] rfl (by (try simp only [List.map_toArray, List.map_cons, List.map_nil]); first | done | rfl | (simp only [List.length_drop, List.length_take]; rfl)) ?_; (with_reducible refine (iso_Norm.calls _ _ x6_1 t19011 t19012 _ ?side1 ?side2 A15.out).mono ?_); (case side1 => exact (Kd.R_reads' HO_6.out).2.2); (case side2 => exact (Kd.R_reads' HO_6.out).2.1); rintro e w17 ⟨v19013, rfl, ho0, hb⟩; refine ⟨_, rfl, ?_⟩; have n0_ := Aside0.mk (Kd.R_elder' (HO_6.out) (Kd.R_base ho0) hb); have n1_ := Aside0.mk (Kd.R_lower (Kd.R_new' ho0 (Kd.R_lt (HO_6.out))) (below_size (by repeat (first | exact HB.out | apply below_alloc | apply pw_below_drewN | apply below_drew1)))); have n2_ := Aside0.mk (below_step (by repeat (first | exact HB.out | apply below_alloc | apply pw_below_drewN | apply below_drew1)) hb); clear HO_6; clear HB; have HO_6 := n0_; have HO19014 := n1_; have HB := n2_; clear n0_ n1_ n2_; (try clear hb); (try clear hb2); (try clear hk); (try clear hi); (try clear ho0)))
      go_ret2
      exact ⟨_, by first | rfl | (simp [errW_none, errW_some] <;> rfl) | (simp [*, errW_none, errW_some] <;> rfl), by exact Kd.R_mono HO19014.out (fun _ hk => trivial), by repeat (first | exact HB.out | apply below_alloc | apply pw_below_drewN | apply below_drew1)⟩
  ·replace c5 := Bool.eq_false_iff.mpr c5
   subst c5
   have H1 : (some (([] : List (S56)), 9)) = some (r1, r2) := by rw [if_neg (show ¬ (false = true) by decide)] at H; first | exact H | simpa using H
   clear H
   have H := H1
   clear H1
   simp only [Option.some.injEq, Prod.mk.injEq] at H
   obtain ⟨rfl, rfl⟩ := H
   go_enter Try.func18, Try.ntmps18
   go_wp2_with (first | ((with_reducible refine gate_callee (f := 36) rfl ?_); refine goesL_ (some 11) rfl rfl Try.func36 (by kernel_rfl) rfl #[.slice A0 l0.length c0] rfl (by (try simp only [List.map_toArray, List.map_cons, List.map_nil]); first | done | rfl | (simp only [List.length_drop, List.length_take]; rfl)) ?_; (with_reducible refine (span_Norm.calls k _ _ l0 t19001 t19002 _ ?side1 ?side2 A2.out).mono ?_); (case side1 => exact HR0.out); (case side2 => exact HC0.out); rintro e w18 ⟨v19003, rfl, ho0, hb⟩; refine ⟨_, rfl, ?_⟩; have n0_ := Aside0.mk (Kd.R_lower ho0 (below_size (by repeat (first | exact HB.out | apply below_alloc | apply pw_below_drewN | apply below_drew1)))); have n1_ := Aside0.mk (below_step (by repeat (first | exact HB.out | apply below_alloc | apply pw_below_drewN | apply below_drew1)) hb); clear HB; have HO19004 := n0_; have HB := n1_; clear n0_ n1_; (try clear hb); (try clear hb2); (try clear hk); (try clear hi); (try clear ho0); obtain ⟨Ao19, co19, eo19⟩ := Kd.R_slice HO19004.out; subst eo19) | ((with_reducible refine gate_callee (f := 40) rfl ?_); refine goesL_ (some 19) rfl rfl Try.func40 (by kernel_rfl) rfl #[.slice Ao19 t19001.length co19, .slice A0 l0.length c0] rfl (by (try simp only [List.map_toArray, List.map_cons, List.map_nil]); first | done | rfl | (simp only [List.length_drop, List.length_take]; rfl)) ?_; (with_reducible refine (slices_Equal_api_Span_api_Span.calls k _ _ t19001 _ _ l0 false _ ?side1 ?side2 ?side3 ?side4 A4.out).mono ?_); (case side1 => exact (Kd.R_reads' HO19004.out).2.2); (case side2 => exact (Kd.R_reads' HO19004.out).2.1); (case side3 => exact (Kd.C_below HR0.out HB.out)); (case side4 => exact HC0.out); rintro e w' ⟨rfl, ⟨nd, rfl⟩⟩; refine ⟨_, rfl, ?_⟩))
   go_ret2
   exact ⟨_, by first | rfl | (simp [errW_none, errW_some] <;> rfl) | (simp [*, errW_none, errW_some] <;> rfl), by first | exact Kd.R_nil _ _ _ _ _ | exact Kd.N_nil _ _ _ _ _ | exact Kd.V_nil _ _ _ _ _ | exact Kd.Q_nil _ _ _ _ _ | exact Kd.S_nil _ _ _ _ _, by repeat (first | exact HB.out | apply below_alloc | apply pw_below_drewN | apply below_drew1)⟩
 ·rw [if_neg c3] at H
  have c3b0 : (t19002 == 0) = false := beq_eq_false_iff_ne.mpr c3
  have c3b1 : (t19002 != 0) = true := bne_iff_ne.mpr c3
  simp only [Option.some.injEq, Prod.mk.injEq] at H
  obtain ⟨rfl, rfl⟩ := H
  go_enter Try.func18, Try.ntmps18
  go_wp2_with (first | ((with_reducible refine gate_callee (f := 36) rfl ?_); refine goesL_ (some 11) rfl rfl Try.func36 (by kernel_rfl) rfl #[.slice A0 l0.length c0] rfl (by (try simp only [List.map_toArray, List.map_cons, List.map_nil]); first | done | rfl | (simp only [List.length_drop, List.length_take]; rfl)) ?_; (with_reducible refine (span_Norm.calls k _ _ l0 t19001 t19002 _ ?side1 ?side2 A2.out).mono ?_); (case side1 => exact HR0.out); (case side2 => exact HC0.out); rintro e w20 ⟨v19003, rfl, ho0, hb⟩; refine ⟨_, rfl, ?_⟩; have n0_ := Aside0.mk (Kd.R_lower ho0 (below_size (by repeat (first | exact HB.out | apply below_alloc | apply pw_below_drewN | apply below_drew1)))); have n1_ := Aside0.mk (below_step (by repeat (first | exact HB.out | apply below_alloc | apply pw_below_drewN | apply below_drew1)) hb); clear HB; have HO19004 := n0_; have HB := n1_; clear n0_ n1_; (try clear hb); (try clear hb2); (try clear hk); (try clear hi); (try clear ho0)))
  go_ret2
  exact ⟨_, by first | rfl | (simp [errW_none, errW_some] <;> rfl) | (simp [*, errW_none, errW_some] <;> rfl), by first | exact Kd.R_nil _ _ _ _ _ | exact Kd.N_nil _ _ _ _ _ | exact Kd.V_nil _ _ _ _ _ | exact Kd.Q_nil _ _ _ _ _ | exact Kd.S_nil _ _ _ _ _, by repeat (first | exact HB.out | apply below_alloc | apply pw_below_drewN | apply below_drew1)⟩

end Go.Proofs.Ytjkakgkiikjdmaa.G

namespace Go.Proofs.Ytjkakgkiikjdmaa.G
open Go.RowKit Go.Proofs.YtjkakgkiikjdmaaW.PrintWords Go.Proofs.YtjkakgkiikjdmaaW.PrintLast Go.Proofs.YtjkakgkiikjdmaaW.PrintMore
set_option linter.unusedVariables false
set_option linter.unusedSimpArgs false
theorem equal_l0 (l m : List S49) (h : l.length = m.length) (hl : l.length ≤ 1000) : ∀ (d i : Nat), l.length - i = d → i ≤ l.length → Ends (fun k => slices_Equal_api_Span_api_Span.l0 k l m (l.length : Int) (i : Int)) (decide (l.drop i = m.drop i)) := by
  intro d
  induction d with
  | zero =>
    intro i hd hi
    refine Ends.succ ?_
    simp only [slices_Equal_api_Span_api_Span.l0]
    rw [List.drop_of_length_le (by omega), List.drop_of_length_le (by omega)]
    exact Ends.neg (by omega) (Ends.ret _)
  | succ d ih =>
    intro i hd hi
    refine Ends.succ ?_
    have ih := ih (i + 1) (by omega) (by omega)
    rw [drop36 l i (by omega), drop36 m i (by omega)]
    simp only [slices_Equal_api_Span_api_Span.l0, wrap_nat i (by omega)]
    generalize rd_T49 l (i : Int) = p at *
    generalize rd_T49 m (i : Int) = q at *
    refine Ends.pos (by omega) (Ends.pos (by omega) (Ends.pos (by omega) (Ends.pos (by omega) ?_)))
    by_cases he : p = q
    · subst he
      exact Ends.neg (by simp) (ih.congr (by simp))
    · refine Ends.pos ?_ ((Ends.ret false).congr ?_)
      · obtain ⟨p0, p1⟩ := p
        obtain ⟨q0, q1⟩ := q
        dsimp only
        by_cases h0 : p0 = q0
        · have h1 : ¬ p1 = q1 := fun h1 => he (by rw [h0, h1])
          simp [h0, h1]
        · simp [h0]
      · simp [he]
theorem equal_ends (l m : List S49) (hl : l.length ≤ 1000) : Ends (fun k => slices_Equal_api_Span_api_Span.f k l m) (decide (l = m)) := by
  unfold slices_Equal_api_Span_api_Span.f
  by_cases h : l.length = m.length
  · exact Ends.pos (by omega) ((equal_l0 l m h hl _ 0 rfl (by omega)).congr (by simp))
  · refine Ends.neg (by omega) ((Ends.ret false).congr ?_)
    have : ¬ l = m := fun e => h (by rw [e])
    simp [this]
theorem sruns_l0 (l : List S49) (hl : l.length ≤ 256) (hv : ∀ s ∈ l, 0 ≤ s.f0 ∧ s.f0 < s.f1 ∧ s.f1 ≤ 17179869184) : ∀ (d i : Nat) (o : List S56), l.length - i = d → i ≤ l.length → o.length ≤ i → Ends (fun k => splice_Runs.l0 k o l (l.length : Int) (i : Int)) (normOf (o ++ (l.drop i).map runS)) := by
  intro d
  induction d with
  | zero =>
    intro i o hd hi ho
    refine Ends.succ ?_
    simp only [splice_Runs.l0, iso_Norm.f]
    rw [List.drop_of_length_le (by omega), List.map_nil, List.append_nil]
    exact Ends.neg (by omega) (Ends.ret _)
  | succ d ih =>
    intro i o hd hi ho
    refine Ends.succ ?_
    have hx := hv (rd_T49 l (i : Int)) (by rw [rd36 l i (by omega)]; exact List.getElem_mem _)
    rw [drop36 l i (by omega)]
    simp only [splice_Runs.l0, wrap_nat i (by omega)]
    generalize rd_T49 l (i : Int) = s at *
    have hw : wrap64 (s.f1 - s.f0) = s.f1 - s.f0 := by unfold wrap64; omega
    rw [hw]
    refine Ends.pos (by omega) (Ends.pos (by omega) (Ends.pos (by omega) (Ends.pos (by omega) ?_)))
    refine (ih (i + 1) (o ++ [runS s]) (by omega) (by omega) (by simp; omega)).congr ?_
    rw [List.append_assoc]
    rfl
theorem sruns_ends (l : List S49) : Ends (fun k => splice_Runs.f k l) (runsOf l) := by
  unfold splice_Runs.f runsOf
  refine Ends.bind (norm_ends l) ?_
  by_cases hc : check04 l = 0
  · have hj := joinOf_few hc
    rw [norm_fits hc, if_pos hc]
    refine Ends.pos rfl (Ends.bind (equal_ends (joinOf l) l (by omega)) ?_)
    by_cases he : joinOf l = l
    · obtain ⟨h1, h2, h3, _⟩ := own_sep (l := l) ⟨hc, he⟩
      rw [if_pos he]
      refine Ends.pos (by simpa using he) ((sruns_l0 l h2 h3 _ 0 [] rfl (by omega) (by simp)).congr ?_)
      simpa using normOf_runs ⟨hc, he⟩
    · rw [if_neg he]
      exact Ends.neg (by simpa using he) (Ends.ret _)
  · have e : bothOf l [] 0 = ([], check04 l) := by unfold bothOf; rw [if_neg hc]
    rw [e, if_neg hc]
    exact Ends.neg hc (Ends.ret _)
theorem splaces_l0 (l : List S56) (hl : l.length ≤ 256) (hv : ∀ r ∈ l, 0 ≤ r.f1 ∧ r.f1 ≤ 17179869184) : ∀ (d i : Nat) (o : List Int) (a : Int), l.length - i = d → i ≤ l.length → o = places (l.take i) → a = tot13 (l.take i) → Ends (fun k => splice_Places.l0 k o a l (l.length : Int) (i : Int)) (places l, 0) := by
  intro d
  induction d with
  | zero =>
    intro i o a hd hi ho ha
    refine Ends.succ ?_
    simp only [splice_Places.l0]
    rw [List.take_of_length_le (by omega)] at ho
    rw [ho]
    exact Ends.neg (by omega) (Ends.ret _)
  | succ d ih =>
    intro i o a hd hi ho ha
    refine Ends.succ ?_
    have hb := tot13_bound (l.take i) (fun r hr => hv r (List.mem_of_mem_take hr))
    have hlt : (l.take i).length = i := by rw [List.length_take]; omega
    have hx := hv (rd_T56 l (i : Int)) (by rw [rdR l i (by omega)]; exact List.getElem_mem _)
    have hsn : l.take (i + 1) = l.take i ++ [rd_T56 l (i : Int)] := by rw [List.take_succ_eq_append_getElem (by omega), rdR l i (by omega)]
    have hol : o.length ≤ i := by rw [ho, places_len]; omega
    have hw : wrap64 (a + (rd_T56 l (i : Int)).f1) = a + (rd_T56 l (i : Int)).f1 := by unfold wrap64; omega
    have ht : a + (rd_T56 l (i : Int)).f1 = tot13 (l.take (i + 1)) := by rw [hsn, tot13_append, ha]; simp [tot13]
    simp only [splice_Places.l0, wrap_nat i (by omega), hw]
    refine Ends.pos (by omega) (Ends.pos (by omega) (Ends.pos (by omega) ?_))
    cases i with
    | zero =>
      refine Ends.neg (by omega) (ih 1 o _ (by omega) (by omega) ?_ ht)
      rw [ho, hsn, places_snoc]
      simp
    | succ i =>
      refine Ends.pos (by omega) (Ends.pos (by omega) (ih (i + 1 + 1) (o ++ [a]) _ (by omega) (by omega) ?_ ht))
      rw [hsn, places_snoc, if_neg (fun e => by rw [e] at hlt; simp at hlt), ho, ha]
theorem nrm_fit {m : List S56} (h : check13 m = 0) : (nrm (sem m)).length ≤ 256 ∧ (∀ r ∈ nrm (sem m), 1 ≤ r.f1 ∧ r.f1 ≤ 17179869184) ∧ tot13 (nrm (sem m)) = tot13 m := by
  obtain ⟨h1, h2, h3⟩ := check13_zero (nrm_fair h)
  exact ⟨h1, fun r hr => by have := fit_of (h2 r hr); unfold fitR at this; omega, by rw [tot_nrm, sem_tot h]⟩
theorem splaces_ends (m : List S56) : Ends (fun k => splice_Places.f k m) (placesOf m) := by
  unfold splice_Places.f placesOf
  simp only [iso_Norm.f, Option.bind_some]
  unfold normOf
  by_cases h : check13 m = 0
  · obtain ⟨h1, h2, _⟩ := nrm_fit h
    rw [if_pos h, if_pos h]
    exact Ends.pos rfl (splaces_l0 _ h1 (fun r hr => by have := h2 r hr; omega) _ 0 [] 0 rfl (by omega) rfl rfl)
  · rw [if_neg h, if_neg h]
    exact Ends.neg h (Ends.ret _)
theorem scount_ends (m : List S56) : Ends (fun k => splice_Count.f k m) (((placesOf m).1.length : Int), (placesOf m).2) := by
  unfold splice_Count.f
  exact Ends.bind (splaces_ends m) (Ends.ret _)
end Go.Proofs.Ytjkakgkiikjdmaa.G

namespace Go.Proofs.Ytjkakgkiikjdmaa.G
open Go.RowKit Go.Proofs.YtjkakgkiikjdmaaW.PrintWords Go.Proofs.YtjkakgkiikjdmaaW.PrintLast Go.Proofs.YtjkakgkiikjdmaaW.PrintMore
attribute [local go_sem] max2_int min2_int max_two min_two max_three min_three max_four min_four   -- for this text's walks alone
set_option linter.unusedVariables false
set_option linter.unusedSimpArgs false

mutual
def splice_Allowed.j0 : Nat → List (S56) → Int → Int → Int → Bool → Option ((List (S49)) × Int)
 | 0, _, _, _, _, _ => none
 | k + 1, x0, x1, x2, x8, x36 => if x36 = true then (some (([] : List (S49)), 1)) else ((splice_Places.f k x0).bind fun bt27003 => (if bt27003.2 = 0 then (splice_Allowed.j1 k x1 x2 x8 bt27003.2 bt27003.1 (decide (x8 < x1))) else (splice_Allowed.j1 k x1 x2 x8 bt27003.2 bt27003.1 true)))
def splice_Allowed.j1 : Nat → Int → Int → Int → Int → List Int → Bool → Option ((List (S49)) × Int)
 | 0, _, _, _, _, _, _ => none
 | k + 1, x1, x2, x8, x9, x10, x48 => if x48 = true then (some (([] : List (S49)), x9)) else (splice_Allowed.l0 k x1 x2 x8 x10 ([] : List (S49)) x2)
def splice_Allowed.l0 : Nat → Int → Int → Int → List Int → List (S49) → Int → Option ((List (S49)) × Int)
 | 0, _, _, _, _, _, _ => none
 | k + 1, x1, x2, x8, x10, x11, x12 => if x12 < (x10.length : Int) then (if 0 ≤ x12 then (if 0 ≤ (wrap64 (x12 - x2)) then (if (wrap64 (x12 - x2)) < (x10.length : Int) then (if (mx 0 (wrap64 ((wrap64 ((rd x10 x12) - x1)) + 1))) < (rd x10 (wrap64 (x12 - x2))) then (if x11.length < 8796093022208 then (splice_Allowed.l0 k x1 x2 x8 x10 (x11 ++ [(⟨mx 0 (wrap64 ((wrap64 ((rd x10 x12) - x1)) + 1)), rd x10 (wrap64 (x12 - x2))⟩ : S49)]) (wrap64 (x12 + 1))) else (none)) else (splice_Allowed.l0 k x1 x2 x8 x10 x11 (wrap64 (x12 + 1)))) else (none)) else (none)) else (none)) else ((span_Minus.f k (([(⟨0, wrap64 ((wrap64 (x8 - x1)) + 1)⟩ : S49)] : List (S49))) x11).bind fun bt27015 => (some (bt27015.1, bt27015.2)))
end
def splice_Allowed.f (k : Nat) (l0 : List (S56)) (a1 : Int) (a2 : Int) : Option ((List (S49)) × Int) := (iso_Length.f k l0).bind fun bt27001 => (if bt27001.2 = 0 then (if a1 < 1 then (splice_Allowed.j0 k l0 a1 a2 bt27001.1 true) else (if a1 > 17179869184 then (splice_Allowed.j0 k l0 a1 a2 bt27001.1 true) else (if a2 < 0 then (splice_Allowed.j0 k l0 a1 a2 bt27001.1 true) else (splice_Allowed.j0 k l0 a1 a2 bt27001.1 (decide (a2 > 8)))))) else (some (([] : List (S49)), bt27001.2)))
theorem splice_Allowed.mono_l : ∀ k, (∀ y0 y1 y2 y3 y4, LeO (splice_Allowed.j0 k y0 y1 y2 y3 y4) (splice_Allowed.j0 (k + 1) y0 y1 y2 y3 y4)) ∧ (∀ y0 y1 y2 y3 y4 y5, LeO (splice_Allowed.j1 k y0 y1 y2 y3 y4 y5) (splice_Allowed.j1 (k + 1) y0 y1 y2 y3 y4 y5)) ∧ (∀ y0 y1 y2 y3 y4 y5, LeO (splice_Allowed.l0 k y0 y1 y2 y3 y4 y5) (splice_Allowed.l0 (k + 1) y0 y1 y2 y3 y4 y5))
 | 0 => ⟨fun _ _ _ _ _ r h => by simp [splice_Allowed.j0] at h, fun _ _ _ _ _ _ r h => by simp [splice_Allowed.j1] at h, fun _ _ _ _ _ _ r h => by simp [splice_Allowed.l0] at h⟩
 | k + 1 => by
  obtain ⟨ih0, ih1, ih2⟩ := splice_Allowed.mono_l k
  refine ⟨?_, ?_, ?_⟩
  ·intro y0 y1 y2 y3 y4
   unfold splice_Allowed.j0
   repeat' first
   | (with_reducible exact ih0 _ _ _ _ _)
   | (with_reducible exact ih1 _ _ _ _ _ _)
   | (with_reducible exact ih2 _ _ _ _ _ _)
   | (with_reducible exact iso_Length.mono _ _)
   | (with_reducible exact span_Minus.mono _ _ _)
   | (with_reducible exact splice_Places.mono _ _)
   | (with_reducible exact LeO.refl _)
   | (with_reducible exact LeO.none _)
   | (with_reducible refine LeO.ite ?_ ?_)
   | (with_reducible refine LeO.bind ?_ (fun _ => ?_))
   | exact ih0 _ _ _ _ _
   | exact ih1 _ _ _ _ _ _
   | exact ih2 _ _ _ _ _ _
   | exact iso_Length.mono _ _
   | exact span_Minus.mono _ _ _
   | exact splice_Places.mono _ _
   | exact LeO.none _
   | refine LeO.ite ?_ ?_
   | refine LeO.bind ?_ (fun _ => ?_)
  ·intro y0 y1 y2 y3 y4 y5
   unfold splice_Allowed.j1
   repeat' first
   | (with_reducible exact ih0 _ _ _ _ _)
   | (with_reducible exact ih1 _ _ _ _ _ _)
   | (with_reducible exact ih2 _ _ _ _ _ _)
   | (with_reducible exact iso_Length.mono _ _)
   | (with_reducible exact span_Minus.mono _ _ _)
   | (with_reducible exact splice_Places.mono _ _)
   | (with_reducible exact LeO.refl _)
   | (with_reducible exact LeO.none _)
   | (with_reducible refine LeO.ite ?_ ?_)
   | (with_reducible refine LeO.bind ?_ (fun _ => ?_))
   | exact ih0 _ _ _ _ _
   | exact ih1 _ _ _ _ _ _
   | exact ih2 _ _ _ _ _ _
   | exact iso_Length.mono _ _
   | exact span_Minus.mono _ _ _
   | exact splice_Places.mono _ _
   | exact LeO.none _
   | refine LeO.ite ?_ ?_
   | refine LeO.bind ?_ (fun _ => ?_)
  ·intro y0 y1 y2 y3 y4 y5
   unfold splice_Allowed.l0
   repeat' first
   | (with_reducible exact ih0 _ _ _ _ _)
   | (with_reducible exact ih1 _ _ _ _ _ _)
   | (with_reducible exact ih2 _ _ _ _ _ _)
   | (with_reducible exact iso_Length.mono _ _)
   | (with_reducible exact span_Minus.mono _ _ _)
   | (with_reducible exact splice_Places.mono _ _)
   | (with_reducible exact LeO.refl _)
   | (with_reducible exact LeO.none _)
   | (with_reducible refine LeO.ite ?_ ?_)
   | (with_reducible refine LeO.bind ?_ (fun _ => ?_))
   | exact ih0 _ _ _ _ _
   | exact ih1 _ _ _ _ _ _
   | exact ih2 _ _ _ _ _ _
   | exact iso_Length.mono _ _
   | exact span_Minus.mono _ _ _
   | exact splice_Places.mono _ _
   | exact LeO.none _
   | refine LeO.ite ?_ ?_
   | refine LeO.bind ?_ (fun _ => ?_)
theorem splice_Allowed.mono : ∀ a0 a1 a2 k, LeO (splice_Allowed.f k a0 a1 a2) (splice_Allowed.f (k + 1) a0 a1 a2) := by
 intro a0 a1 a2 k
 obtain ⟨ih0, ih1, ih2⟩ := splice_Allowed.mono_l k
 unfold splice_Allowed.f
 repeat' first
   | (with_reducible exact ih0 _ _ _ _ _)
   | (with_reducible exact ih1 _ _ _ _ _ _)
   | (with_reducible exact ih2 _ _ _ _ _ _)
   | (with_reducible exact iso_Length.mono _ _)
   | (with_reducible exact span_Minus.mono _ _ _)
   | (with_reducible exact splice_Places.mono _ _)
   | (with_reducible exact LeO.refl _)
   | (with_reducible exact LeO.none _)
   | (with_reducible refine LeO.ite ?_ ?_)
   | (with_reducible refine LeO.bind ?_ (fun _ => ?_))
   | exact ih0 _ _ _ _ _
   | exact ih1 _ _ _ _ _ _
   | exact ih2 _ _ _ _ _ _
   | exact iso_Length.mono _ _
   | exact span_Minus.mono _ _ _
   | exact splice_Places.mono _ _
   | exact LeO.none _
   | refine LeO.ite ?_ ?_
   | refine LeO.bind ?_ (fun _ => ?_)
set_option maxHeartbeats 8000000 in
set_option maxRecDepth 100000 in
theorem splice_Allowed.calls (k : Nat) (A0 : Option Addr) (c0 : Nat) (l0 : List (S56)) (a1 : Int) (a2 : Int) (r1 : List (S49)) (r2 : Int) (w : World) (hr0 : Kd.C k56 w A0 l0.length l0) (hc0 : l0.length ≤ c0) (h : splice_Allowed.f k l0 a1 a2 = some (r1, r2)) :
  Calls Try.prog 26 #[.slice A0 l0.length c0, .int .i64 a1, .int .i64 a2] w fun e w' => ∃ v0_ : Value, e = .returned (.tuple #[v0_, .int .i64 r2]) ∧ Kd.R k49 49 w' w.heap.size (fun _ => True) v0_ r1 ∧ Below w.heap.size w w' := by
 have hu49 := Try.underlying49
 have HR0 := Aside0.mk hr0
 have HC0 := Aside0.mk hc0
 clear hr0 hc0
 have HB := Aside0.mk (Below.refl w.heap.size w)
 have H : ((iso_Length.f k l0).bind fun bt27001 => (if bt27001.2 = 0 then (if a1 < 1 then (splice_Allowed.j0 k l0 a1 a2 bt27001.1 true) else (if a1 > 17179869184 then (splice_Allowed.j0 k l0 a1 a2 bt27001.1 true) else (if a2 < 0 then (splice_Allowed.j0 k l0 a1 a2 bt27001.1 true) else (splice_Allowed.j0 k l0 a1 a2 bt27001.1 (decide (a2 > 8)))))) else (some (([] : List (S49)), bt27001.2)))) = some (r1, r2) := h
 clear h
 replace H := Option.bind_eq_some_iff.mp H
 obtain ⟨⟨t27001, t27002⟩, A40, H⟩ := H
 replace H : (if t27002 = 0 then (if a1 < 1 then (splice_Allowed.j0 k l0 a1 a2 t27001 true) else (if a1 > 17179869184 then (splice_Allowed.j0 k l0 a1 a2 t27001 true) else (if a2 < 0 then (splice_Allowed.j0 k l0 a1 a2 t27001 true) else (splice_Allowed.j0 k l0 a1 a2 t27001 (decide (a2 > 8)))))) else (some (([] : List (S49)), t27002))) = some (r1, r2) := H
 have A4 := Aside0.mk A40
 clear A40
 by_cases c5 : t27002 = 0
 ·rw [if_pos c5] at H
  have c5b0 : (t27002 == 0) = true := beq_iff_eq.mpr c5
  have c5b1 : (t27002 != 0) = false := bne_eq_false_iff_eq.mpr c5
  clear c5
  have HC6 := Aside0.mk H
  clear H
  go_enter Try.func26, Try.ntmps26
  go_upto_region 4 with (first | (go_at_call 29; (with_reducible refine (iso_Length.calls k _ _ l0 t27001 t27002 _ ?side1 ?side2 A4.out).mono ?_); (case side1 => repeat (first | exact HR0.out | (with_reducible refine Kd.C_alloc ?_ _) | (with_reducible refine Kd.C_drewN ?_ _) | (with_reducible refine Kd.C_drew ?_))); (case side2 => exact HC0.out); rintro e w7 ⟨rfl, hb⟩; have n0_ := Aside0.mk (below_step (by repeat (first | exact HB.out | apply below_alloc | apply pw_below_drewN | apply below_drew1)) hb); clear HB; have HB := n0_; clear n0_; (try clear hb); (try clear hb2); (try clear hk); (try clear hi)))
  repeat (go_quiet (first | (go_at_call 29; (with_reducible refine (iso_Length.calls k _ _ l0 t27001 t27002 _ ?side1 ?side2 A4.out).mono ?_); (case side1 => repeat (first | exact HR0.out | (with_reducible refine Kd.C_alloc ?_ _) | (with_reducible refine Kd.C_drewN ?_ _) | (with_reducible refine Kd.C_drew ?_))); (case side2 => exact HC0.out); rintro e w7 ⟨rfl, hb⟩; have n0_ := Aside0.mk (below_step (by repeat (first | exact HB.out | apply below_alloc | apply pw_below_drewN | apply below_drew1)) hb); clear HB; have HB := n0_; clear n0_; (try clear hb); (try clear hb2); (try clear hk); (try clear hi))); go_upto_region 4 with (first | (go_at_call 29; (with_reducible refine (iso_Length.calls k _ _ l0 t27001 t27002 _ ?side1 ?side2 A4.out).mono ?_); (case side1 => repeat (first | exact HR0.out | (with_reducible refine Kd.C_alloc ?_ _) | (with_reducible refine Kd.C_drewN ?_ _) | (with_reducible refine Kd.C_drew ?_))); (case side2 => exact HC0.out); rintro e w7 ⟨rfl, hb⟩; have n0_ := Aside0.mk (below_step (by repeat (first | exact HB.out | apply below_alloc | apply pw_below_drewN | apply below_drew1)) hb); clear HB; have HB := n0_; clear n0_; (try clear hb); (try clear hb2); (try clear hk); (try clear hi))))
  (try simp only [Act.put, List.setIfInBounds_toArray, List.set_cons_zero, List.set_cons_succ])
  go_cut [36] (fun v36 wc => ∃ (kq : Nat) (x36_5 : Bool), v36 = .bool x36_5 ∧ Aside0 (splice_Allowed.j0 kq l0 a1 a2 t27001 x36_5 = some (r1, r2)) ∧ Aside0 (kq ≤ k) ∧ Aside0 (Below w.heap.size w wc))
  case first =>
   have H := HC6.out
   clear HC6
   by_cases c8 : a1 < 1
   ·rw [if_pos c8] at H
    have c8b0 : decide (a1 < 1) = true := decide_eq_true c8
    clear c8
    (first | rw [c8b0] | (simp only [i64_w, i32_w]; rw [c8b0]) | skip)
    have H' := Aside0.mk H
    clear H
    go_wp2
    repeat (go_quiet (fail); try go_wp2)
    go_meet
    case rel => exact ⟨_, (true), (by first | rfl | (simp; done) | (simp [*]; done)), H', ⟨by first | omega | exact Nat.le_refl _⟩, ⟨by repeat (first | exact HB.out | apply below_alloc | apply pw_below_drewN | apply below_drew1)⟩⟩
   ·rw [if_neg c8] at H
    have c8b0 : decide (a1 < 1) = false := decide_eq_false c8
    clear c8
    (first | rw [c8b0] | (simp only [i64_w, i32_w]; rw [c8b0]) | skip)
    by_cases c9 : a1 > 17179869184
    ·rw [if_pos c9] at H
     have c9b0 : decide (17179869184 < a1) = true := decide_eq_true c9
     clear c9
     have H' := Aside0.mk H
     clear H
     go_wp2
     repeat (go_quiet (fail); try go_wp2)
     go_meet
     case rel => exact ⟨_, (true), (by first | rfl | (simp; done) | (simp [*]; done)), H', ⟨by first | omega | exact Nat.le_refl _⟩, ⟨by repeat (first | exact HB.out | apply below_alloc | apply pw_below_drewN | apply below_drew1)⟩⟩
    ·rw [if_neg c9] at H
     have c9b0 : decide (17179869184 < a1) = false := decide_eq_false c9
     clear c9
     by_cases c10 : a2 < 0
     ·rw [if_pos c10] at H
      have c10b0 : decide (a2 < 0) = true := decide_eq_true c10
      clear c10
      have H' := Aside0.mk H
      clear H
      go_wp2
      repeat (go_quiet (fail); try go_wp2)
      go_meet
      case rel => exact ⟨_, (true), (by first | rfl | (simp; done) | (simp [*]; done)), H', ⟨by first | omega | exact Nat.le_refl _⟩, ⟨by repeat (first | exact HB.out | apply below_alloc | apply pw_below_drewN | apply below_drew1)⟩⟩
     ·rw [if_neg c10] at H
      have c10b0 : decide (a2 < 0) = false := decide_eq_false c10
      clear c10
      have H' := Aside0.mk H
      clear H
      go_wp2
      repeat (go_quiet (fail); try go_wp2)
      go_meet
      case rel => exact ⟨_, (decide (a2 > 8)), (by first | rfl | (simp; done) | (simp [*]; done)), H', ⟨by first | omega | exact Nat.le_refl _⟩, ⟨by repeat (first | exact HB.out | apply below_alloc | apply pw_below_drewN | apply below_drew1)⟩⟩
  case rest =>
   clear HC6
   try clear c1
   try clear c2
   try clear p2
   try clear c5
   try clear c5b0
   try clear c5b1
   try clear c8
   try clear c8b0
   try clear c9
   try clear c9b0
   try clear c10
   try clear c10b0
   obtain ⟨kq, x36_5, rfl, HA, HJ5, HB⟩ := hcut
   cases kq with
   | zero => exact absurd HA.out (by simp [splice_Allowed.j0])
   | succ kj5 =>
    have H := HA.out
    clear HA
    simp only [splice_Allowed.j0] at H
    by_cases c11 : x36_5 = true
    ·subst c11
     have H1 : (some (([] : List (S49)), 1)) = some (r1, r2) := by rw [if_pos rfl] at H; exact H
     clear H
     have H := H1
     clear H1
     simp only [Option.some.injEq, Prod.mk.injEq] at H
     obtain ⟨rfl, rfl⟩ := H
     go_wp2
     repeat (go_quiet (fail); try go_wp2)
     go_ret2
     exact ⟨_, by first | rfl | (simp [errW_none, errW_some] <;> rfl) | (simp [*, errW_none, errW_some] <;> rfl), by first | exact Kd.R_nil _ _ _ _ _ | exact Kd.N_nil _ _ _ _ _ | exact Kd.V_nil _ _ _ _ _ | exact Kd.Q_nil _ _ _ _ _ | exact Kd.S_nil _ _ _ _ _, by repeat (first | exact HB.out | apply below_alloc | apply pw_below_drewN | apply below_drew1)⟩
    ·replace c11 := Bool.eq_false_iff.mpr c11
     subst c11
     have H1 : ((splice_Places.f kj5 l0).bind fun bt27003 => (if bt27003.2 = 0 then (splice_Allowed.j1 kj5 a1 a2 t27001 bt27003.2 bt27003.1 (decide (t27001 < a1))) else (splice_Allowed.j1 kj5 a1 a2 t27001 bt27003.2 bt27003.1 true))) = some (r1, r2) := by rw [if_neg (show ¬ (false = true) by decide)] at H; first | exact H | simpa using H
     clear H
     have H := H1
     clear H1
     replace H := Option.bind_eq_some_iff.mp H
     obtain ⟨⟨t27003, t27004⟩, A120, H⟩ := H
     replace H : (if t27004 = 0 then (splice_Allowed.j1 kj5 a1 a2 t27001 t27004 t27003 (decide (t27001 < a1))) else (splice_Allowed.j1 kj5 a1 a2 t27001 t27004 t27003 true)) = some (r1, r2) := H
     have A12 := Aside0.mk A120
     clear A120
     have HC13 := Aside0.mk H
     clear H
     go_upto_region 7 with (first | (go_at_call 21; (with_reducible refine (splice_Places.calls kj5 _ _ l0 t27003 t27004 _ ?side1 ?side2 A12.out).mono ?_); (case side1 => repeat (first | exact (Kd.C_below HR0.out HB.out) | (with_reducible refine Kd.C_alloc ?_ _) | (with_reducible refine Kd.C_drewN ?_ _) | (with_reducible refine Kd.C_drew ?_))); (case side2 => exact HC0.out); rintro e w14 ⟨v27005, rfl, ho0, hb⟩; have n0_ := Aside0.mk (Kd.R_lower ho0 (below_size (by repeat (first | exact HB.out | apply below_alloc | apply pw_below_drewN | apply below_drew1)))); have n1_ := Aside0.mk (below_step (by repeat (first | exact HB.out | apply below_alloc | apply pw_below_drewN | apply below_drew1)) hb); clear HB; have HO27006 := n0_; have HB := n1_; clear n0_ n1_; (try clear hb); (try clear hb2); (try clear hk); (try clear hi); (try clear ho0)))
     repeat (go_quiet (first | (go_at_call 21; (with_reducible refine (splice_Places.calls kj5 _ _ l0 t27003 t27004 _ ?side1 ?side2 A12.out).mono ?_); (case side1 => repeat (first | exact (Kd.C_below HR0.out HB.out) | (with_reducible refine Kd.C_alloc ?_ _) | (with_reducible refine Kd.C_drewN ?_ _) | (with_reducible refine Kd.C_drew ?_))); (case side2 => exact HC0.out); rintro e w14 ⟨v27005, rfl, ho0, hb⟩; have n0_ := Aside0.mk (Kd.R_lower ho0 (below_size (by repeat (first | exact HB.out | apply below_alloc | apply pw_below_drewN | apply below_drew1)))); have n1_ := Aside0.mk (below_step (by repeat (first | exact HB.out | apply below_alloc | apply pw_below_drewN | apply below_drew1)) hb); clear HB; have HO27006 := n0_; have HB := n1_; clear n0_ n1_; (try clear hb); (try clear hb2); (try clear hk); (try clear hi); (try clear ho0))); go_upto_region 7 with (first | (go_at_call 21; (with_reducible refine (splice_Places.calls kj5 _ _ l0 t27003 t27004 _ ?side1 ?side2 A12.out).mono ?_); (case side1 => repeat (first | exact (Kd.C_below HR0.out HB.out) | (with_reducible refine Kd.C_alloc ?_ _) | (with_reducible refine Kd.C_drewN ?_ _) | (with_reducible refine Kd.C_drew ?_))); (case side2 => exact HC0.out); rintro e w14 ⟨v27005, rfl, ho0, hb⟩; have n0_ := Aside0.mk (Kd.R_lower ho0 (below_size (by repeat (first | exact HB.out | apply below_alloc | apply pw_below_drewN | apply below_drew1)))); have n1_ := Aside0.mk (below_step (by repeat (first | exact HB.out | apply below_alloc | apply pw_below_drewN | apply below_drew1)) hb); clear HB; have HO27006 := n0_; have HB := n1_; clear n0_ n1_; (try clear hb); (try clear hb2); (try clear hk); (try clear hi); (try clear ho0))))
     (try simp only [Act.put, List.setIfInBounds_toArray, List.set_cons_zero, List.set_cons_succ])
     go_cut [48] (fun v48 wc => ∃ (kq : Nat) (x48_12 : Bool), v48 = .bool x48_12 ∧ Aside0 (splice_Allowed.j1 kq a1 a2 t27001 t27004 t27003 x48_12 = some (r1, r2)) ∧ Aside0 (kq ≤ kj5) ∧ Aside0 (Kd.R (Kd.int .i64) 3 wc w.heap.size (fun _ => True) v27005 t27003) ∧ Aside0 (Below w.heap.size w wc))
     case first =>
      have H := HC13.out
      clear HC13
      by_cases c15 : t27004 = 0
      ·rw [if_pos c15] at H
       have c15b0 : (t27004 == 0) = true := beq_iff_eq.mpr c15
       have c15b1 : (t27004 != 0) = false := bne_eq_false_iff_eq.mpr c15
       clear c15
       (first | rw [c15b0] | (simp only [i64_w, i32_w]; rw [c15b0]) | skip)
       have H' := Aside0.mk H
       clear H
       go_wp2
       repeat (go_quiet (fail); try go_wp2)
       go_meet
       case rel => exact ⟨_, (decide (t27001 < a1)), (by first | rfl | (simp; done) | (simp [*]; done)), H', ⟨by have := HJ5.out; first | omega | exact Nat.le_refl _⟩, ⟨by (with_reducible repeat (first | apply Kd.R_alloc | apply Kd.R_drewN | apply Kd.R_drew)); exact HO27006.out⟩, ⟨by repeat (first | exact HB.out | apply below_alloc | apply pw_below_drewN | apply below_drew1)⟩⟩
      ·rw [if_neg c15] at H
       have c15b0 : (t27004 == 0) = false := beq_eq_false_iff_ne.mpr c15
       have c15b1 : (t27004 != 0) = true := bne_iff_ne.mpr c15
       (first | rw [c15b0] | (simp only [i64_w, i32_w]; rw [c15b0]) | skip)
       have H' := Aside0.mk H
       clear H
       go_wp2
       repeat (go_quiet (fail); try go_wp2)
       go_meet
       case rel => exact ⟨_, (true), (by first | rfl | (simp; done) | (simp [*]; done)), H', ⟨by have := HJ5.out; first | omega | exact Nat.le_refl _⟩, ⟨by (with_reducible repeat (first | apply Kd.R_alloc | apply Kd.R_drewN | apply Kd.R_drew)); exact HO27006.out⟩, ⟨by repeat (first | exact HB.out | apply below_alloc | apply pw_below_drewN | apply below_drew1)⟩⟩
     case rest =>
      clear HC13
      try clear c1
      try clear c2
      try clear p2
      try clear c5
      try clear c5b0
      try clear c5b1
      try clear c8
      try clear c8b0
      try clear c9
      try clear c9b0
      try clear c10
      try clear c10b0
      try clear c11
      try clear c15
      try clear c15b0
      try clear c15b1
      try clear p2
      obtain ⟨kq, x48_12, rfl, HA, HJ12, HO_10, HB⟩ := hcut
      cases kq with
      | zero => exact absurd HA.out (by simp [splice_Allowed.j1])
      | succ kj12 =>
       have H := HA.out
       clear HA
       simp only [splice_Allowed.j1] at H
       by_cases c16 : x48_12 = true
       ·subst c16
        have H1 : (some (([] : List (S49)), t27004)) = some (r1, r2) := by rw [if_pos rfl] at H; exact H
        clear H
        have H := H1
        clear H1
        simp only [Option.some.injEq, Prod.mk.injEq] at H
        obtain ⟨rfl, rfl⟩ := H
        go_wp2
        repeat (go_quiet (fail); try go_wp2)
        go_ret2
        exact ⟨_, by first | rfl | (simp [errW_none, errW_some] <;> rfl) | (simp [*, errW_none, errW_some] <;> rfl), by first | exact Kd.R_nil _ _ _ _ _ | exact Kd.N_nil _ _ _ _ _ | exact Kd.V_nil _ _ _ _ _ | exact Kd.Q_nil _ _ _ _ _ | exact Kd.S_nil _ _ _ _ _, by repeat (first | exact HB.out | apply below_alloc | apply pw_below_drewN | apply below_drew1)⟩
       ·replace c16 := Bool.eq_false_iff.mpr c16
        subst c16
        have H1 : (splice_Allowed.l0 kj12 a1 a2 t27001 t27003 ([] : List (S49)) a2) = some (r1, r2) := by rw [if_neg (show ¬ (false = true) by decide)] at H; first | exact H | simpa using H
        clear H
        have H := H1
        clear H1
        have H' := Aside0.mk H
        clear H
        go_wp2
        repeat (go_quiet (fail); try go_wp2)
        go_loopg [11, 12] kj12 (fun kq v11 v12 w' => ∃ (x11_3 : List (S49)) (x12_3 : Int), v12 = .int .i64 x12_3 ∧ Aside0 (splice_Allowed.l0 kq a1 a2 t27001 t27003 x11_3 x12_3 = some (r1, r2)) ∧ Aside0 (kq ≤ kj12) ∧ Aside0 (Kd.R (Kd.int .i64) 3 w' w.heap.size (fun _ => True) v27005 t27003) ∧ Aside0 (Kd.R k49 49 w' w.heap.size (fun _ => True) v11 x11_3) ∧ Aside0 (Below w.heap.size w w'))
        case atStart => exact ⟨(([] : List (S49))), (a2), (by first | rfl | (simp; done) | (simp [*]; done)), H', ⟨Nat.le_refl _⟩, ⟨by (with_reducible repeat (first | apply Kd.R_alloc | apply Kd.R_drewN | apply Kd.R_drew)); exact HO_10.out⟩, ⟨by first | exact Kd.R_nil _ _ _ _ _ | exact Kd.N_nil _ _ _ _ _ | exact Kd.V_nil _ _ _ _ _ | exact Kd.Q_nil _ _ _ _ _ | exact Kd.S_nil _ _ _ _ _⟩, ⟨by repeat (first | exact HB.out | apply below_alloc | apply pw_below_drewN | apply below_drew1)⟩⟩
        case round =>
         clear H'
         try clear c1
         try clear c2
         try clear p2
         try clear c5
         try clear c5b0
         try clear c5b1
         try clear c8
         try clear c8b0
         try clear c9
         try clear c9b0
         try clear c10
         try clear c10b0
         try clear c11
         try clear c15
         try clear c15b0
         try clear c15b1
         try clear c16
         try clear p2
         obtain ⟨x11_3, x12_3, rfl, HA, HK3, HO_10, HO_11, HB⟩ := hrel
         cases gk with
         | zero => exact absurd HA.out (by simp [splice_Allowed.l0])
         | succ k3 =>
          have H := HA.out
          clear HA
          simp only [splice_Allowed.l0] at H
          by_cases c17 : x12_3 < (t27003.length : Int)
          ·rw [if_pos c17] at H
           have c17b0 : decide (x12_3 < (t27003.length : Int)) = true := decide_eq_true c17
           clear c17
           by_cases c18 : 0 ≤ x12_3
           ·rw [if_pos c18] at H
            have c18b0 : decide (0 ≤ x12_3) = true := decide_eq_true c18
            clear c18
            obtain ⟨ji19, hji19⟩ : ∃ j_ : Int, (mx 0 (wrap64 ((wrap64 ((rd t27003 x12_3) - a1)) + 1))) = j_ := ⟨_, rfl⟩
            replace H : (if 0 ≤ (wrap64 (x12_3 - a2)) then (if (wrap64 (x12_3 - a2)) < (t27003.length : Int) then (if (ji19) < (rd t27003 (wrap64 (x12_3 - a2))) then (if x11_3.length < 8796093022208 then (splice_Allowed.l0 k3 a1 a2 t27001 t27003 (x11_3 ++ [(⟨ji19, rd t27003 (wrap64 (x12_3 - a2))⟩ : S49)]) (wrap64 (x12_3 + 1))) else (none)) else (splice_Allowed.l0 k3 a1 a2 t27001 t27003 x11_3 (wrap64 (x12_3 + 1)))) else (none)) else (none)) = some (r1, r2) := by first | (rw [hji19] at H; exact H) | (simp only [hji19] at H ⊢; exact H)
            have hji19_ : (if 0 < (wrap64 ((wrap64 ((rd t27003 x12_3) - a1)) + 1)) then (wrap64 ((wrap64 ((rd t27003 x12_3) - a1)) + 1)) else 0) = ji19 := hji19
            obtain ⟨ji20, hji20⟩ : ∃ j_ : Int, (wrap64 (x12_3 - a2)) = j_ := ⟨_, rfl⟩
            replace H : (if 0 ≤ (ji20) then (if (ji20) < (t27003.length : Int) then (if (ji19) < (rd t27003 (ji20)) then (if x11_3.length < 8796093022208 then (splice_Allowed.l0 k3 a1 a2 t27001 t27003 (x11_3 ++ [(⟨ji19, rd t27003 (ji20)⟩ : S49)]) (wrap64 (x12_3 + 1))) else (none)) else (splice_Allowed.l0 k3 a1 a2 t27001 t27003 x11_3 (wrap64 (x12_3 + 1)))) else (none)) else (none)) = some (r1, r2) := by first | (rw [hji20] at H; exact H) | (simp only [hji20] at H ⊢; exact H)
            have hji20w : (IntKind.i64.wrap (x12_3 - a2)) = ji20 := (i64_w _).trans hji20
            by_cases c21 : 0 ≤ (ji20)
            ·rw [if_pos c21] at H
             have c21b0 : decide (0 ≤ (ji20)) = true := decide_eq_true c21
             clear c21
             by_cases c22 : (ji20) < (t27003.length : Int)
             ·rw [if_pos c22] at H
              have c22b0 : decide ((ji20) < (t27003.length : Int)) = true := decide_eq_true c22
              clear c22
              by_cases c23 : (ji19) < (rd t27003 (ji20))
              ·rw [if_pos c23] at H
               have c23b0 : decide ((ji19) < (rd t27003 (ji20))) = true := decide_eq_true c23
               clear c23
               by_cases c24 : x11_3.length < 8796093022208
               ·rw [if_pos c24] at H
                have LMc24 := Aside0.mk c24
                clear c24
                obtain ⟨y27009, hy27009⟩ : ∃ y_ : List (S49), y_ = (x11_3 ++ [(⟨ji19, rd t27003 (ji20)⟩ : S49)]) := ⟨_, rfl⟩
                replace H : (splice_Allowed.l0 k3 a1 a2 t27001 t27003 y27009 (wrap64 (x12_3 + 1))) = some (r1, r2) := by first | (rw [hy27009]; with_reducible exact H) | (have H2_ := (Option.bind_some _ _).symm.trans H; rw [hy27009]; with_reducible exact H2_) | (have H2_ := (Option.bind_some _ _).symm.trans H; with_reducible exact H2_) | with_reducible exact H | (rw [hy27009]; exact H) | exact H
                have Ny27009 := Aside0.mk hy27009
                clear hy27009
                have H' := Aside0.mk H
                clear H
                obtain ⟨Ao25, co25, eo25⟩ := Kd.R_slice HO_10.out
                subst eo25
                have p27007 : 0 ≤ (x12_3 : Int) := of_decide_eq_true (by assumption)
                have q27007 : x12_3 < (t27003.length : Int) := of_decide_eq_true (by assumption)
                obtain ⟨ad27007, e27007, hx27007_0⟩ := Kd.at_int (Kd.R_reads' HO_10.out).2.2 x12_3 p27007 q27007
                cases e27007
                replace p27007 := eq_true p27007
                replace q27007 := eq_true q27007
                have p27008 : 0 ≤ ((ji20) : Int) := of_decide_eq_true (by assumption)
                have q27008 : (ji20) < (t27003.length : Int) := of_decide_eq_true (by assumption)
                obtain ⟨ad27008, e27008, hx27008_0⟩ := Kd.at_int (Kd.R_reads' HO_10.out).2.2 (ji20) p27008 q27008
                obtain rfl : ad27007 = ad27008 := (by injection e27008)
                replace p27008 := eq_true p27008
                replace q27008 := eq_true q27008
                go_wp2_with (first | ((with_reducible refine gate_builtin (b := .append) (xs := #[.tmp 74, .tmp 78]) rfl ?_); at_builtin; refine Kd.R_append k49 (w0 := w) w.heap.size rfl (.tmp 74) (.tmp 78) 22 49 (.agg #[(.int .i64 0), (.int .i64 0)]) 16 rfl Try.underlying22 info49 rfl (by decide) (by omega) u11 x11_3 (⟨ji19, rd t27003 (ji20)⟩ : S49) [.int .i64 ji19, .int .i64 (rd t27003 (ji20))] (fun _ => True) (fun _ => False) rfl rfl ?aP (fun _ hk => hk.elim) ?aF ?aO ?aB ?aS ?aL ?_; (case aP => exact k49_mkM _ _ _ (⟨ji19, rd t27003 (ji20)⟩ : S49)); (case aB => exact (by repeat (first | exact HB.out | apply below_alloc | apply pw_below_drewN | apply below_drew1))); (case aF => exact (fun _ _ => trivial)); (case aO => exact (by (with_reducible repeat (first | apply Kd.R_alloc | apply Kd.R_drewN | apply Kd.R_drew)); exact HO_11.out)); (case aS => exact (below_size (by repeat (first | exact HB.out | apply below_alloc | apply pw_below_drewN | apply below_drew1)))); (case aL => have := LMc24.out; omega); intro v27010 w26 ho hb hg hat; rw [← Ny27009.out] at ho; have n0_ := Aside0.mk (Kd.R_over' (by (with_reducible repeat (first | apply Kd.R_alloc | apply Kd.R_drewN | apply Kd.R_drew)); exact HO_10.out) (Kd.R_typed (by (with_reducible repeat (first | apply Kd.R_alloc | apply Kd.R_drewN | apply Kd.R_drew)); exact HO_11.out)) (by decide) hg); have n1_ := Aside0.mk (hb); have n2_ := Aside0.mk (ho); clear HO_10; clear HB; clear HO_11; have HO_10 := n0_; have HB := n1_; have HO27011 := n2_; clear n0_ n1_ n2_; clear ho hb hg hat))
                repeat (go_quiet (first | ((with_reducible refine gate_builtin (b := .append) (xs := #[.tmp 74, .tmp 78]) rfl ?_); at_builtin; refine Kd.R_append k49 (w0 := w) w.heap.size rfl (.tmp 74) (.tmp 78) 22 49 (.agg #[(.int .i64 0), (.int .i64 0)]) 16 rfl Try.underlying22 info49 rfl (by decide) (by omega) u11 x11_3 (⟨ji19, rd t27003 (ji20)⟩ : S49) [.int .i64 ji19, .int .i64 (rd t27003 (ji20))] (fun _ => True) (fun _ => False) rfl rfl ?aP (fun _ hk => hk.elim) ?aF ?aO ?aB ?aS ?aL ?_; (case aP => exact k49_mkM _ _ _ (⟨ji19, rd t27003 (ji20)⟩ : S49)); (case aB => exact (by repeat (first | exact HB.out | apply below_alloc | apply pw_below_drewN | apply below_drew1))); (case aF => exact (fun _ _ => trivial)); (case aO => exact (by (with_reducible repeat (first | apply Kd.R_alloc | apply Kd.R_drewN | apply Kd.R_drew)); exact HO_11.out)); (case aS => exact (below_size (by repeat (first | exact HB.out | apply below_alloc | apply pw_below_drewN | apply below_drew1)))); (case aL => have := LMc24.out; omega); intro v27010 w26 ho hb hg hat; rw [← Ny27009.out] at ho; have n0_ := Aside0.mk (Kd.R_over' (by (with_reducible repeat (first | apply Kd.R_alloc | apply Kd.R_drewN | apply Kd.R_drew)); exact HO_10.out) (Kd.R_typed (by (with_reducible repeat (first | apply Kd.R_alloc | apply Kd.R_drewN | apply Kd.R_drew)); exact HO_11.out)) (by decide) hg); have n1_ := Aside0.mk (hb); have n2_ := Aside0.mk (ho); clear HO_10; clear HB; clear HO_11; have HO_10 := n0_; have HB := n1_; have HO27011 := n2_; clear n0_ n1_ n2_; clear ho hb hg hat)); try go_wp2_with (first | ((with_reducible refine gate_builtin (b := .append) (xs := #[.tmp 74, .tmp 78]) rfl ?_); at_builtin; refine Kd.R_append k49 (w0 := w) w.heap.size rfl (.tmp 74) (.tmp 78) 22 49 (.agg #[(.int .i64 0), (.int .i64 0)]) 16 rfl Try.underlying22 info49 rfl (by decide) (by omega) u11 x11_3 (⟨ji19, rd t27003 (ji20)⟩ : S49) [.int .i64 ji19, .int .i64 (rd t27003 (ji20))] (fun _ => True) (fun _ => False) rfl rfl ?aP (fun _ hk => hk.elim) ?aF ?aO ?aB ?aS ?aL ?_; (case aP => exact k49_mkM _ _ _ (⟨ji19, rd t27003 (ji20)⟩ : S49)); (case aB => exact (by repeat (first | exact HB.out | apply below_alloc | apply pw_below_drewN | apply below_drew1))); (case aF => exact (fun _ _ => trivial)); (case aO => exact (by (with_reducible repeat (first | apply Kd.R_alloc | apply Kd.R_drewN | apply Kd.R_drew)); exact HO_11.out)); (case aS => exact (below_size (by repeat (first | exact HB.out | apply below_alloc | apply pw_below_drewN | apply below_drew1)))); (case aL => have := LMc24.out; omega); intro v27010 w26 ho hb hg hat; rw [← Ny27009.out] at ho; have n0_ := Aside0.mk (Kd.R_over' (by (with_reducible repeat (first | apply Kd.R_alloc | apply Kd.R_drewN | apply Kd.R_drew)); exact HO_10.out) (Kd.R_typed (by (with_reducible repeat (first | apply Kd.R_alloc | apply Kd.R_drewN | apply Kd.R_drew)); exact HO_11.out)) (by decide) hg); have n1_ := Aside0.mk (hb); have n2_ := Aside0.mk (ho); clear HO_10; clear HB; clear HO_11; have HO_10 := n0_; have HB := n1_; have HO27011 := n2_; clear n0_ n1_ n2_; clear ho hb hg hat)))
                go_roundg k3
                case measure => have := HJ5.out; have := HJ12.out; have := HK3.out; omega
                case rel => exact ⟨(y27009), (wrap64 (x12_3 + 1)), (by first | rfl | (simp; done) | (simp [*]; done)), H', ⟨by have := HJ5.out; have := HJ12.out; have := HK3.out; omega⟩, ⟨by (with_reducible repeat (first | apply Kd.R_alloc | apply Kd.R_drewN | apply Kd.R_drew)); exact HO_10.out⟩, ⟨by (with_reducible repeat (first | apply Kd.R_alloc | apply Kd.R_drewN | apply Kd.R_drew)); exact HO27011.out⟩, ⟨by repeat (first | exact HB.out | apply below_alloc | apply pw_below_drewN | apply below_drew1)⟩⟩
               ·rw [if_neg c24] at H
                exact absurd H (by simp)
              ·rw [if_neg c23] at H
               have c23b0 : decide ((ji19) < (rd t27003 (ji20))) = false := decide_eq_false c23
               clear c23
               have H' := Aside0.mk H
               clear H
               obtain ⟨Ao27, co27, eo27⟩ := Kd.R_slice HO_10.out
               subst eo27
               have p27007 : 0 ≤ (x12_3 : Int) := of_decide_eq_true (by assumption)
               have q27007 : x12_3 < (t27003.length : Int) := of_decide_eq_true (by assumption)
               obtain ⟨ad27007, e27007, hx27007_0⟩ := Kd.at_int (Kd.R_reads' HO_10.out).2.2 x12_3 p27007 q27007
               cases e27007
               replace p27007 := eq_true p27007
               replace q27007 := eq_true q27007
               have p27008 : 0 ≤ ((ji20) : Int) := of_decide_eq_true (by assumption)
               have q27008 : (ji20) < (t27003.length : Int) := of_decide_eq_true (by assumption)
               obtain ⟨ad27008, e27008, hx27008_0⟩ := Kd.at_int (Kd.R_reads' HO_10.out).2.2 (ji20) p27008 q27008
               obtain rfl : ad27007 = ad27008 := (by injection e27008)
               replace p27008 := eq_true p27008
               replace q27008 := eq_true q27008
               go_wp2
               repeat (go_quiet (fail); try go_wp2)
               go_roundg k3
               case measure => have := HJ5.out; have := HJ12.out; have := HK3.out; omega
               case rel => exact ⟨(x11_3), (wrap64 (x12_3 + 1)), (by first | rfl | (simp; done) | (simp [*]; done)), H', ⟨by have := HJ5.out; have := HJ12.out; have := HK3.out; omega⟩, ⟨by (with_reducible repeat (first | apply Kd.R_alloc | apply Kd.R_drewN | apply Kd.R_drew)); exact HO_10.out⟩, ⟨by (with_reducible repeat (first | apply Kd.R_alloc | apply Kd.R_drewN | apply Kd.R_drew)); exact HO_11.out⟩, ⟨by repeat (first | exact HB.out | apply below_alloc | apply pw_below_drewN | apply below_drew1)⟩⟩
             ·rw [if_neg c22] at H
              exact absurd H (by simp)
            ·rw [if_neg c21] at H
             exact absurd H (by simp)
           ·rw [if_neg c18] at H
            exact absurd H (by simp)
          ·rw [if_neg c17] at H
           have c17b0 : decide (x12_3 < (t27003.length : Int)) = false := decide_eq_false c17
           clear c17
           obtain ⟨y27012, hy27012⟩ : ∃ y_ : List (S49), y_ = (([(⟨0, wrap64 ((wrap64 (t27001 - a1)) + 1)⟩ : S49)] : List (S49))) := ⟨_, rfl⟩
           replace H : ((span_Minus.f k3 y27012 x11_3).bind fun bt27015 => (some (bt27015.1, bt27015.2))) = some (r1, r2) := by first | (rw [hy27012]; with_reducible exact H) | (have H2_ := (Option.bind_some _ _).symm.trans H; rw [hy27012]; with_reducible exact H2_) | (have H2_ := (Option.bind_some _ _).symm.trans H; with_reducible exact H2_) | with_reducible exact H | (rw [hy27012]; exact H) | exact H
           have Ny27012 := Aside0.mk hy27012
           clear hy27012
           replace H := Option.bind_eq_some_iff.mp H
           obtain ⟨⟨t27015, t27016⟩, A280, H⟩ := H
           replace H : (some (t27015, t27016)) = some (r1, r2) := H
           have A28 := Aside0.mk A280
           clear A280
           simp only [Option.some.injEq, Prod.mk.injEq] at H
           obtain ⟨rfl, rfl⟩ := H
           obtain ⟨Ao29, co29, eo29⟩ := Kd.R_slice HO_10.out
           subst eo29
           go_wp2_with (first | ((with_reducible refine gate_dst (N := 85) rfl ?_); refine Kd.R_lit k49 _ 49 ?hg (N := 85) ?hd (xs := ([(⟨0, wrap64 ((wrap64 (t27001 - a1)) + 1)⟩ : S49)] : List (S49))) (inner := [.int .i64 0, .int .i64 (wrap64 ((wrap64 (t27001 - a1)) + 1))]) (ok := fun _ => True) (okp := fun _ => True) ?hr ?hp (fun _ hk => hk) trivial (Below.refl _ _) (Nat.le_refl _) (by simp) ?_; (case hd => rfl); (case hg => rfl); (case hr => first | (go_simp; done) | (go_simp; rfl)); (case hp => exact (Reps.c2 (show Kd.M k49 _ _ _ (⟨0, wrap64 ((wrap64 (t27001 - a1)) + 1)⟩ : S49) [.int .i64 0, .int .i64 (wrap64 ((wrap64 (t27001 - a1)) + 1))] from (k49_mkM _ _ _ (⟨0, wrap64 ((wrap64 (t27001 - a1)) + 1)⟩ : S49) )) (Reps.none _ _))); intro v27013 w30 ho31 hb hg_ hnew_; clear hg_ hnew_; (first | rw [← Ny27012.out] at ho31 | (simp only [Int.reduceToNat] at ho31; rw [← Ny27012.out] at ho31)); have n0_ := Aside0.mk (Kd.R_below (by (with_reducible repeat (first | apply Kd.R_alloc | apply Kd.R_drewN | apply Kd.R_drew)); exact HO_10.out) hb); have n1_ := Aside0.mk (Kd.R_elder' (by (with_reducible repeat (first | apply Kd.R_alloc | apply Kd.R_drewN | apply Kd.R_drew)); exact HO_11.out) (Kd.R_base ho31) hb); have n2_ := Aside0.mk (Kd.R_lower (Kd.R_new' ho31 (Kd.R_lt (by (with_reducible repeat (first | apply Kd.R_alloc | apply Kd.R_drewN | apply Kd.R_drew)); exact HO_11.out))) (below_size (by repeat (first | exact HB.out | apply below_alloc | apply pw_below_drewN | apply below_drew1)))); have n3_ := Aside0.mk (below_step (by repeat (first | exact HB.out | apply below_alloc | apply pw_below_drewN | apply below_drew1)) hb); clear HO_10; clear HO_11; clear HB; have HO_10 := n0_; have HO_11 := n1_; have HO27014 := n2_; have HB := n3_; clear n0_ n1_ n2_ n3_; clear hb ho31; obtain ⟨Ao32, co32, eo32⟩ := Kd.R_slice HO27014.out; subst eo32; obtain ⟨Ao33, co33, eo33⟩ := Kd.R_slice HO_11.out; subst eo33) | (go_at_call 43; (with_reducible refine (span_Minus.calls k3 _ _ y27012 _ _ x11_3 t27015 t27016 _ ?side1 ?side2 ?side3 ?side4 A28.out).mono ?_); (case side1 => repeat (first | exact (Kd.R_reads' HO27014.out).2.2 | (with_reducible refine Kd.C_alloc ?_ _) | (with_reducible refine Kd.C_drewN ?_ _) | (with_reducible refine Kd.C_drew ?_))); (case side2 => exact (Kd.R_reads' HO27014.out).2.1); (case side3 => repeat (first | exact (Kd.R_reads' HO_11.out).2.2 | (with_reducible refine Kd.C_alloc ?_ _) | (with_reducible refine Kd.C_drewN ?_ _) | (with_reducible refine Kd.C_drew ?_))); (case side4 => exact (Kd.R_reads' HO_11.out).2.1); rintro e w34 ⟨v27017, rfl, ho0, hb⟩; have n0_ := Aside0.mk (Kd.R_below (by (with_reducible repeat (first | apply Kd.R_alloc | apply Kd.R_drewN | apply Kd.R_drew)); exact HO_10.out) hb); have n1_ := Aside0.mk (Kd.R_elder' (by (with_reducible repeat (first | apply Kd.R_alloc | apply Kd.R_drewN | apply Kd.R_drew)); exact HO_11.out) (Kd.R_base ho0) hb); have n2_ := Aside0.mk (Kd.R_elder' (by (with_reducible repeat (first | apply Kd.R_alloc | apply Kd.R_drewN | apply Kd.R_drew)); exact HO27014.out) (Kd.R_base ho0) hb); have n3_ := Aside0.mk (Kd.R_lower (Kd.R_new' (Kd.R_new' ho0 (Kd.R_lt (by (with_reducible repeat (first | apply Kd.R_alloc | apply Kd.R_drewN | apply Kd.R_drew)); exact HO_11.out))) (Kd.R_lt (by (with_reducible repeat (first | apply Kd.R_alloc | apply Kd.R_drewN | apply Kd.R_drew)); exact HO27014.out))) (below_size (by repeat (first | exact HB.out | apply below_alloc | apply pw_below_drewN | apply below_drew1)))); have n4_ := Aside0.mk (below_step (by repeat (first | exact HB.out | apply below_alloc | apply pw_below_drewN | apply below_drew1)) hb); clear HO_10; clear HO_11; clear HO27014; clear HB; have HO_10 := n0_; have HO_11 := n1_; have HO27014 := n2_; have HO27018 := n3_; have HB := n4_; clear n0_ n1_ n2_ n3_ n4_; (try clear hb); (try clear hb2); (try clear hk); (try clear hi); (try clear ho0)))
           repeat (go_quiet (first | ((with_reducible refine gate_dst (N := 85) rfl ?_); refine Kd.R_lit k49 _ 49 ?hg (N := 85) ?hd (xs := ([(⟨0, wrap64 ((wrap64 (t27001 - a1)) + 1)⟩ : S49)] : List (S49))) (inner := [.int .i64 0, .int .i64 (wrap64 ((wrap64 (t27001 - a1)) + 1))]) (ok := fun _ => True) (okp := fun _ => True) ?hr ?hp (fun _ hk => hk) trivial (Below.refl _ _) (Nat.le_refl _) (by simp) ?_; (case hd => rfl); (case hg => rfl); (case hr => first | (go_simp; done) | (go_simp; rfl)); (case hp => exact (Reps.c2 (show Kd.M k49 _ _ _ (⟨0, wrap64 ((wrap64 (t27001 - a1)) + 1)⟩ : S49) [.int .i64 0, .int .i64 (wrap64 ((wrap64 (t27001 - a1)) + 1))] from (k49_mkM _ _ _ (⟨0, wrap64 ((wrap64 (t27001 - a1)) + 1)⟩ : S49) )) (Reps.none _ _))); intro v27013 w30 ho31 hb hg_ hnew_; clear hg_ hnew_; (first | rw [← Ny27012.out] at ho31 | (simp only [Int.reduceToNat] at ho31; rw [← Ny27012.out] at ho31)); have n0_ := Aside0.mk (Kd.R_below (by (with_reducible repeat (first | apply Kd.R_alloc | apply Kd.R_drewN | apply Kd.R_drew)); exact HO_10.out) hb); have n1_ := Aside0.mk (Kd.R_elder' (by (with_reducible repeat (first | apply Kd.R_alloc | apply Kd.R_drewN | apply Kd.R_drew)); exact HO_11.out) (Kd.R_base ho31) hb); have n2_ := Aside0.mk (Kd.R_lower (Kd.R_new' ho31 (Kd.R_lt (by (with_reducible repeat (first | apply Kd.R_alloc | apply Kd.R_drewN | apply Kd.R_drew)); exact HO_11.out))) (below_size (by repeat (first | exact HB.out | apply below_alloc | apply pw_below_drewN | apply below_drew1)))); have n3_ := Aside0.mk (below_step (by repeat (first | exact HB.out | apply below_alloc | apply pw_below_drewN | apply below_drew1)) hb); clear HO_10; clear HO_11; clear HB; have HO_10 := n0_; have HO_11 := n1_; have HO27014 := n2_; have HB := n3_; clear n0_ n1_ n2_ n3_; clear hb ho31; obtain ⟨Ao32, co32, eo32⟩ := Kd.R_slice HO27014.out; subst eo32; obtain ⟨Ao33, co33, eo33⟩ := Kd.R_slice HO_11.out; subst eo33) | (go_at_call 43; (with_reducible refine (span_Minus.calls k3 _ _ y27012 _ _ x11_3 t27015 t27016 _ ?side1 ?side2 ?side3 ?side4 A28.out).mono ?_); (case side1 => repeat (first | exact (Kd.R_reads' HO27014.out).2.2 | (with_reducible refine Kd.C_alloc ?_ _) | (with_reducible refine Kd.C_drewN ?_ _) | (with_reducible refine Kd.C_drew ?_))); (case side2 => exact (Kd.R_reads' HO27014.out).2.1); (case side3 => repeat (first | exact (Kd.R_reads' HO_11.out).2.2 | (with_reducible refine Kd.C_alloc ?_ _) | (with_reducible refine Kd.C_drewN ?_ _) | (with_reducible refine Kd.C_drew ?_))); (case side4 => exact (Kd.R_reads' HO_11.out).2.1); rintro e w34 ⟨v27017, rfl, ho0, hb⟩; have n0_ := Aside0.mk (Kd.R_below (by (with_reducible repeat (first | apply Kd.R_alloc | apply Kd.R_drewN | apply Kd.R_drew)); exact HO_10.out) hb); have n1_ := Aside0.mk (Kd.R_elder' (by (with_reducible repeat (first | apply Kd.R_alloc | apply Kd.R_drewN | apply Kd.R_drew)); exact HO_11.out) (Kd.R_base ho0) hb); have n2_ := Aside0.mk (Kd.R_elder' (by (with_reducible repeat (first | apply Kd.R_alloc | apply Kd.R_drewN | apply Kd.R_drew)); exact HO27014.out) (Kd.R_base ho0) hb); have n3_ := Aside0.mk (Kd.R_lower (Kd.R_new' (Kd.R_new' ho0 (Kd.R_lt (by (with_reducible repeat (first | apply Kd.R_alloc | apply Kd.R_drewN | apply Kd.R_drew)); exact HO_11.out))) (Kd.R_lt (by (with_reducible repeat (first | apply Kd.R_alloc | apply Kd.R_drewN | apply Kd.R_drew)); exact HO27014.out))) (below_size (by repeat (first | exact HB.out | apply below_alloc | apply pw_below_drewN | apply below_drew1)))); have n4_ := Aside0.mk (below_step (by repeat (first | exact HB.out | apply below_alloc | apply pw_below_drewN | apply below_drew1)) hb); clear HO_10; clear HO_11; clear HO27014; clear HB; have HO_10 := n0_; have HO_11 := n1_; have HO27014 := n2_; have HO27018 := n3_; have HB := n4_; clear n0_ n1_ n2_ n3_ n4_; (try clear hb); (try clear hb2); (try clear hk); (try clear hi); (try clear ho0))); try go_wp2_with (first | ((with_reducible refine gate_dst (N := 85) rfl ?_); refine Kd.R_lit k49 _ 49 ?hg (N := 85) ?hd (xs := ([(⟨0, wrap64 ((wrap64 (t27001 - a1)) + 1)⟩ : S49)] : List (S49))) (inner := [.int .i64 0, .int .i64 (wrap64 ((wrap64 (t27001 - a1)) + 1))]) (ok := fun _ => True) (okp := fun _ => True) ?hr ?hp (fun _ hk => hk) trivial (Below.refl _ _) (Nat.le_refl _) (by simp) ?_; (case hd => rfl); (case hg => rfl); (case hr => first | (go_simp; done) | (go_simp; rfl)); (case hp => exact (Reps.c2 (show Kd.M k49 _ _ _ (⟨0, wrap64 ((wrap64 (t27001 - a1)) + 1)⟩ : S49) [.int .i64 0, .int .i64 (wrap64 ((wrap64 (t27001 - a1)) + 1))] from (k49_mkM _ _ _ (⟨0, wrap64 ((wrap64 (t27001 - a1)) + 1)⟩ : S49) )) (Reps.none _ _))); intro v27013 w30 ho31 hb hg_ hnew_; clear hg_ hnew_; (first | rw [← Ny27012.out] at ho31 | (simp only [Int.reduceToNat] at ho31; rw [← Ny27012.out] at ho31)); have n0_ := Aside0.mk (Kd.R_below (by (with_reducible repeat (first | apply Kd.R_alloc | apply Kd.R_drewN | apply Kd.R_drew)); exact HO_10.out) hb); have n1_ := Aside0.mk (Kd.R_elder' (by (with_reducible repeat (first | apply Kd.R_alloc | apply Kd.R_drewN | apply Kd.R_drew)); exact HO_11.out) (Kd.R_base ho31) hb); have n2_ := Aside0.mk (Kd.R_lower (Kd.R_new' ho31 (Kd.R_lt (by (with_reducible repeat (first | apply Kd.R_alloc | apply Kd.R_drewN | apply Kd.R_drew)); exact HO_11.out))) (below_size (by repeat (first | exact HB.out | apply below_alloc | apply pw_below_drewN | apply below_drew1)))); have n3_ := Aside0.mk (below_step (by repeat (first | exact HB.out | apply below_alloc | apply pw_below_drewN | apply below_drew1)) hb); clear HO_10; clear HO_11; clear HB; have HO_10 := n0_; have HO_11 := n1_; have HO27014 := n2_; have HB := n3_; clear n0_ n1_ n2_ n3_; clear hb ho31; obtain ⟨Ao32, co32, eo32⟩ := Kd.R_slice HO27014.out; subst eo32; obtain ⟨Ao33, co33, eo33⟩ := Kd.R_slice HO_11.out; subst eo33) | (go_at_call 43; (with_reducible refine (span_Minus.calls k3 _ _ y27012 _ _ x11_3 t27015 t27016 _ ?side1 ?side2 ?side3 ?side4 A28.out).mono ?_); (case side1 => repeat (first | exact (Kd.R_reads' HO27014.out).2.2 | (with_reducible refine Kd.C_alloc ?_ _) | (with_reducible refine Kd.C_drewN ?_ _) | (with_reducible refine Kd.C_drew ?_))); (case side2 => exact (Kd.R_reads' HO27014.out).2.1); (case side3 => repeat (first | exact (Kd.R_reads' HO_11.out).2.2 | (with_reducible refine Kd.C_alloc ?_ _) | (with_reducible refine Kd.C_drewN ?_ _) | (with_reducible refine Kd.C_drew ?_))); (case side4 => exact (Kd.R_reads' HO_11.out).2.1); rintro e w34 ⟨v27017, rfl, ho0, hb⟩; have n0_ := Aside0.mk (Kd.R_below (by (with_reducible repeat (first | apply Kd.R_alloc | apply Kd.R_drewN | apply Kd.R_drew)); exact HO_10.out) hb); have n1_ := Aside0.mk (Kd.R_elder' (by (with_reducible repeat (first | apply Kd.R_alloc | apply Kd.R_drewN | apply Kd.R_drew)); exact HO_11.out) (Kd.R_base ho0) hb); have n2_ := Aside0.mk (Kd.R_elder' (by (with_reducible repeat (first | apply Kd.R_alloc | apply Kd.R_drewN | apply Kd.R_drew)); exact HO27014.out) (Kd.R_base ho0) hb); have n3_ := Aside0.mk (Kd.R_lower (Kd.R_new' (Kd.R_new' ho0 (Kd.R_lt (by (with_reducible repeat (first | apply Kd.R_alloc | apply Kd.R_drewN | apply Kd.R_drew)); exact HO_11.out))) (Kd.R_lt (by (with_reducible repeat (first | apply Kd.R_alloc | apply Kd.R_drewN | apply Kd.R_drew)); exact HO27014.out))) (below_size (by repeat (first | exact HB.out | apply below_alloc | apply pw_below_drewN | apply below_drew1)))); have n4_ := Aside0.mk (below_step (by repeat (first | exact HB.out | apply below_alloc | apply pw_below_drewN | apply below_drew1)) hb); clear HO_10; clear HO_11; clear HO27014; clear HB; have HO_10 := n0_; have HO_11 := n1_; have HO27014 := n2_; have HO27018 := n3_; have HB := n4_; clear n0_ n1_ n2_ n3_ n4_; (try clear hb); (try clear hb2); (try clear hk); (try clear hi); (try clear ho0))))
           go_ret2
           exact ⟨_, by first | rfl | (simp [errW_none, errW_some] <;> rfl) | (simp [*, errW_none, errW_some] <;> rfl), by (with_reducible repeat (first | apply Kd.R_alloc | apply Kd.R_drewN | apply Kd.R_drew)); exact Kd.R_mono HO27018.out (fun _ hk => trivial), by repeat (first | exact HB.out | apply below_alloc | apply pw_below_drewN | apply below_drew1)⟩
 ·rw [if_neg c5] at H
  have c5b0 : (t27002 == 0) = false := beq_eq_false_iff_ne.mpr c5
  have c5b1 : (t27002 != 0) = true := bne_iff_ne.mpr c5
  simp only [Option.some.injEq, Prod.mk.injEq] at H
  obtain ⟨rfl, rfl⟩ := H
  go_enter Try.func26, Try.ntmps26
  go_wp2_with (first | (go_at_call 29; (with_reducible refine (iso_Length.calls k _ _ l0 t27001 t27002 _ ?side1 ?side2 A4.out).mono ?_); (case side1 => repeat (first | exact HR0.out | (with_reducible refine Kd.C_alloc ?_ _) | (with_reducible refine Kd.C_drewN ?_ _) | (with_reducible refine Kd.C_drew ?_))); (case side2 => exact HC0.out); rintro e w35 ⟨rfl, hb⟩; have n0_ := Aside0.mk (below_step (by repeat (first | exact HB.out | apply below_alloc | apply pw_below_drewN | apply below_drew1)) hb); clear HB; have HB := n0_; clear n0_; (try clear hb); (try clear hb2); (try clear hk); (try clear hi)))
  repeat (go_quiet (first | (go_at_call 29; (with_reducible refine (iso_Length.calls k _ _ l0 t27001 t27002 _ ?side1 ?side2 A4.out).mono ?_); (case side1 => repeat (first | exact HR0.out | (with_reducible refine Kd.C_alloc ?_ _) | (with_reducible refine Kd.C_drewN ?_ _) | (with_reducible refine Kd.C_drew ?_))); (case side2 => exact HC0.out); rintro e w35 ⟨rfl, hb⟩; have n0_ := Aside0.mk (below_step (by repeat (first | exact HB.out | apply below_alloc | apply pw_below_drewN | apply below_drew1)) hb); clear HB; have HB := n0_; clear n0_; (try clear hb); (try clear hb2); (try clear hk); (try clear hi))); try go_wp2_with (first | (go_at_call 29; (with_reducible refine (iso_Length.calls k _ _ l0 t27001 t27002 _ ?side1 ?side2 A4.out).mono ?_); (case side1 => repeat (first | exact HR0.out | (with_reducible refine Kd.C_alloc ?_ _) | (with_reducible refine Kd.C_drewN ?_ _) | (with_reducible refine Kd.C_drew ?_))); (case side2 => exact HC0.out); rintro e w35 ⟨rfl, hb⟩; have n0_ := Aside0.mk (below_step (by repeat (first | exact HB.out | apply below_alloc | apply pw_below_drewN | apply below_drew1)) hb); clear HB; have HB := n0_; clear n0_; (try clear hb); (try clear hb2); (try clear hk); (try clear hi))))
  go_ret2
  exact ⟨_, by first | rfl | (simp [errW_none, errW_some] <;> rfl) | (simp [*, errW_none, errW_some] <;> rfl), by first | exact Kd.R_nil _ _ _ _ _ | exact Kd.N_nil _ _ _ _ _ | exact Kd.V_nil _ _ _ _ _ | exact Kd.Q_nil _ _ _ _ _ | exact Kd.S_nil _ _ _ _ _, by repeat (first | exact HB.out | apply below_alloc | apply pw_below_drewN | apply below_drew1)⟩

end Go.Proofs.Ytjkakgkiikjdmaa.G

namespace Go.Proofs.Ytjkakgkiikjdmaa.G
open Go.RowKit Go.Proofs.YtjkakgkiikjdmaaW.PrintWords Go.Proofs.YtjkakgkiikjdmaaW.PrintLast Go.Proofs.YtjkakgkiikjdmaaW.PrintMore
set_option linter.unusedVariables false
set_option linter.unusedSimpArgs false
theorem allowL_few (p : List Int) (length size most : Int) (hp : p.Pairwise (· < ·)) (hs : 1 ≤ size) (hm : 0 ≤ most) (hl : size ≤ length) (hv : ∀ y ∈ p, 0 ≤ y ∧ y ≤ 17179869184) : (allowL p length size most).length ≤ 1 + (badsOf p size most.toNat).length := by
  obtain ⟨h1, h2⟩ := allowL_ok p length size most hp hs hm hl hv
  have hb : ∀ z, 0 ≤ z → (Mem (badsOf p size most.toNat) z ↔ most.toNat < cnt40 p z size) := fun z hz => bads_cnt p size hs _ hp z hz
  have := sub_len ((allowL p length size most).map fun s => s.f0) (0 :: (badsOf p size most.toNat).map fun s => s.f1) (sep_starts h1) (fun z hz => by
    obtain ⟨s, hs, rfl⟩ := List.mem_map.1 hz
    have hin := sep_in h1 s hs
    obtain ⟨h3, h4, h5⟩ := (h2 s.f0).mp ⟨s, hs, Int.le_refl _, hin.2⟩
    by_cases h0 : s.f0 = 0
    · rw [h0]; simp
    · have hnot : ¬ (cnt40 p (s.f0 - 1) size : Int) ≤ most := fun hc => sep_before h1 s hs ((h2 (s.f0 - 1)).mpr ⟨by omega, by omega, hc⟩)
      obtain ⟨t, ht, t1, t2⟩ := (hb (s.f0 - 1) (by omega)).mpr (by omega)
      have ht2 : ¬ (t.f0 ≤ s.f0 ∧ s.f0 < t.f1) := fun ht2 => by
        have := (hb s.f0 h3).mp ⟨t, ht, ht2⟩
        omega
      have : t.f1 = s.f0 := by omega
      simp only [List.mem_cons, List.mem_map]
      exact .inr ⟨t, ht, this⟩)
  simp at this
  omega
theorem bads_check (p : List Int) (size : Int) (hs : 1 ≤ size) (most : Nat) (hl : p.length ≤ 255) (hv : ∀ y ∈ p, 0 ≤ y ∧ y ≤ 17179869184) : check04 (badsOf p size most) = 0 := by
  unfold check04
  have h1 := badsGo_len p size most (p.length - most) most
  rw [if_neg (by unfold badsOf; omega), if_neg]
  rintro ⟨s, hs2, hb⟩
  obtain ⟨j, h2, h3, e, h4⟩ := mem_badsGo _ _ _ _ _ _ hs2
  have hy := hv (p[j - most]'(by omega)) (List.getElem_mem _)
  rw [← rdI p (j - most) (by omega)] at hy
  unfold badS at hb
  rw [e] at hb h4
  dsimp only at hb h4
  omega
theorem minus_allow (p : List Int) (length size most : Int) (hp : p.Pairwise (· < ·)) (hs : 1 ≤ size) (hm : 0 ≤ most) (hl : size ≤ length) (hl2 : length ≤ 17179869184) (hv : ∀ y ∈ p, 0 ≤ y ∧ y ≤ 17179869184) (hn : p.length ≤ 255) : bothOf [⟨0, length - size + 1⟩] (badsOf p size most.toNat) 2 = (allowL p length size most, 0) := by
  have h1 := allowL_few p length size most hp hs hm hl hv
  have h2 := badsGo_len p size most.toNat (p.length - most.toNat) most.toNat
  have h3 : check04 [(⟨0, length - size + 1⟩ : S49)] = 0 := by
    unfold check04
    rw [if_neg (by simp), if_neg]
    rintro ⟨s, hs2, hb⟩
    rw [List.mem_singleton] at hs2
    subst hs2
    unfold badS at hb
    dsimp only at hb
    omega
  unfold bothOf
  rw [if_pos h3, if_pos (bads_check p size hs _ hn hv)]
  unfold allowL at h1 ⊢
  unfold badsOf at h1 ⊢
  rw [if_neg (by omega)]
theorem sallow_l0 (p : List Int) (length size most : Int) (hp : p.Pairwise (· < ·)) (hs : 1 ≤ size) (hs2 : size ≤ 17179869184) (hm : 0 ≤ most) (hm2 : most ≤ 8) (hl : size ≤ length) (hl2 : length ≤ 17179869184) (hv : ∀ y ∈ p, 0 ≤ y ∧ y ≤ 17179869184) (hn : p.length ≤ 255) :
    ∀ (d i : Nat) (o : List S49), p.length - i = d → most ≤ i → o.length ≤ i → Ends (fun k => splice_Allowed.l0 k size most length p o (i : Int)) (bothOf [⟨0, length - size + 1⟩] (o ++ badsGo p size most.toNat d i) 2) := by
  intro d
  have hw0 : wrap64 (wrap64 (length - size) + 1) = length - size + 1 := by unfold wrap64; omega
  induction d with
  | zero =>
    intro i o hd hi ho
    refine Ends.succ ?_
    simp only [splice_Allowed.l0, hw0]
    refine Ends.neg (by omega) (Ends.bind (minus_ends _ o) ?_)
    rw [badsGo, List.append_nil]
    exact Ends.ret _
  | succ d ih =>
    intro i o hd hi ho
    refine Ends.succ ?_
    have hx := hv p[i] (List.getElem_mem _)
    rw [← rdI p i (by omega)] at hx
    have hy := hv (p[i - most.toNat]'(by omega)) (List.getElem_mem _)
    rw [← rdI p (i - most.toNat) (by omega)] at hy
    have hw1 : wrap64 ((i : Int) - most) = ((i - most.toNat : Nat) : Int) := by unfold wrap64; omega
    have hw2 : wrap64 (wrap64 (rd p (i : Int) - size) + 1) = rd p (i : Int) - size + 1 := by unfold wrap64; omega
    have hmx : ∀ q : Int, mx 0 q = max 0 q := fun q => by unfold mx; split <;> omega
    simp only [splice_Allowed.l0, wrap_nat i (by omega), hw1, hw2, hmx]
    rw [badsGo]
    unfold badAt
    refine Ends.pos (by omega) (Ends.pos (by omega) (Ends.pos (by omega) (Ends.pos (by omega) ?_)))
    by_cases hk : max 0 (rd p (i : Int) - size + 1) < rd p ((i - most.toNat : Nat) : Int)
    · rw [if_pos hk]
      exact Ends.pos hk (Ends.pos (by omega) ((ih (i + 1) _ (by omega) (by omega) (by simp; omega)).congr (by rw [List.append_assoc])))
    · rw [if_neg hk, List.nil_append]
      exact Ends.neg hk (ih (i + 1) o (by omega) (by omega) (by omega))
theorem iLen2_ends (l : List S56) : Ends (fun k => iso_Length.f k l) (if check13 l = 0 then (tot13 l, 0) else (0, check13 l)) := by
  unfold iso_Length.f
  refine Ends.bind (icheck_ends l) ?_
  by_cases h : check13 l = 0
  · obtain ⟨hl, hg, _⟩ := check13_zero h
    rw [if_pos h]
    exact Ends.pos h (Ends.bind (ilength_ends l (by omega) (fun r hr => by have := fit_of (hg r hr); unfold fitR at this; omega)) (Ends.ret _))
  · rw [if_neg h]
    exact Ends.neg h (Ends.ret _)
def offA (size most : Int) : Prop := size < 1 ∨ size > 17179869184 ∨ most < 0 ∨ most > 8
theorem sallow_j0 (m : List S56) (size most : Int) (h : check13 m = 0) (z : Bool) (hz : z = true → offA size most) (hz2 : z = false → ¬ offA size most) : Ends (fun k => splice_Allowed.j0 k m size most (tot13 m) z) (allowOf m size most) := by
  refine Ends.succ ?_
  simp only [splice_Allowed.j0]
  unfold allowOf
  rw [if_pos h]
  cases z with
  | true =>
    have := hz rfl
    unfold offA at this
    rw [if_pos this]
    exact Ends.pos rfl (Ends.ret _)
  | false =>
    have ho := hz2 rfl
    unfold offA at ho
    rw [if_neg ho]
    refine Ends.neg (by simp) (Ends.bind (splaces_ends m) ?_)
    obtain ⟨h1, h2, h3⟩ := nrm_fit h
    obtain ⟨p1, p2⟩ := places_up (l := nrm (sem m)) (fun r hr => (h2 r hr).1)
    have p3 := places_len (nrm (sem m))
    have ht := (check13_zero h).2.2
    have e : placesOf m = (places (nrm (sem m)), 0) := by unfold placesOf; rw [if_pos h]
    rw [e]
    dsimp only
    have hv : ∀ y ∈ places (nrm (sem m)), 0 ≤ y ∧ y ≤ 17179869184 := fun y hy => by have := p2 y hy; omega
    refine Ends.pos rfl (Ends.succ ?_)
    simp only [splice_Allowed.j1]
    by_cases hs : tot13 m < size
    · rw [if_pos hs]
      exact Ends.pos (by simpa using hs) (Ends.ret _)
    · rw [if_neg hs]
      refine Ends.neg (by simpa using hs) ?_
      have hl := sallow_l0 (places (nrm (sem m))) (tot13 m) size most p1 (by omega) (by omega) (by omega) (by omega) (by omega) ht hv (by omega) ((places (nrm (sem m))).length - most.toNat) most.toNat [] rfl (by omega) (by simp)
      rw [show ((most.toNat : Nat) : Int) = most by omega, List.nil_append, show badsGo (places (nrm (sem m))) size most.toNat ((places (nrm (sem m))).length - most.toNat) most.toNat = badsOf (places (nrm (sem m))) size most.toNat from rfl, minus_allow _ _ _ _ p1 (by omega) (by omega) (by omega) ht hv (by omega)] at hl
      exact hl
theorem sallow_ends (m : List S56) (size most : Int) : Ends (fun k => splice_Allowed.f k m size most) (allowOf m size most) := by
  unfold splice_Allowed.f
  refine Ends.bind (iLen2_ends m) ?_
  by_cases h : check13 m = 0
  · rw [if_pos h]
    dsimp only
    refine Ends.pos rfl ?_
    by_cases h1 : size < 1
    · exact Ends.pos h1 (sallow_j0 m size most h true (fun _ => .inl h1) (by simp))
    · refine Ends.neg h1 ?_
      by_cases h2 : size > 17179869184
      · exact Ends.pos h2 (sallow_j0 m size most h true (fun _ => .inr (.inl h2)) (by simp))
      · refine Ends.neg h2 ?_
        by_cases h3 : most < 0
        · exact Ends.pos h3 (sallow_j0 m size most h true (fun _ => .inr (.inr (.inl h3))) (by simp))
        · refine Ends.neg h3 (sallow_j0 m size most h _ (fun hh => .inr (.inr (.inr (by simpa using hh)))) (fun hh => ?_))
          have := of_decide_eq_false hh
          unfold offA
          omega
  · rw [if_neg h]
    unfold allowOf
    rw [if_neg h]
    exact Ends.neg h (Ends.ret _)
end Go.Proofs.Ytjkakgkiikjdmaa.G

namespace Go.Proofs.Ytjkakgkiikjdmaa.G
open Go.RowKit Go.Proofs.YtjkakgkiikjdmaaW.PrintWords Go.Proofs.YtjkakgkiikjdmaaW.PrintLast Go.Proofs.YtjkakgkiikjdmaaW.PrintMore
set_option linter.unusedVariables false
set_option linter.unusedSimpArgs false
attribute [local go_sem] max2_int min2_int max_two min_two max_three min_three max_four min_four   -- for this text's walks alone
theorem nilC_papermilllaw40 {α : Type} (d : Kd α) (w : World) : Kd.C d w none ([] : List α).length [] := ⟨rfl, by simp, fun h => absurd h (by simp)⟩
def papermilllaw40_awake.f : Option Bool := some true
set_option maxHeartbeats 16000000 in
set_option maxRecDepth 100000 in
theorem papermilllaw40_awake.calls (r : Bool) (w : World) (h : papermilllaw40_awake.f = some r) : Calls Try.prog 12 #[] w fun e w' => e = .returned (.bool r) ∧ Below w.heap.size w w' := by
  obtain rfl := Option.some.inj h
  have HB := Aside0.mk (Below.refl w.heap.size w)
  go_enter Try.func12, Try.ntmps12
  go_wp2_with fail
  have qL1 : (w.alloc (.cells #[.int .i64 10, .int .i64 20, .int .i64 25, .int .i64 30] 49)).heap[w.heap.size]? = some (.cells #[.int .i64 10, .int .i64 20, .int .i64 25, .int .i64 30] 49 (0, 0)) := by have h_ := World.alloc_heap_new w (.cells #[.int .i64 10, .int .i64 20, .int .i64 25, .int .i64 30] 49); exact h_
  replace HB := Aside0.mk (below_alloc HB.out (.cells #[.int .i64 10, .int .i64 20, .int .i64 25, .int .i64 30] 49))
  generalize hw_ : (w.alloc (.cells #[.int .i64 10, .int .i64 20, .int .i64 25, .int .i64 30] 49)) = w2 at qL1 HB ⊢
  have L1 := Aside0.mk (C49_block ([⟨10, 20⟩, ⟨25, 30⟩] : List (S49)) qL1 rfl (by decide))
  clear hw_ qL1
  refine (splice_Keep.calls 100 _ _ ([⟨10, 20⟩, ⟨25, 30⟩] : List (S49)) 6 ([⟨0, 10⟩, ⟨30, 100⟩] : List (S49)) 0 _ L1.out (by decide) (show splice_Keep.f 100 ([⟨10, 20⟩, ⟨25, 30⟩] : List (S49)) 6 = some (([⟨0, 10⟩, ⟨30, 100⟩] : List (S49)), 0) from (by kernel_rfl))).mono ?_
  rintro e w3 ⟨v3_0, rfl, h3_0, hb⟩
  obtain ⟨A3_0, c3_0, e_, hc_L3_0, hr_L3_0⟩ := Kd.R_reads h3_0
  subst e_
  have L3_0 := Aside0.mk hr_L3_0
  have HCL3_0 := Aside0.mk hc_L3_0
  clear hr_L3_0 hc_L3_0 h3_0
  replace L1 := Aside0.mk (Kd.C_below L1.out hb)
  replace HB := Aside0.mk (below_then HB.out HB.out.size hb)
  clear hb
  clear L1
  go_wp2_with fail
  obtain ⟨kq1, hq1⟩ := (show Ends (fun k => splice_Runs.f k ([⟨0, 10⟩, ⟨30, 100⟩] : List (S49))) (([⟨0, 10, false⟩, ⟨30, 70, false⟩] : List (S56)), 0) from (sruns_ends ([⟨0, 10⟩, ⟨30, 100⟩] : List (S49))).congr (by kernel_rfl)).get
  refine (splice_Runs.calls kq1 _ _ ([⟨0, 10⟩, ⟨30, 100⟩] : List (S49)) ([⟨0, 10, false⟩, ⟨30, 70, false⟩] : List (S56)) 0 _ L3_0.out HCL3_0.out hq1).mono ?_
  rintro e w4 ⟨v4_0, rfl, h4_0, hb⟩
  obtain ⟨A4_0, c4_0, e_, hc_L4_0, hr_L4_0⟩ := Kd.R_reads h4_0
  subst e_
  have L4_0 := Aside0.mk hr_L4_0
  have HCL4_0 := Aside0.mk hc_L4_0
  clear hr_L4_0 hc_L4_0 h4_0
  replace L3_0 := Aside0.mk (Kd.C_below L3_0.out hb)
  replace HB := Aside0.mk (below_then HB.out HB.out.size hb)
  clear hb
  go_wp2_with fail
  obtain ⟨kq2, hq2⟩ := (show Ends (fun k => splice_Places.f k ([⟨0, 10, false⟩, ⟨30, 70, false⟩] : List (S56))) (([10] : List (Int)), 0) from (splaces_ends ([⟨0, 10, false⟩, ⟨30, 70, false⟩] : List (S56))).congr (by kernel_rfl)).get
  refine (splice_Places.calls kq2 _ _ ([⟨0, 10, false⟩, ⟨30, 70, false⟩] : List (S56)) ([10] : List (Int)) 0 _ L4_0.out HCL4_0.out hq2).mono ?_
  rintro e w5 ⟨v5_0, rfl, h5_0, hb⟩
  obtain ⟨A5_0, c5_0, e_, hc_L5_0, hr_L5_0⟩ := Kd.R_reads h5_0
  subst e_
  have L5_0 := Aside0.mk hr_L5_0
  have HCL5_0 := Aside0.mk hc_L5_0
  clear hr_L5_0 hc_L5_0 h5_0
  replace L3_0 := Aside0.mk (Kd.C_below L3_0.out hb)
  replace L4_0 := Aside0.mk (Kd.C_below L4_0.out hb)
  replace HB := Aside0.mk (below_then HB.out HB.out.size hb)
  clear hb
  go_wp2_with fail
  have qL6 : (w5.alloc (.cells #[.int .i64 0, .int .i64 5, .bool false, .int .i64 5, .int .i64 5, .bool false] 56)).heap[w5.heap.size]? = some (.cells #[.int .i64 0, .int .i64 5, .bool false, .int .i64 5, .int .i64 5, .bool false] 56 (0, 0)) := by have h_ := World.alloc_heap_new w5 (.cells #[.int .i64 0, .int .i64 5, .bool false, .int .i64 5, .int .i64 5, .bool false] 56); exact h_
  replace L3_0 := Aside0.mk (Kd.C_alloc L3_0.out (.cells #[.int .i64 0, .int .i64 5, .bool false, .int .i64 5, .int .i64 5, .bool false] 56))
  replace L4_0 := Aside0.mk (Kd.C_alloc L4_0.out (.cells #[.int .i64 0, .int .i64 5, .bool false, .int .i64 5, .int .i64 5, .bool false] 56))
  replace L5_0 := Aside0.mk (Kd.C_alloc L5_0.out (.cells #[.int .i64 0, .int .i64 5, .bool false, .int .i64 5, .int .i64 5, .bool false] 56))
  replace HB := Aside0.mk (below_alloc HB.out (.cells #[.int .i64 0, .int .i64 5, .bool false, .int .i64 5, .int .i64 5, .bool false] 56))
  generalize hw_ : (w5.alloc (.cells #[.int .i64 0, .int .i64 5, .bool false, .int .i64 5, .int .i64 5, .bool false] 56)) = w7 at qL6 L3_0 L4_0 L5_0 HB ⊢
  have L6 := Aside0.mk (C56_block ([⟨0, 5, false⟩, ⟨5, 5, false⟩] : List (S56)) qL6 rfl (by decide))
  clear hw_ qL6
  obtain ⟨kq3, hq3⟩ := (show Ends (fun k => splice_Count.f k ([⟨0, 5, false⟩, ⟨5, 5, false⟩] : List (S56))) (0, 0) from (scount_ends ([⟨0, 5, false⟩, ⟨5, 5, false⟩] : List (S56))).congr (by kernel_rfl)).get
  refine (splice_Count.calls kq3 _ _ ([⟨0, 5, false⟩, ⟨5, 5, false⟩] : List (S56)) 0 0 _ L6.out (by decide) hq3).mono ?_
  rintro e w8 ⟨rfl, hb⟩
  replace L3_0 := Aside0.mk (Kd.C_below L3_0.out hb)
  replace L4_0 := Aside0.mk (Kd.C_below L4_0.out hb)
  replace L5_0 := Aside0.mk (Kd.C_below L5_0.out hb)
  replace L6 := Aside0.mk (Kd.C_below L6.out hb)
  replace HB := Aside0.mk (below_then HB.out HB.out.size hb)
  clear hb
  clear L6
  go_wp2_with fail
  have qL9 : (w8.alloc (.cells #[.int .i64 10, .int .i64 20, .int .i64 25, .int .i64 30] 49)).heap[w8.heap.size]? = some (.cells #[.int .i64 10, .int .i64 20, .int .i64 25, .int .i64 30] 49 (0, 0)) := by have h_ := World.alloc_heap_new w8 (.cells #[.int .i64 10, .int .i64 20, .int .i64 25, .int .i64 30] 49); exact h_
  replace L3_0 := Aside0.mk (Kd.C_alloc L3_0.out (.cells #[.int .i64 10, .int .i64 20, .int .i64 25, .int .i64 30] 49))
  replace L4_0 := Aside0.mk (Kd.C_alloc L4_0.out (.cells #[.int .i64 10, .int .i64 20, .int .i64 25, .int .i64 30] 49))
  replace L5_0 := Aside0.mk (Kd.C_alloc L5_0.out (.cells #[.int .i64 10, .int .i64 20, .int .i64 25, .int .i64 30] 49))
  replace HB := Aside0.mk (below_alloc HB.out (.cells #[.int .i64 10, .int .i64 20, .int .i64 25, .int .i64 30] 49))
  generalize hw_ : (w8.alloc (.cells #[.int .i64 10, .int .i64 20, .int .i64 25, .int .i64 30] 49)) = w10 at qL9 L3_0 L4_0 L5_0 HB ⊢
  have L9 := Aside0.mk (C49_block ([⟨10, 20⟩, ⟨25, 30⟩] : List (S49)) qL9 rfl (by decide))
  clear hw_ qL9
  obtain ⟨kq4, hq4⟩ := (show Ends (fun k => splice_Waste.f k 100 ([⟨10, 20⟩, ⟨25, 30⟩] : List (S49)) 6) (20, 0) from (swaste_ends 100 ([⟨10, 20⟩, ⟨25, 30⟩] : List (S49)) 6).congr (by kernel_rfl)).get
  refine (splice_Waste.calls kq4 100 _ _ ([⟨10, 20⟩, ⟨25, 30⟩] : List (S49)) 6 20 0 _ L9.out (by decide) hq4).mono ?_
  rintro e w11 ⟨rfl, hb⟩
  replace L3_0 := Aside0.mk (Kd.C_below L3_0.out hb)
  replace L4_0 := Aside0.mk (Kd.C_below L4_0.out hb)
  replace L5_0 := Aside0.mk (Kd.C_below L5_0.out hb)
  replace L9 := Aside0.mk (Kd.C_below L9.out hb)
  replace HB := Aside0.mk (below_then HB.out HB.out.size hb)
  clear hb
  clear L9
  go_wp2_with fail
  have qL12 : (w11.alloc (.cells #[.int .i64 0, .int .i64 10, .bool false, .int .i64 30, .int .i64 90, .bool false] 56)).heap[w11.heap.size]? = some (.cells #[.int .i64 0, .int .i64 10, .bool false, .int .i64 30, .int .i64 90, .bool false] 56 (0, 0)) := by have h_ := World.alloc_heap_new w11 (.cells #[.int .i64 0, .int .i64 10, .bool false, .int .i64 30, .int .i64 90, .bool false] 56); exact h_
  replace L3_0 := Aside0.mk (Kd.C_alloc L3_0.out (.cells #[.int .i64 0, .int .i64 10, .bool false, .int .i64 30, .int .i64 90, .bool false] 56))
  replace L4_0 := Aside0.mk (Kd.C_alloc L4_0.out (.cells #[.int .i64 0, .int .i64 10, .bool false, .int .i64 30, .int .i64 90, .bool false] 56))
  replace L5_0 := Aside0.mk (Kd.C_alloc L5_0.out (.cells #[.int .i64 0, .int .i64 10, .bool false, .int .i64 30, .int .i64 90, .bool false] 56))
  replace HB := Aside0.mk (below_alloc HB.out (.cells #[.int .i64 0, .int .i64 10, .bool false, .int .i64 30, .int .i64 90, .bool false] 56))
  generalize hw_ : (w11.alloc (.cells #[.int .i64 0, .int .i64 10, .bool false, .int .i64 30, .int .i64 90, .bool false] 56)) = w13 at qL12 L3_0 L4_0 L5_0 HB ⊢
  have L12 := Aside0.mk (C56_block ([⟨0, 10, false⟩, ⟨30, 90, false⟩] : List (S56)) qL12 rfl (by decide))
  clear hw_ qL12
  obtain ⟨kq5, hq5⟩ := (show Ends (fun k => splice_Allowed.f k ([⟨0, 10, false⟩, ⟨30, 90, false⟩] : List (S56)) 20 0) (([⟨10, 81⟩] : List (S49)), 0) from (sallow_ends ([⟨0, 10, false⟩, ⟨30, 90, false⟩] : List (S56)) 20 0).congr (by kernel_rfl)).get
  refine (splice_Allowed.calls kq5 _ _ ([⟨0, 10, false⟩, ⟨30, 90, false⟩] : List (S56)) 20 0 ([⟨10, 81⟩] : List (S49)) 0 _ L12.out (by decide) hq5).mono ?_
  rintro e w14 ⟨v14_0, rfl, h14_0, hb⟩
  obtain ⟨A14_0, c14_0, e_, hc_L14_0, hr_L14_0⟩ := Kd.R_reads h14_0
  subst e_
  have L14_0 := Aside0.mk hr_L14_0
  have HCL14_0 := Aside0.mk hc_L14_0
  clear hr_L14_0 hc_L14_0 h14_0
  replace L3_0 := Aside0.mk (Kd.C_below L3_0.out hb)
  replace L4_0 := Aside0.mk (Kd.C_below L4_0.out hb)
  replace L5_0 := Aside0.mk (Kd.C_below L5_0.out hb)
  replace L12 := Aside0.mk (Kd.C_below L12.out hb)
  replace HB := Aside0.mk (below_then HB.out HB.out.size hb)
  clear hb
  clear L12
  go_wp2_with fail
  have qL15 : (w14.alloc (.cells #[.int .i64 0, .int .i64 10, .int .i64 30, .int .i64 100] 49)).heap[w14.heap.size]? = some (.cells #[.int .i64 0, .int .i64 10, .int .i64 30, .int .i64 100] 49 (0, 0)) := by have h_ := World.alloc_heap_new w14 (.cells #[.int .i64 0, .int .i64 10, .int .i64 30, .int .i64 100] 49); exact h_
  replace L3_0 := Aside0.mk (Kd.C_alloc L3_0.out (.cells #[.int .i64 0, .int .i64 10, .int .i64 30, .int .i64 100] 49))
  replace L4_0 := Aside0.mk (Kd.C_alloc L4_0.out (.cells #[.int .i64 0, .int .i64 10, .int .i64 30, .int .i64 100] 49))
  replace L5_0 := Aside0.mk (Kd.C_alloc L5_0.out (.cells #[.int .i64 0, .int .i64 10, .int .i64 30, .int .i64 100] 49))
  replace L14_0 := Aside0.mk (Kd.C_alloc L14_0.out (.cells #[.int .i64 0, .int .i64 10, .int .i64 30, .int .i64 100] 49))
  replace HB := Aside0.mk (below_alloc HB.out (.cells #[.int .i64 0, .int .i64 10, .int .i64 30, .int .i64 100] 49))
  generalize hw_ : (w14.alloc (.cells #[.int .i64 0, .int .i64 10, .int .i64 30, .int .i64 100] 49)) = w16 at qL15 L3_0 L4_0 L5_0 L14_0 HB ⊢
  have L15 := Aside0.mk (C49_block ([⟨0, 10⟩, ⟨30, 100⟩] : List (S49)) qL15 rfl (by decide))
  clear hw_ qL15
  refine (papermillref04_Same.calls 60 _ _ ([⟨0, 10⟩, ⟨30, 100⟩] : List (S49)) _ _ ([⟨0, 10⟩, ⟨30, 100⟩] : List (S49)) true _ L3_0.out HCL3_0.out L15.out (by decide) (show papermillref04_Same.f 60 ([⟨0, 10⟩, ⟨30, 100⟩] : List (S49)) ([⟨0, 10⟩, ⟨30, 100⟩] : List (S49)) = some true from (by kernel_rfl))).mono ?_
  rintro e w17 ⟨rfl, hd⟩
  replace L3_0 := Aside0.mk (Kd.C_below L3_0.out hd.below)
  replace L4_0 := Aside0.mk (Kd.C_below L4_0.out hd.below)
  replace L5_0 := Aside0.mk (Kd.C_below L5_0.out hd.below)
  replace L14_0 := Aside0.mk (Kd.C_below L14_0.out hd.below)
  replace L15 := Aside0.mk (Kd.C_below L15.out hd.below)
  replace HB := Aside0.mk (below_then HB.out HB.out.size hd.below)
  clear hd
  clear L3_0 HCL3_0
  clear L15
  go_wp2_with fail
  have qL18 : (w17.alloc (.cells #[.int .i64 0, .int .i64 10, .bool false, .int .i64 30, .int .i64 70, .bool false] 56)).heap[w17.heap.size]? = some (.cells #[.int .i64 0, .int .i64 10, .bool false, .int .i64 30, .int .i64 70, .bool false] 56 (0, 0)) := by have h_ := World.alloc_heap_new w17 (.cells #[.int .i64 0, .int .i64 10, .bool false, .int .i64 30, .int .i64 70, .bool false] 56); exact h_
  replace L4_0 := Aside0.mk (Kd.C_alloc L4_0.out (.cells #[.int .i64 0, .int .i64 10, .bool false, .int .i64 30, .int .i64 70, .bool false] 56))
  replace L5_0 := Aside0.mk (Kd.C_alloc L5_0.out (.cells #[.int .i64 0, .int .i64 10, .bool false, .int .i64 30, .int .i64 70, .bool false] 56))
  replace L14_0 := Aside0.mk (Kd.C_alloc L14_0.out (.cells #[.int .i64 0, .int .i64 10, .bool false, .int .i64 30, .int .i64 70, .bool false] 56))
  replace HB := Aside0.mk (below_alloc HB.out (.cells #[.int .i64 0, .int .i64 10, .bool false, .int .i64 30, .int .i64 70, .bool false] 56))
  generalize hw_ : (w17.alloc (.cells #[.int .i64 0, .int .i64 10, .bool false, .int .i64 30, .int .i64 70, .bool false] 56)) = w19 at qL18 L4_0 L5_0 L14_0 HB ⊢
  have L18 := Aside0.mk (C56_block ([⟨0, 10, false⟩, ⟨30, 70, false⟩] : List (S56)) qL18 rfl (by decide))
  clear hw_ qL18
  refine (papermillref13_Same.calls 60 _ _ ([⟨0, 10, false⟩, ⟨30, 70, false⟩] : List (S56)) _ _ ([⟨0, 10, false⟩, ⟨30, 70, false⟩] : List (S56)) true _ L4_0.out HCL4_0.out L18.out (by decide) (show papermillref13_Same.f 60 ([⟨0, 10, false⟩, ⟨30, 70, false⟩] : List (S56)) ([⟨0, 10, false⟩, ⟨30, 70, false⟩] : List (S56)) = some true from (by kernel_rfl))).mono ?_
  rintro e w20 ⟨rfl, hd⟩
  replace L4_0 := Aside0.mk (Kd.C_below L4_0.out hd.below)
  replace L5_0 := Aside0.mk (Kd.C_below L5_0.out hd.below)
  replace L14_0 := Aside0.mk (Kd.C_below L14_0.out hd.below)
  replace L18 := Aside0.mk (Kd.C_below L18.out hd.below)
  replace HB := Aside0.mk (below_then HB.out HB.out.size hd.below)
  clear hd
  clear L4_0 HCL4_0
  clear L18
  go_wp2_with fail
  have qL21 : (w20.alloc (.cells #[.int .i64 10] 3)).heap[w20.heap.size]? = some (.cells #[.int .i64 10] 3 (0, 0)) := by have h_ := World.alloc_heap_new w20 (.cells #[.int .i64 10] 3); exact h_
  replace L5_0 := Aside0.mk (Kd.C_alloc L5_0.out (.cells #[.int .i64 10] 3))
  replace L14_0 := Aside0.mk (Kd.C_alloc L14_0.out (.cells #[.int .i64 10] 3))
  replace HB := Aside0.mk (below_alloc HB.out (.cells #[.int .i64 10] 3))
  generalize hw_ : (w20.alloc (.cells #[.int .i64 10] 3)) = w22 at qL21 L5_0 L14_0 HB ⊢
  have L21 := Aside0.mk (CI_block ([10] : List (Int)) qL21 rfl (by decide))
  clear hw_ qL21
  refine (papermillref40_Ints.calls 60 _ _ ([10] : List (Int)) _ _ ([10] : List (Int)) true _ L5_0.out HCL5_0.out L21.out (by decide) (show papermillref40_Ints.f 60 ([10] : List (Int)) ([10] : List (Int)) = some true from (by kernel_rfl))).mono ?_
  rintro e w23 ⟨rfl, hd⟩
  replace L5_0 := Aside0.mk (Kd.C_below L5_0.out hd.below)
  replace L14_0 := Aside0.mk (Kd.C_below L14_0.out hd.below)
  replace L21 := Aside0.mk (Kd.C_below L21.out hd.below)
  replace HB := Aside0.mk (below_then HB.out HB.out.size hd.below)
  clear hd
  clear L5_0 HCL5_0
  clear L21
  go_wp2_with fail
  have qL24 : (w23.alloc (.cells #[.int .i64 10, .int .i64 81] 49)).heap[w23.heap.size]? = some (.cells #[.int .i64 10, .int .i64 81] 49 (0, 0)) := by have h_ := World.alloc_heap_new w23 (.cells #[.int .i64 10, .int .i64 81] 49); exact h_
  replace L14_0 := Aside0.mk (Kd.C_alloc L14_0.out (.cells #[.int .i64 10, .int .i64 81] 49))
  replace HB := Aside0.mk (below_alloc HB.out (.cells #[.int .i64 10, .int .i64 81] 49))
  generalize hw_ : (w23.alloc (.cells #[.int .i64 10, .int .i64 81] 49)) = w25 at qL24 L14_0 HB ⊢
  have L24 := Aside0.mk (C49_block ([⟨10, 81⟩] : List (S49)) qL24 rfl (by decide))
  clear hw_ qL24
  refine (papermillref04_Same.calls 60 _ _ ([⟨10, 81⟩] : List (S49)) _ _ ([⟨10, 81⟩] : List (S49)) true _ L14_0.out HCL14_0.out L24.out (by decide) (show papermillref04_Same.f 60 ([⟨10, 81⟩] : List (S49)) ([⟨10, 81⟩] : List (S49)) = some true from (by kernel_rfl))).mono ?_
  rintro e w26 ⟨rfl, hd⟩
  replace L14_0 := Aside0.mk (Kd.C_below L14_0.out hd.below)
  replace L24 := Aside0.mk (Kd.C_below L24.out hd.below)
  replace HB := Aside0.mk (below_then HB.out HB.out.size hd.below)
  clear hd
  clear L14_0 HCL14_0
  clear L24
  go_wp2
  go_ret
  exact ⟨rfl, HB.out⟩
end Go.Proofs.Ytjkakgkiikjdmaa.G
