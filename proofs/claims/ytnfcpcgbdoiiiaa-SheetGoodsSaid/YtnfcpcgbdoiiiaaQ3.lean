import Derived.Test.YtnfcpcgbdoiiiaaQ1
import Derived.Test.YtnfcpcgbdoiiiaaQ2
namespace Go.Proofs.Ytnfcpcgbdoiiiaa.G
open Go.RowKit Go.Proofs.YtnfcpcgbdoiiiaaW.PrintWords Go.Proofs.YtnfcpcgbdoiiiaaW.PrintLast Go.Proofs.YtnfcpcgbdoiiiaaW.PrintMore
set_option linter.unusedVariables false
set_option linter.unusedSimpArgs false
def Ends {α : Type} (g : Nat → Option α) (r : α) : Prop := ∃ n, ∀ k, n ≤ k → g k = some r
theorem Ends.const {α : Type} {a : Option α} {r : α} (h : a = some r) : Ends (fun _ => a) r := ⟨0, fun _ _ => h⟩
theorem Ends.ret {α : Type} (r : α) : Ends (fun _ => some r) r := ⟨0, fun _ _ => rfl⟩
theorem Ends.bind {α β : Type} {g : Nat → Option α} {f : Nat → α → Option β} {r : α} {q : β} (h : Ends g r) (k : Ends (fun k => f k r) q) : Ends (fun k => (g k).bind (f k)) q := by
  obtain ⟨n, h⟩ := h
  obtain ⟨m, k⟩ := k
  exact ⟨n + m, fun j hj => by show (g j).bind (f j) = _; rw [h j (by omega)]; exact k j (by omega)⟩
theorem Ends.pos {α : Type} {c : Prop} [Decidable c] {a b : Nat → Option α} {r : α} (hc : c) (h : Ends a r) : Ends (fun k => if c then a k else b k) r := by simpa only [if_pos hc] using h
theorem Ends.neg {α : Type} {c : Prop} [Decidable c] {a b : Nat → Option α} {r : α} (hc : ¬ c) (h : Ends b r) : Ends (fun k => if c then a k else b k) r := by simpa only [if_neg hc] using h
theorem Ends.succ {α : Type} {g : Nat → Option α} {r : α} (h : Ends (fun k => g (k + 1)) r) : Ends g r := by
  obtain ⟨n, h⟩ := h
  exact ⟨n + 1, fun k hk => by obtain ⟨j, rfl⟩ : ∃ j, k = j + 1 := ⟨k - 1, by omega⟩; exact h j (by omega)⟩
theorem Ends.get {α : Type} {g : Nat → Option α} {r : α} (h : Ends g r) : ∃ k, g k = some r := by obtain ⟨n, h⟩ := h; exact ⟨n, h n (Nat.le_refl _)⟩
theorem wrap_nat (i : Nat) (h : i < 4000000000000000000) : wrap64 ((i : Int) + 1) = ((i + 1 : Nat) : Int) := by unfold wrap64; omega
theorem wrap_pred (i : Nat) (h : i < 4000000000000000000) (h1 : 1 ≤ i) : wrap64 ((i : Int) - 1) = ((i - 1 : Nat) : Int) := by unfold wrap64; omega
theorem rdI (l : List Int) (i : Nat) (h : i < l.length) : rd l i = l[i] := by simp [rd, List.getD_eq_getElem?_getD, List.getElem?_eq_getElem h]
theorem Ends.at_ {α : Type} {g : Nat → Option α} {r : α} {k : Nat} (hg : ∀ k, LeO (g k) (g (k + 1))) (h : g k = some r) : Ends g r := ⟨k, fun j hj => at_rounds hg hj h⟩
theorem Ends.uniq {α : Type} {g : Nat → Option α} {r q : α} (h : Ends g r) (h2 : Ends g q) : r = q := by
  obtain ⟨n, h⟩ := h
  obtain ⟨m, h2⟩ := h2
  have e1 := h (n + m) (by omega)
  have e2 := h2 (n + m) (by omega)
  exact Option.some.inj (e1.symm.trans e2)
theorem Ends.congr {α : Type} {g : Nat → Option α} {r q : α} (h : Ends g r) (e : r = q) : Ends g q := e ▸ h
end Go.Proofs.Ytnfcpcgbdoiiiaa.G

namespace Go.Proofs.Ytnfcpcgbdoiiiaa.G
open Go.RowKit Go.Proofs.YtnfcpcgbdoiiiaaW.PrintWords Go.Proofs.YtnfcpcgbdoiiiaaW.PrintLast Go.Proofs.YtnfcpcgbdoiiiaaW.PrintMore
set_option linter.unusedVariables false
set_option linter.unusedSimpArgs false
theorem rd36 (l : List S50) (i : Nat) (h : i < l.length) : rd_T50 l i = l[i] := by simp [rd_T50, List.getD_eq_getElem?_getD, List.getElem?_eq_getElem h]
theorem drop36 (l : List S50) (i : Nat) (h : i < l.length) : l.drop i = rd_T50 l i :: l.drop (i + 1) := by rw [rd36 l i h]; exact List.drop_eq_getElem_cons h
theorem dropI (l : List Int) (i : Nat) (h : i < l.length) : l.drop i = rd l i :: l.drop (i + 1) := by rw [rdI l i h]; exact List.drop_eq_getElem_cons h

def badS (s : S50) : Prop := s.f0 < 0 ∨ s.f0 > s.f1 ∨ s.f1 > 17179869184
instance (s : S50) : Decidable (badS s) := by unfold badS; infer_instance
def check04 (l : List S50) : Int := if l.length > 256 then 8 else if ∃ s ∈ l, badS s then 1 else 0
theorem check04_zero {l : List S50} (h : check04 l = 0) : l.length ≤ 256 ∧ ∀ s ∈ l, ¬ badS s := by
  unfold check04 at h
  split at h
  · cases h
  · split at h
    · cases h
    · rename_i h1 h2; exact ⟨by omega, fun s hs k => h2 ⟨s, hs, k⟩⟩
def bothOf (a b : List S50) (w : Int) : List S50 × Int := if check04 a = 0 then (if check04 b = 0 then (if (combOf a b w).length > 256 then ([], 8) else (combOf a b w, 0)) else ([], check04 b)) else ([], check04 a)
end Go.Proofs.Ytnfcpcgbdoiiiaa.G

namespace Go.Proofs.Ytnfcpcgbdoiiiaa.G
open Go.RowKit Go.Proofs.YtnfcpcgbdoiiiaaW.PrintWords Go.Proofs.YtnfcpcgbdoiiiaaW.PrintLast Go.Proofs.YtnfcpcgbdoiiiaaW.PrintMore
set_option linter.unusedVariables false
set_option linter.unusedSimpArgs false
theorem scheck_l0 (l : List S50) (hl : l.length ≤ 256) : ∀ (d i : Nat), l.length - i = d → i ≤ l.length → Ends (fun k => span_Check.l0 k l (l.length : Int) (i : Int)) (if ∃ s ∈ l.drop i, badS s then 1 else 0) := by
  intro d
  induction d with
  | zero =>
    intro i hd hi
    refine Ends.succ ?_
    simp only [span_Check.l0]
    refine Ends.neg (by omega) ?_
    rw [List.drop_of_length_le (by omega), if_neg (by simp)]
    exact Ends.ret _
  | succ d ih =>
    intro i hd hi
    refine Ends.succ ?_
    simp only [span_Check.l0, wrap_nat i (by omega)]
    refine Ends.pos (by omega) (Ends.pos (by omega) (Ends.pos (by omega) ?_))
    rw [drop36 l i (by omega)]
    generalize rd_T50 l (i : Int) = x
    by_cases h : badS x
    · rw [if_pos ⟨x, by simp, h⟩]
      unfold badS at h
      by_cases h1 : x.f0 < 0
      · exact Ends.pos h1 (Ends.ret _)
      · refine Ends.neg h1 ?_
        by_cases h2 : x.f0 > x.f1
        · exact Ends.pos h2 (Ends.ret _)
        · exact Ends.neg h2 (Ends.pos (by omega) (Ends.ret _))
    · have e : (∃ s ∈ x :: l.drop (i + 1), badS s) ↔ ∃ s ∈ l.drop (i + 1), badS s := by simp [h]
      simp only [e]
      unfold badS at h
      exact Ends.neg (by omega) (Ends.neg (by omega) (Ends.neg (by omega) (ih (i + 1) (by omega) (by omega))))
theorem scheck_ends (l : List S50) : Ends (fun k => span_Check.f k l) (check04 l) := by
  unfold span_Check.f check04
  by_cases h : l.length > 256
  · rw [if_pos h]
    exact Ends.pos (by omega) (Ends.ret _)
  · rw [if_neg h]
    exact Ends.neg (by omega) (scheck_l0 l (by omega) _ 0 rfl (by omega))
def idx (a : List S50) (x : Int) : Nat := (a.takeWhile fun s => decide (s.f1 ≤ x)).length
theorem idx_le (a : List S50) (x : Int) : idx a x ≤ a.length := by unfold idx; exact (List.takeWhile_sublist _).length_le
theorem idx_cons (s : S50) (a : List S50) (x : Int) : idx (s :: a) x = if s.f1 ≤ x then idx a x + 1 else 0 := by
  unfold idx
  by_cases h : s.f1 ≤ x <;> simp [List.takeWhile_cons, h]
theorem idx_lt : ∀ (a : List S50) (x : Int) (i : Nat), i < idx a x → (rd_T50 a (i : Int)).f1 ≤ x
  | [], x, i, h => by simp [idx] at h
  | s :: a, x, i, h => by
    rw [idx_cons] at h
    split at h
    · cases i with
      | zero => simpa [rd_T50]
      | succ i => have := idx_lt a x i (by omega); simpa [rd_T50] using this
    · omega
theorem idx_at : ∀ (a : List S50) (x : Int), idx a x < a.length → x < (rd_T50 a (idx a x : Int)).f1
  | [], x, h => by simp at h
  | s :: a, x, h => by
    rw [idx_cons] at h ⊢
    split at h
    · rename_i h1
      rw [if_pos h1]
      have := idx_at a x (by simp at h; omega)
      simpa [rd_T50] using this
    · rename_i h1
      rw [if_neg h1]
      simp [rd_T50]; omega
theorem idx_mono (x y : Int) (h : x ≤ y) : ∀ (a : List S50), idx a x ≤ idx a y
  | [] => Nat.le_refl _
  | s :: a => by
    rw [idx_cons, idx_cons]
    have := idx_mono x y h a
    split
    · rw [if_pos (by omega)]; omega
    · omega
theorem hasOf_cons (s : S50) (a : List S50) (x : Int) : hasOf (s :: a) x = (decide (s.f0 ≤ x ∧ x < s.f1) || hasOf a x) := rfl
theorem sep_has {a : List S50} {e x : Int} (h : sep e a) (hx : x ≤ e) : hasOf a x = false := by
  cases hh : hasOf a x with
  | false => rfl
  | true => have := sep_mem h ((hasOf_iff a x).1 hh); omega
theorem has_idx : ∀ (a : List S50) (e x : Int), sep e a → hasOf a x = (decide (idx a x < a.length) && decide ((rd_T50 a (idx a x : Int)).f0 ≤ x))
  | [], e, x, _ => by simp [hasOf]
  | s :: a, e, x, h => by
    rw [hasOf_cons, idx_cons]
    by_cases h1 : s.f1 ≤ x
    · rw [if_pos h1, has_idx a s.f1 x h.2.2]
      have e1 : decide (s.f0 ≤ x ∧ x < s.f1) = false := by simp; omega
      rw [e1]
      simp [rd_T50]
    · rw [if_neg h1, sep_has h.2.2 (by omega)]
      have e1 : (s.f0 ≤ x ∧ x < s.f1) ↔ s.f0 ≤ x := by omega
      simp [e1, rd_T50]
section
variable (kf : Bool → Bool → Option Bool) (kp : Bool → Bool → Bool) (hk : ∀ p q, kf p q = some (kp p q))
variable (a b : List S50) (E : List Int)
theorem sets_l2 (out : List S50) (j x n : Int) (r : List S50 × Int) (ha : a.length < 1000000) (h : Ends (fun k => span_sets.j3 kf k a b E out (idx a x) j n x E (E.length : Int) n) r) :
    ∀ (d i : Nat), idx a x - i = d → i ≤ idx a x → Ends (fun k => span_sets.l2 kf k a b E out (i : Int) j n x E (E.length : Int) n) r := by
  have hle := idx_le a x
  intro d
  induction d with
  | zero =>
    intro i hd hi
    obtain rfl : i = idx a x := by omega
    refine Ends.succ ?_
    simp only [span_sets.l2, wrap_nat (idx a x) (by omega)]
    by_cases h1 : idx a x < a.length
    · exact Ends.pos (by omega) (Ends.pos (by omega) (Ends.neg (by have := idx_at a x h1; omega) h))
    · exact Ends.neg (by omega) h
  | succ d ih =>
    intro i hd hi
    refine Ends.succ ?_
    simp only [span_sets.l2, wrap_nat i (by omega)]
    exact Ends.pos (by omega) (Ends.pos (by omega) (Ends.pos (idx_lt a x i (by omega)) (ih (i + 1) (by omega) (by omega))))
theorem sets_l3 (out : List S50) (i x n : Int) (r : List S50 × Int) (hb : b.length < 1000000) (h : Ends (fun k => span_sets.j5 kf k a b E out i (idx b x) n x E (E.length : Int) n) r) :
    ∀ (d j : Nat), idx b x - j = d → j ≤ idx b x → Ends (fun k => span_sets.l3 kf k a b E out i (j : Int) n x E (E.length : Int) n) r := by
  have hle := idx_le b x
  intro d
  induction d with
  | zero =>
    intro j hd hj
    obtain rfl : j = idx b x := by omega
    refine Ends.succ ?_
    simp only [span_sets.l3, wrap_nat (idx b x) (by omega)]
    by_cases h1 : idx b x < b.length
    · exact Ends.pos (by omega) (Ends.pos (by omega) (Ends.neg (by have := idx_at b x h1; omega) h))
    · exact Ends.neg (by omega) h
  | succ d ih =>
    intro j hd hj
    refine Ends.succ ?_
    simp only [span_sets.l3, wrap_nat j (by omega)]
    exact Ends.pos (by omega) (Ends.pos (by omega) (Ends.pos (idx_lt b x j (by omega)) (ih (j + 1) (by omega) (by omega))))
def setsFin (o : List S50) : List S50 × Int := if (joinOf o).length > 256 then ([], 8) else (joinOf o, 0)
include hk in
theorem sets_j6 (ea eb : Int) (sa : sep ea a) (sb : sep eb b) (out : List S50) (n : Nat) (x : Int) (hn : n + 1 < E.length) (hE : E.length < 1000000) (ho : out.length < 1000000) (r : List S50 × Int)
    (h : Ends (fun k => span_sets.l1 kf k a b E (out ++ if kp (hasOf a x) (hasOf b x) = true then [⟨x, rd E ((n + 1 : Nat) : Int)⟩] else []) (idx a x) (idx b x) E (E.length : Int) ((n + 1 : Nat) : Int)) r) :
    Ends (fun k => span_sets.j6 kf k a b E out (idx a x) (idx b x) (n : Int) x E (E.length : Int) (n : Int) false) r := by
  refine Ends.succ ?_
  simp only [span_sets.j6, wrap_nat n (by omega), hk, Option.bind_some]
  have ga := has_idx a ea x sa
  have gb := has_idx b eb x sb
  have fin : ∀ c : Bool, c = kp (hasOf a x) (hasOf b x) → Ends (fun k => if c = true then (if 0 ≤ ((n + 1 : Nat) : Int) then (if ((n + 1 : Nat) : Int) < (E.length : Int) then (if out.length < 8796093022208 then (span_sets.l1 kf k a b E (out ++ [(⟨x, rd E ((n + 1 : Nat) : Int)⟩ : S50)]) (idx a x) (idx b x) E (E.length : Int) ((n + 1 : Nat) : Int)) else none) else none) else none) else (span_sets.l1 kf k a b E out (idx a x) (idx b x) E (E.length : Int) ((n + 1 : Nat) : Int))) r := by
    intro c hc
    subst hc
    cases hkp : kp (hasOf a x) (hasOf b x) with
    | true => rw [hkp] at h; exact Ends.pos rfl (Ends.pos (by omega) (Ends.pos (by omega) (Ends.pos (by omega) (by simpa using h))))
    | false => rw [hkp] at h; exact Ends.neg (by simp) (by simpa using h)
  refine Ends.neg (by simp) ?_
  by_cases h1 : idx a x < a.length
  · have ea1 : hasOf a x = decide ((rd_T50 a (idx a x : Int)).f0 ≤ x) := by rw [ga]; simp [h1]
    refine Ends.pos (by omega) (Ends.pos (by omega) ?_)
    by_cases h2 : idx b x < b.length
    · have eb1 : hasOf b x = decide ((rd_T50 b (idx b x : Int)).f0 ≤ x) := by rw [gb]; simp [h2]
      exact Ends.pos (by omega) (Ends.pos (by omega) (fin _ (by rw [ea1, eb1])))
    · have eb1 : hasOf b x = false := by rw [gb]; simp [h2]
      exact Ends.neg (by omega) (fin _ (by rw [ea1, eb1]))
  · have ea1 : hasOf a x = false := by rw [ga]; simp [h1]
    refine Ends.neg (by omega) ?_
    by_cases h2 : idx b x < b.length
    · have eb1 : hasOf b x = decide ((rd_T50 b (idx b x : Int)).f0 ≤ x) := by rw [gb]; simp [h2]
      exact Ends.pos (by omega) (Ends.pos (by omega) (fin _ (by rw [ea1, eb1])))
    · have eb1 : hasOf b x = false := by rw [gb]; simp [h2]
      exact Ends.neg (by omega) (fin _ (by rw [ea1, eb1]))
theorem sweep_in : ∀ (L : List Int), L.Pairwise (· ≤ ·) → ∀ s ∈ sweep kp a b L, s.f0 ∈ L ∧ s.f1 ∈ L ∧ s.f0 ≤ s.f1
  | [], _, s, h => by simp [sweep] at h
  | [c], _, s, h => by simp [sweep] at h
  | c :: d :: r, hp, s, h => by
    rw [List.pairwise_cons] at hp
    rw [sweep, List.mem_append] at h
    rcases h with h | h
    · split at h
      · obtain rfl := List.mem_singleton.1 h
        exact ⟨by simp, by simp, hp.1 d (by simp)⟩
      · simp at h
    · obtain ⟨h1, h2, h3⟩ := sweep_in (d :: r) hp.2 s h
      exact ⟨List.mem_cons_of_mem _ h1, List.mem_cons_of_mem _ h2, h3⟩
theorem sorted_rd (hE : E.Pairwise (· ≤ ·)) (n : Nat) (h : n + 1 < E.length) : rd E (n : Int) ≤ rd E ((n + 1 : Nat) : Int) := by
  rw [rdI E n (by omega), rdI E (n + 1) h]
  exact List.pairwise_iff_getElem.1 hE n (n + 1) (by omega) h (by omega)
include hk in
theorem sets_l1 (ea eb : Int) (sa : sep ea a) (sb : sep eb b) (ha : a.length < 1000000) (hb : b.length < 1000000) (hE : E.length < 400000) (hs : E.Pairwise (· ≤ ·)) : ∀ (d n i j : Nat) (out : List S50), E.length - n = d → n ≤ E.length → (n < E.length → i ≤ idx a (rd E (n : Int)) ∧ j ≤ idx b (rd E (n : Int))) → out.length + d < 400000 → okSpans (out ++ sweep kp a b (E.drop n)) = true →
    Ends (fun k => span_sets.l1 kf k a b E out (i : Int) (j : Int) E (E.length : Int) (n : Int)) (setsFin (out ++ sweep kp a b (E.drop n))) := by
  intro d
  induction d with
  | zero =>
    intro n i j out hd hn hij ho hok
    refine Ends.succ ?_
    simp only [span_sets.l1]
    refine Ends.neg (by omega) ?_
    rw [List.drop_of_length_le (by omega)] at hok ⊢
    rw [show sweep kp a b ([] : List Int) = [] from rfl, List.append_nil] at hok ⊢
    have e : span_joined.f out = some (joinOf out) := by unfold span_joined.f; rw [if_pos hok]
    simp only [e, Option.bind_some]
    unfold setsFin
    by_cases h : (joinOf out).length > 256
    · rw [if_pos h]; exact Ends.pos (by omega) (Ends.ret _)
    · rw [if_neg h]; exact Ends.neg (by omega) (Ends.ret _)
  | succ d ih =>
    intro n i j out hd hn hij ho hok
    refine Ends.succ ?_
    simp only [span_sets.l1, wrap_nat n (by omega)]
    refine Ends.pos (by omega) (Ends.pos (by omega) (Ends.pos (by omega) ?_))
    obtain ⟨hi, hj⟩ := hij (by omega)
    refine sets_l2 kf a b E out j _ n _ ha ?_ _ i rfl hi
    refine Ends.succ ?_
    simp only [span_sets.j3]
    refine sets_l3 kf a b E out _ _ n _ hb ?_ _ j rfl hj
    refine Ends.succ ?_
    simp only [span_sets.j5, wrap_nat n (by omega)]
    have next : ∀ (out' : List S50), out'.length + d < 400000 → out' ++ sweep kp a b (E.drop (n + 1)) = out ++ sweep kp a b (E.drop n) → Ends (fun k => span_sets.l1 kf k a b E out' (idx a (rd E (n : Int)) : Int) (idx b (rd E (n : Int)) : Int) E (E.length : Int) ((n + 1 : Nat) : Int)) (setsFin (out ++ sweep kp a b (E.drop n))) := by
      intro out' ho' he
      rw [← he]
      refine ih (n + 1) _ _ out' (by omega) (by omega) (fun h => ?_) ho' (by rw [he]; exact hok)
      exact ⟨idx_mono _ _ (sorted_rd E hs n h) a, idx_mono _ _ (sorted_rd E hs n h) b⟩
    by_cases hl : n + 1 = E.length
    · refine Ends.pos (by omega) (Ends.succ ?_)
      simp only [span_sets.j6, wrap_nat n (by omega)]
      refine Ends.pos trivial (next out (by omega) ?_)
      rw [dropI E n (by omega), List.drop_of_length_le (by omega)]
      simp [sweep]
    · refine Ends.neg (by omega) (Ends.pos (by omega) (Ends.pos (by omega) ?_))
      have e1 := dropI E n (by omega)
      have e2 := dropI E (n + 1) (by omega)
      by_cases hx : rd E ((n + 1 : Nat) : Int) = rd E (n : Int)
      · have hb : (rd E ((n + 1 : Nat) : Int) == rd E (n : Int)) = true := by simpa using hx
        simp only [hb]
        refine Ends.succ ?_
        simp only [span_sets.j6, wrap_nat n (by omega)]
        refine Ends.pos trivial (next out (by omega) ?_)
        rw [e1, e2, sweep, ← e2, hx]
        simp
      · have hb : (rd E ((n + 1 : Nat) : Int) == rd E (n : Int)) = false := by simpa using hx
        simp only [hb]
        refine sets_j6 kf kp hk a b E ea eb sa sb out n _ (by omega) (by omega) (by omega) _ (next _ ?_ ?_)
        · rw [List.length_append]; split <;> simp <;> omega
        · rw [e1, e2, sweep, ← e2, List.append_assoc]
          congr 2
          have hx' : rd E (n : Int) ≠ rd E ((n + 1 : Nat) : Int) := fun h => hx h.symm
          simp only [hx', ne_eq, not_false_eq_true, true_and]
include hk in
theorem sets_l0 (ea eb : Int) (sa : sep ea a) (sb : sep eb b) (ha : a.length ≤ 100000) (hb : b.length ≤ 100000) (c : List S50) (hc : c.length ≤ 200000) (hv : ∀ s ∈ c, (0 ≤ s.f0 ∧ s.f0 ≤ 17179869184) ∧ 0 ≤ s.f1 ∧ s.f1 ≤ 17179869184) (he : c.length ≤ 10000) : ∀ (d i : Nat) (o : List Int), c.length - i = d → i ≤ c.length → o.length + 2 * d ≤ 100000 → (∀ x ∈ o, 0 ≤ x ∧ x ≤ 17179869184) →
    Ends (fun k => span_sets.l0 kf k a b o c (c.length : Int) (i : Int)) (setsFin (sweep kp a b (sortI (o ++ (c.drop i).flatMap fun s => [s.f0, s.f1])))) := by
  intro d
  induction d with
  | zero =>
    intro i o hd hi ho hv1
    refine Ends.succ ?_
    simp only [span_sets.l0]
    refine Ends.neg (by omega) ?_
    rw [List.drop_of_length_le (by omega)]
    simp only [List.flatMap_nil, List.append_nil]
    have e : slices_Sort_int_int.f o = some (sortI o) := by unfold slices_Sort_int_int.f; rw [if_pos (by omega)]
    have hl : (sortI o).length = o.length := List.length_mergeSort _
    have hs : (sortI o).Pairwise (· ≤ ·) := by
      have := List.pairwise_mergeSort (le := fun a b : Int => decide (a ≤ b)) (by intro a b c h1 h2; simp at *; omega) (by intro a b; simp; omega) o
      exact this.imp (by intro a b h; simpa using h)
    simp only [e, Option.bind_some]
    rw [show (o.length : Int) = ((sortI o).length : Int) by rw [hl]]
    refine (sets_l1 kf kp hk a b (sortI o) ea eb sa sb (by omega) (by omega) (by omega) hs _ 0 0 0 [] rfl (by omega) (fun _ => ⟨Nat.zero_le _, Nat.zero_le _⟩) (by simp; omega) ?_).congr (by simp)
    rw [okSpans_iff]
    refine ⟨by have := sweep_len kp a b (sortI o); simp; omega, fun s h => ?_⟩
    have hm : ∀ x, x ∈ sortI o → x ∈ o := fun x hx => List.mem_mergeSort.1 hx
    obtain ⟨h1, h2, h3⟩ := sweep_in kp a b (sortI o) hs s (by simpa using h)
    have := hv1 _ (hm _ h1); have := hv1 _ (hm _ h2)
    exact ⟨by omega, h3, by omega⟩
  | succ d ih =>
    intro i o hd hi ho hv1
    refine Ends.succ ?_
    simp only [span_sets.l0, wrap_nat i (by omega), Option.bind_some]
    refine Ends.pos (by omega) (Ends.pos (by omega) (Ends.pos (by omega) (Ends.pos (by simp; omega) ?_)))
    rw [drop36 c i (by omega)]
    have hx := hv (rd_T50 c (i : Int)) (by rw [rd36 c i (by omega)]; exact List.getElem_mem _)
    refine (ih (i + 1) (o ++ [(rd_T50 c (i : Int)).f0, (rd_T50 c (i : Int)).f1]) (by omega) (by omega) (by simp; omega) ?_).congr (by simp)
    intro x h
    rcases List.mem_append.1 h with h | h
    · exact hv1 x h
    · simp at h; rcases h with rfl | rfl
      · exact hx.1
      · exact hx.2
theorem sweep_congr (kq : Bool → Bool → Bool) (h : ∀ x, kp (hasOf a x) (hasOf b x) = kq (hasOf a x) (hasOf b x)) : ∀ (L : List Int), sweep kp a b L = sweep kq a b L
  | [] => rfl
  | [c] => rfl
  | c :: d :: r => by rw [sweep, sweep, h, sweep_congr kq h (d :: r)]
theorem sortI_sorted (o : List Int) : (sortI o).Pairwise (· ≤ ·) := by
  have := List.pairwise_mergeSort (le := fun a b : Int => decide (a ≤ b)) (by intro a b c h1 h2; simp at *; omega) (by intro a b; simp; omega) o
  exact this.imp (by intro a b h; simpa using h)
theorem good04 {l : List S50} (h : check04 l = 0) : l.length ≤ 256 ∧ ∀ s ∈ l, 0 ≤ s.f0 ∧ s.f0 ≤ s.f1 ∧ s.f1 ≤ 17179869184 := by
  obtain ⟨h1, h2⟩ := check04_zero h
  exact ⟨h1, fun s hs => by have := h2 s hs; unfold badS at this; omega⟩
theorem okSpans_good {l : List S50} (h : check04 l = 0) : okSpans l = true := by
  obtain ⟨h1, h2⟩ := good04 h
  exact (okSpans_iff l).2 ⟨by omega, h2⟩
include hk in
theorem sets_ends (l0 l1 : List S50) (c : Bool) (w : Int) (hw : w = 0 ∨ w = 1 ∨ w = 2) (hkw : ∀ x, kp (hasOf (joinOf l0) x) (hasOf (joinOf l1) x) = wayOf w (hasOf (joinOf l0) x) (hasOf (joinOf l1) x)) : Ends (fun k => span_sets.f kf k l0 l1 c) (bothOf l0 l1 w) := by
  unfold span_sets.f bothOf
  refine Ends.bind (scheck_ends l0) ?_
  by_cases h0 : check04 l0 = 0
  · rw [if_pos h0]
    refine Ends.pos h0 (Ends.bind (scheck_ends l1) ?_)
    by_cases h1 : check04 l1 = 0
    · rw [if_pos h1]
      refine Ends.pos h1 ?_
      obtain ⟨g0, v0⟩ := good04 h0
      obtain ⟨g1, v1⟩ := good04 h1
      have u0 : ∀ s ∈ l0, -1 < s.f0 ∧ s.f0 ≤ s.f1 := fun s hs => by have := v0 s hs; omega
      have u1 : ∀ s ∈ l1, -1 < s.f0 ∧ s.f0 ≤ s.f1 := fun s hs => by have := v1 s hs; omega
      have n0 := joinOf_len l0 (-1) u0
      have n1 := joinOf_len l1 (-1) u1
      have b0 := joinOf_bound l0 (-1) 17179869184 (fun s hs => by have := v0 s hs; omega)
      have b1 := joinOf_bound l1 (-1) 17179869184 (fun s hs => by have := v1 s hs; omega)
      have e0 : span_joined.f l0 = some (joinOf l0) := by unfold span_joined.f; rw [if_pos (okSpans_good h0)]
      have e1 : span_joined.f l1 = some (joinOf l1) := by unfold span_joined.f; rw [if_pos (okSpans_good h1)]
      have e2 : slices_Concat_api_Span_api_Span_2.f (joinOf l0) (joinOf l1) = some (joinOf l0 ++ joinOf l1) := by unfold slices_Concat_api_Span_api_Span_2.f; rw [if_pos ⟨by omega, by omega⟩]
      simp only [e0, e1, e2, Option.bind_some]
      have hvv : ∀ s ∈ joinOf l0 ++ joinOf l1, (0 ≤ s.f0 ∧ s.f0 ≤ 17179869184) ∧ 0 ≤ s.f1 ∧ s.f1 ≤ 17179869184 := by
        intro s hs
        rcases List.mem_append.1 hs with hs | hs
        · have := b0 s hs; omega
        · have := b1 s hs; omega
      refine (sets_l0 kf kp hk (joinOf l0) (joinOf l1) (-1) (-1) (joinOf_ok l0 (-1) u0).1 (joinOf_ok l1 (-1) u1).1 (by omega) (by omega) (joinOf l0 ++ joinOf l1) (by simp; omega) hvv (by simp; omega) _ 0 [] rfl (by omega) (by simp; omega) (by simp)).congr ?_
      unfold setsFin
      rw [sweep_congr kp (joinOf l0) (joinOf l1) (wayOf w) hkw]
      rw [sets_comb l0 l1 w hw u0 u1 _ (sortI_sorted _) (fun x => by
        unfold sortI
        rw [List.mem_mergeSort]
        simp only [List.nil_append, List.drop_zero, List.mem_flatMap, List.mem_append, List.mem_cons, List.not_mem_nil, or_false])]
    · rw [if_neg h1]
      exact Ends.neg h1 (Ends.ret _)
  · rw [if_neg h0]
    exact Ends.neg h0 (Ends.ret _)
end
theorem wayOf_0 (p q : Bool) : wayOf 0 p q = (p || q) := by cases p <;> cases q <;> rfl
theorem wayOf_1 (p q : Bool) : wayOf 1 p q = (p && q) := by cases p <;> cases q <;> rfl
theorem wayOf_2 (p q : Bool) : wayOf 2 p q = (p && !q) := by cases p <;> cases q <;> rfl
end Go.Proofs.Ytnfcpcgbdoiiiaa.G

namespace Go.Proofs.Ytnfcpcgbdoiiiaa.G
open Go.RowKit Go.Proofs.YtnfcpcgbdoiiiaaW.PrintWords Go.Proofs.YtnfcpcgbdoiiiaaW.PrintLast Go.Proofs.YtnfcpcgbdoiiiaaW.PrintMore
attribute [local go_sem] max2_int min2_int max_two min_two max_three min_three max_four min_four   -- for this text's walks alone
set_option linter.unusedVariables false
set_option linter.unusedSimpArgs false

def span_Norm_1.f (a0 : Bool) (a1 : Bool) : Option (Bool) := some a0
set_option maxHeartbeats 8000000 in
set_option maxRecDepth 100000 in
theorem span_Norm_1.calls (a0 : Bool) (a1 : Bool) (r : Bool) (w : World) (h : span_Norm_1.f a0 a1 = some r) :
    Calls Try.prog 64 #[.bool a0, .bool a1] w fun e w' => e = .returned (.bool r) ∧ Drawn0 w w' := by
  have H : (some a0) = some r := h
  clear h
  obtain rfl := Option.some.inj H
  go_enter Try.func64, Try.ntmps64
  go_wp2
  go_ret
  exact ⟨by first | rfl | (simp; done) | (simp [*]; done), by repeat (first | exact Drawn0.refl _ | apply Drawn0.step)⟩

end Go.Proofs.Ytnfcpcgbdoiiiaa.G

namespace Go.Proofs.Ytnfcpcgbdoiiiaa.G
open Go.RowKit Go.Proofs.YtnfcpcgbdoiiiaaW.PrintWords Go.Proofs.YtnfcpcgbdoiiiaaW.PrintLast Go.Proofs.YtnfcpcgbdoiiiaaW.PrintMore
attribute [local go_sem] max2_int min2_int max_two min_two max_three min_three max_four min_four   -- for this text's walks alone
set_option linter.unusedVariables false
set_option linter.unusedSimpArgs false

def span_sets_Norm.f (k : Nat) (l0 : List (S50)) (l1 : List (S50)) (a2 : Bool) : Option ((List (S50)) × Int) := span_sets.f span_Norm_1.f k l0 l1 a2
theorem span_sets_Norm.mono : ∀ a0 a1 a2 k, LeO (span_sets_Norm.f k a0 a1 a2) (span_sets_Norm.f (k + 1) a0 a1 a2) := span_sets.mono span_Norm_1.f
theorem span_sets_Norm.calls (k : Nat) (A0 : Option Addr) (c0 : Nat) (l0 : List (S50)) (A1 : Option Addr) (c1 : Nat) (l1 : List (S50)) (a2 : Bool) (r1 : List (S50)) (r2 : Int) (w : World) (hr0 : Kd.C k50 w A0 l0.length l0) (hc0 : l0.length ≤ c0) (hr1 : Kd.C k50 w A1 l1.length l1) (hc1 : l1.length ≤ c1) (h : span_sets_Norm.f k l0 l1 a2 = some (r1, r2)) :
  Calls Try.prog 51 #[.slice A0 l0.length c0, .slice A1 l1.length c1, .func (.func 64) #[] #[]] w fun e w' => ∃ v0_ : Value, e = .returned (.tuple #[v0_, .int .i64 r2]) ∧ Kd.R k50 50 w' w.heap.size (fun _ => True) v0_ r1 ∧ Below w.heap.size w w' :=
  span_sets.calls span_Norm_1.f 64 (enters_of Try.func64 (by kernel_rfl) rfl) (fun a0 a1 r w h => span_Norm_1.calls a0 a1 r w h) k A0 c0 l0 A1 c1 l1 a2 r1 r2 w hr0 hc0 hr1 hc1 h
end Go.Proofs.Ytnfcpcgbdoiiiaa.G

namespace Go.Proofs.Ytnfcpcgbdoiiiaa.G
open Go.RowKit Go.Proofs.YtnfcpcgbdoiiiaaW.PrintWords Go.Proofs.YtnfcpcgbdoiiiaaW.PrintLast Go.Proofs.YtnfcpcgbdoiiiaaW.PrintMore
attribute [local go_sem] max2_int min2_int max_two min_two max_three min_three max_four min_four   -- for this text's walks alone
set_option linter.unusedVariables false
set_option linter.unusedSimpArgs false

def span_Norm.f (k : Nat) (l0 : List (S50)) : Option ((List (S50)) × Int) := (span_sets_Norm.f k l0 ([] : List (S50)) true).bind fun bt56001 => (some (bt56001.1, bt56001.2))
theorem span_Norm.mono : ∀ a0 k, LeO (span_Norm.f k a0) (span_Norm.f (k + 1) a0) := by
  intro a0 k
  unfold span_Norm.f
  repeat' first
      | (with_reducible exact span_sets_Norm.mono _ _ _ _)
      | (with_reducible exact LeO.refl _)
      | (with_reducible exact LeO.none _)
      | (with_reducible refine LeO.ite ?_ ?_)
      | (with_reducible refine LeO.bind ?_ (fun _ => ?_))
      | exact span_sets_Norm.mono _ _ _ _
      | exact LeO.none _
      | refine LeO.ite ?_ ?_
      | refine LeO.bind ?_ (fun _ => ?_)
set_option maxHeartbeats 8000000 in
set_option maxRecDepth 100000 in
theorem span_Norm.calls (k : Nat) (A0 : Option Addr) (c0 : Nat) (l0 : List (S50)) (r1 : List (S50)) (r2 : Int) (w : World) (hr0 : Kd.C k50 w A0 l0.length l0) (hc0 : l0.length ≤ c0) (h : span_Norm.f k l0 = some (r1, r2)) :
    Calls Try.prog 55 #[.slice A0 l0.length c0] w fun e w' => ∃ v0_ : Value, e = .returned (.tuple #[v0_, .int .i64 r2]) ∧ Kd.R k50 50 w' w.heap.size (fun _ => True) v0_ r1 ∧ Below w.heap.size w w' := by
  have HR0 := Aside0.mk hr0
  have HC0 := Aside0.mk hc0
  clear hr0 hc0
  have HB := Aside0.mk (Below.refl w.heap.size w)
  have H : ((span_sets_Norm.f k l0 ([] : List (S50)) true).bind fun bt56001 => (some (bt56001.1, bt56001.2))) = some (r1, r2) := h
  clear h
  replace H := Option.bind_eq_some_iff.mp H
  obtain ⟨⟨t56001, t56002⟩, A20, H⟩ := H
  replace H : (some (t56001, t56002)) = some (r1, r2) := H
  have A2 := Aside0.mk A20
  clear A20
  simp only [Option.some.injEq, Prod.mk.injEq] at H
  obtain ⟨rfl, rfl⟩ := H
  go_enter Try.func55, Try.ntmps55
  go_wp2_with (first | ((with_reducible refine gate_callee (f := 51) rfl ?_); refine goesL_ (some 5) rfl rfl Try.func51 (by kernel_rfl) rfl #[.slice A0 l0.length c0, .slice none 0 0, .func (.func 64) #[] #[]] rfl (by (try simp only [List.map_toArray, List.map_cons, List.map_nil]); first | done | rfl | (simp only [List.length_drop, List.length_take]; rfl)) ?_; (refine (span_sets_Norm.calls k _ _ l0 _ _ ([] : List (S50)) true t56001 t56002 _ ?side1 ?side2 ?side3 ?side4 A2.out).mono ?_); (case side1 => exact HR0.out); (case side2 => exact HC0.out); (case side3 => exact Kd.C_nil _ _); (case side4 => exact Nat.le_refl _); rintro e w3 ⟨v56003, rfl, ho0, hb⟩; refine ⟨_, rfl, ?_⟩; have n0_ := Aside0.mk (Kd.R_lower ho0 (below_size (by repeat (first | exact HB.out | apply below_alloc | apply pw_below_drewN | apply below_drew1)))); have n1_ := Aside0.mk (below_step (by repeat (first | exact HB.out | apply below_alloc | apply pw_below_drewN | apply below_drew1)) hb); clear HB; have HO56004 := n0_; have HB := n1_; clear n0_ n1_; (try clear hb); (try clear hb2); (try clear hk); (try clear hi); (try clear ho0)))
  go_ret2
  exact ⟨_, by first | rfl | (simp [errW_none, errW_some] <;> rfl) | (simp [*, errW_none, errW_some] <;> rfl), by exact HO56004.out, by repeat (first | exact HB.out | apply below_alloc | apply pw_below_drewN | apply below_drew1)⟩

end Go.Proofs.Ytnfcpcgbdoiiiaa.G

namespace Go.Proofs.Ytnfcpcgbdoiiiaa.G
open Go.RowKit Go.Proofs.YtnfcpcgbdoiiiaaW.PrintWords Go.Proofs.YtnfcpcgbdoiiiaaW.PrintLast Go.Proofs.YtnfcpcgbdoiiiaaW.PrintMore
attribute [local go_sem] max2_int min2_int max_two min_two max_three min_three max_four min_four   -- for this text's walks alone
set_option linter.unusedVariables false
set_option linter.unusedSimpArgs false

def span_Common_1.f (a0 : Bool) (a1 : Bool) : Option (Bool) := if a0 = true then (some a1) else (some false)
set_option maxHeartbeats 8000000 in
set_option maxRecDepth 100000 in
theorem span_Common_1.calls (a0 : Bool) (a1 : Bool) (r : Bool) (w : World) (h : span_Common_1.f a0 a1 = some r) :
    Calls Try.prog 52 #[.bool a0, .bool a1] w fun e w' => e = .returned (.bool r) ∧ Drawn0 w w' := by
  have H : (if a0 = true then (some a1) else (some false)) = some r := h
  clear h
  by_cases c3 : a0 = true
  · subst c3
    have H1 : (some a1) = some r := by rw [if_pos rfl] at H; exact H
    clear H
    have H := H1
    clear H1
    obtain rfl := Option.some.inj H
    go_enter Try.func52, Try.ntmps52
    go_wp2
    go_ret
    exact ⟨by first | rfl | (simp; done) | (simp [*]; done), by repeat (first | exact Drawn0.refl _ | apply Drawn0.step)⟩
  · replace c3 := Bool.eq_false_iff.mpr c3
    subst c3
    have H1 : (some false) = some r := by rw [if_neg (show ¬ (false = true) by decide)] at H; exact H
    clear H
    have H := H1
    clear H1
    obtain rfl := Option.some.inj H
    go_enter Try.func52, Try.ntmps52
    go_wp2
    go_ret
    exact ⟨by first | rfl | (simp; done) | (simp [*]; done), by repeat (first | exact Drawn0.refl _ | apply Drawn0.step)⟩

end Go.Proofs.Ytnfcpcgbdoiiiaa.G

namespace Go.Proofs.Ytnfcpcgbdoiiiaa.G
open Go.RowKit Go.Proofs.YtnfcpcgbdoiiiaaW.PrintWords Go.Proofs.YtnfcpcgbdoiiiaaW.PrintLast Go.Proofs.YtnfcpcgbdoiiiaaW.PrintMore
attribute [local go_sem] max2_int min2_int max_two min_two max_three min_three max_four min_four   -- for this text's walks alone
set_option linter.unusedVariables false
set_option linter.unusedSimpArgs false

def span_sets_Common.f (k : Nat) (l0 : List (S50)) (l1 : List (S50)) (a2 : Bool) : Option ((List (S50)) × Int) := span_sets.f span_Common_1.f k l0 l1 a2
theorem span_sets_Common.mono : ∀ a0 a1 a2 k, LeO (span_sets_Common.f k a0 a1 a2) (span_sets_Common.f (k + 1) a0 a1 a2) := span_sets.mono span_Common_1.f
theorem span_sets_Common.calls (k : Nat) (A0 : Option Addr) (c0 : Nat) (l0 : List (S50)) (A1 : Option Addr) (c1 : Nat) (l1 : List (S50)) (a2 : Bool) (r1 : List (S50)) (r2 : Int) (w : World) (hr0 : Kd.C k50 w A0 l0.length l0) (hc0 : l0.length ≤ c0) (hr1 : Kd.C k50 w A1 l1.length l1) (hc1 : l1.length ≤ c1) (h : span_sets_Common.f k l0 l1 a2 = some (r1, r2)) :
  Calls Try.prog 51 #[.slice A0 l0.length c0, .slice A1 l1.length c1, .func (.func 52) #[] #[]] w fun e w' => ∃ v0_ : Value, e = .returned (.tuple #[v0_, .int .i64 r2]) ∧ Kd.R k50 50 w' w.heap.size (fun _ => True) v0_ r1 ∧ Below w.heap.size w w' :=
  span_sets.calls span_Common_1.f 52 (enters_of Try.func52 (by kernel_rfl) rfl) (fun a0 a1 r w h => span_Common_1.calls a0 a1 r w h) k A0 c0 l0 A1 c1 l1 a2 r1 r2 w hr0 hc0 hr1 hc1 h
end Go.Proofs.Ytnfcpcgbdoiiiaa.G

namespace Go.Proofs.Ytnfcpcgbdoiiiaa.G
open Go.RowKit Go.Proofs.YtnfcpcgbdoiiiaaW.PrintWords Go.Proofs.YtnfcpcgbdoiiiaaW.PrintLast Go.Proofs.YtnfcpcgbdoiiiaaW.PrintMore
attribute [local go_sem] max2_int min2_int max_two min_two max_three min_three max_four min_four   -- for this text's walks alone
set_option linter.unusedVariables false
set_option linter.unusedSimpArgs false

def span_Common.f (k : Nat) (l0 : List (S50)) (l1 : List (S50)) : Option ((List (S50)) × Int) := (span_sets_Common.f k l0 l1 true).bind fun bt32001 => (some (bt32001.1, bt32001.2))
theorem span_Common.mono : ∀ a0 a1 k, LeO (span_Common.f k a0 a1) (span_Common.f (k + 1) a0 a1) := by
  intro a0 a1 k
  unfold span_Common.f
  repeat' first
      | (with_reducible exact span_sets_Common.mono _ _ _ _)
      | (with_reducible exact LeO.refl _)
      | (with_reducible exact LeO.none _)
      | (with_reducible refine LeO.ite ?_ ?_)
      | (with_reducible refine LeO.bind ?_ (fun _ => ?_))
      | exact span_sets_Common.mono _ _ _ _
      | exact LeO.none _
      | refine LeO.ite ?_ ?_
      | refine LeO.bind ?_ (fun _ => ?_)
set_option maxHeartbeats 8000000 in
set_option maxRecDepth 100000 in
theorem span_Common.calls (k : Nat) (A0 : Option Addr) (c0 : Nat) (l0 : List (S50)) (A1 : Option Addr) (c1 : Nat) (l1 : List (S50)) (r1 : List (S50)) (r2 : Int) (w : World) (hr0 : Kd.C k50 w A0 l0.length l0) (hc0 : l0.length ≤ c0) (hr1 : Kd.C k50 w A1 l1.length l1) (hc1 : l1.length ≤ c1) (h : span_Common.f k l0 l1 = some (r1, r2)) :
    Calls Try.prog 31 #[.slice A0 l0.length c0, .slice A1 l1.length c1] w fun e w' => ∃ v0_ : Value, e = .returned (.tuple #[v0_, .int .i64 r2]) ∧ Kd.R k50 50 w' w.heap.size (fun _ => True) v0_ r1 ∧ Below w.heap.size w w' := by
  have HR0 := Aside0.mk hr0
  have HC0 := Aside0.mk hc0
  clear hr0 hc0
  have HR1 := Aside0.mk hr1
  have HC1 := Aside0.mk hc1
  clear hr1 hc1
  have HB := Aside0.mk (Below.refl w.heap.size w)
  have H : ((span_sets_Common.f k l0 l1 true).bind fun bt32001 => (some (bt32001.1, bt32001.2))) = some (r1, r2) := h
  clear h
  replace H := Option.bind_eq_some_iff.mp H
  obtain ⟨⟨t32001, t32002⟩, A30, H⟩ := H
  replace H : (some (t32001, t32002)) = some (r1, r2) := H
  have A3 := Aside0.mk A30
  clear A30
  simp only [Option.some.injEq, Prod.mk.injEq] at H
  obtain ⟨rfl, rfl⟩ := H
  go_enter Try.func31, Try.ntmps31
  go_wp2_with (first | ((with_reducible refine gate_callee (f := 51) rfl ?_); refine goesL_ (some 8) rfl rfl Try.func51 (by kernel_rfl) rfl #[.slice A0 l0.length c0, .slice A1 l1.length c1, .func (.func 52) #[] #[]] rfl (by (try simp only [List.map_toArray, List.map_cons, List.map_nil]); first | done | rfl | (simp only [List.length_drop, List.length_take]; rfl)) ?_; (with_reducible refine (span_sets_Common.calls k _ _ l0 _ _ l1 true t32001 t32002 _ ?side1 ?side2 ?side3 ?side4 A3.out).mono ?_); (case side1 => exact HR0.out); (case side2 => exact HC0.out); (case side3 => exact HR1.out); (case side4 => exact HC1.out); rintro e w4 ⟨v32003, rfl, ho0, hb⟩; refine ⟨_, rfl, ?_⟩; have n0_ := Aside0.mk (Kd.R_lower ho0 (below_size (by repeat (first | exact HB.out | apply below_alloc | apply pw_below_drewN | apply below_drew1)))); have n1_ := Aside0.mk (below_step (by repeat (first | exact HB.out | apply below_alloc | apply pw_below_drewN | apply below_drew1)) hb); clear HB; have HO32004 := n0_; have HB := n1_; clear n0_ n1_; (try clear hb); (try clear hb2); (try clear hk); (try clear hi); (try clear ho0)))
  go_ret2
  exact ⟨_, by first | rfl | (simp [errW_none, errW_some] <;> rfl) | (simp [*, errW_none, errW_some] <;> rfl), by exact HO32004.out, by repeat (first | exact HB.out | apply below_alloc | apply pw_below_drewN | apply below_drew1)⟩

end Go.Proofs.Ytnfcpcgbdoiiiaa.G

namespace Go.Proofs.Ytnfcpcgbdoiiiaa.G
open Go.RowKit Go.Proofs.YtnfcpcgbdoiiiaaW.PrintWords Go.Proofs.YtnfcpcgbdoiiiaaW.PrintLast Go.Proofs.YtnfcpcgbdoiiiaaW.PrintMore
attribute [local go_sem] max2_int min2_int max_two min_two max_three min_three max_four min_four   -- for this text's walks alone
set_option linter.unusedVariables false
set_option linter.unusedSimpArgs false

def span_Minus_1.f (a0 : Bool) (a1 : Bool) : Option (Bool) := if a0 = true then (some (!a1)) else (some false)
set_option maxHeartbeats 8000000 in
set_option maxRecDepth 100000 in
theorem span_Minus_1.calls (a0 : Bool) (a1 : Bool) (r : Bool) (w : World) (h : span_Minus_1.f a0 a1 = some r) :
    Calls Try.prog 53 #[.bool a0, .bool a1] w fun e w' => e = .returned (.bool r) ∧ Drawn0 w w' := by
  have H : (if a0 = true then (some (!a1)) else (some false)) = some r := h
  clear h
  by_cases c3 : a0 = true
  · subst c3
    have H1 : (some (!a1)) = some r := by rw [if_pos rfl] at H; exact H
    clear H
    have H := H1
    clear H1
    obtain rfl := Option.some.inj H
    go_enter Try.func53, Try.ntmps53
    go_wp2
    go_ret
    exact ⟨by first | rfl | (simp; done) | (simp [*]; done), by repeat (first | exact Drawn0.refl _ | apply Drawn0.step)⟩
  · replace c3 := Bool.eq_false_iff.mpr c3
    subst c3
    have H1 : (some false) = some r := by rw [if_neg (show ¬ (false = true) by decide)] at H; exact H
    clear H
    have H := H1
    clear H1
    obtain rfl := Option.some.inj H
    go_enter Try.func53, Try.ntmps53
    go_wp2
    go_ret
    exact ⟨by first | rfl | (simp; done) | (simp [*]; done), by repeat (first | exact Drawn0.refl _ | apply Drawn0.step)⟩

end Go.Proofs.Ytnfcpcgbdoiiiaa.G

namespace Go.Proofs.Ytnfcpcgbdoiiiaa.G
open Go.RowKit Go.Proofs.YtnfcpcgbdoiiiaaW.PrintWords Go.Proofs.YtnfcpcgbdoiiiaaW.PrintLast Go.Proofs.YtnfcpcgbdoiiiaaW.PrintMore
attribute [local go_sem] max2_int min2_int max_two min_two max_three min_three max_four min_four   -- for this text's walks alone
set_option linter.unusedVariables false
set_option linter.unusedSimpArgs false

def span_sets_Minus.f (k : Nat) (l0 : List (S50)) (l1 : List (S50)) (a2 : Bool) : Option ((List (S50)) × Int) := span_sets.f span_Minus_1.f k l0 l1 a2
theorem span_sets_Minus.mono : ∀ a0 a1 a2 k, LeO (span_sets_Minus.f k a0 a1 a2) (span_sets_Minus.f (k + 1) a0 a1 a2) := span_sets.mono span_Minus_1.f
theorem span_sets_Minus.calls (k : Nat) (A0 : Option Addr) (c0 : Nat) (l0 : List (S50)) (A1 : Option Addr) (c1 : Nat) (l1 : List (S50)) (a2 : Bool) (r1 : List (S50)) (r2 : Int) (w : World) (hr0 : Kd.C k50 w A0 l0.length l0) (hc0 : l0.length ≤ c0) (hr1 : Kd.C k50 w A1 l1.length l1) (hc1 : l1.length ≤ c1) (h : span_sets_Minus.f k l0 l1 a2 = some (r1, r2)) :
  Calls Try.prog 51 #[.slice A0 l0.length c0, .slice A1 l1.length c1, .func (.func 53) #[] #[]] w fun e w' => ∃ v0_ : Value, e = .returned (.tuple #[v0_, .int .i64 r2]) ∧ Kd.R k50 50 w' w.heap.size (fun _ => True) v0_ r1 ∧ Below w.heap.size w w' :=
  span_sets.calls span_Minus_1.f 53 (enters_of Try.func53 (by kernel_rfl) rfl) (fun a0 a1 r w h => span_Minus_1.calls a0 a1 r w h) k A0 c0 l0 A1 c1 l1 a2 r1 r2 w hr0 hc0 hr1 hc1 h
end Go.Proofs.Ytnfcpcgbdoiiiaa.G

namespace Go.Proofs.Ytnfcpcgbdoiiiaa.G
open Go.RowKit Go.Proofs.YtnfcpcgbdoiiiaaW.PrintWords Go.Proofs.YtnfcpcgbdoiiiaaW.PrintLast Go.Proofs.YtnfcpcgbdoiiiaaW.PrintMore
attribute [local go_sem] max2_int min2_int max_two min_two max_three min_three max_four min_four   -- for this text's walks alone
set_option linter.unusedVariables false
set_option linter.unusedSimpArgs false

def span_Minus.f (k : Nat) (l0 : List (S50)) (l1 : List (S50)) : Option ((List (S50)) × Int) := (span_sets_Minus.f k l0 l1 true).bind fun bt35001 => (some (bt35001.1, bt35001.2))
theorem span_Minus.mono : ∀ a0 a1 k, LeO (span_Minus.f k a0 a1) (span_Minus.f (k + 1) a0 a1) := by
  intro a0 a1 k
  unfold span_Minus.f
  repeat' first
      | (with_reducible exact span_sets_Minus.mono _ _ _ _)
      | (with_reducible exact LeO.refl _)
      | (with_reducible exact LeO.none _)
      | (with_reducible refine LeO.ite ?_ ?_)
      | (with_reducible refine LeO.bind ?_ (fun _ => ?_))
      | exact span_sets_Minus.mono _ _ _ _
      | exact LeO.none _
      | refine LeO.ite ?_ ?_
      | refine LeO.bind ?_ (fun _ => ?_)
set_option maxHeartbeats 8000000 in
set_option maxRecDepth 100000 in
theorem span_Minus.calls (k : Nat) (A0 : Option Addr) (c0 : Nat) (l0 : List (S50)) (A1 : Option Addr) (c1 : Nat) (l1 : List (S50)) (r1 : List (S50)) (r2 : Int) (w : World) (hr0 : Kd.C k50 w A0 l0.length l0) (hc0 : l0.length ≤ c0) (hr1 : Kd.C k50 w A1 l1.length l1) (hc1 : l1.length ≤ c1) (h : span_Minus.f k l0 l1 = some (r1, r2)) :
    Calls Try.prog 34 #[.slice A0 l0.length c0, .slice A1 l1.length c1] w fun e w' => ∃ v0_ : Value, e = .returned (.tuple #[v0_, .int .i64 r2]) ∧ Kd.R k50 50 w' w.heap.size (fun _ => True) v0_ r1 ∧ Below w.heap.size w w' := by
  have HR0 := Aside0.mk hr0
  have HC0 := Aside0.mk hc0
  clear hr0 hc0
  have HR1 := Aside0.mk hr1
  have HC1 := Aside0.mk hc1
  clear hr1 hc1
  have HB := Aside0.mk (Below.refl w.heap.size w)
  have H : ((span_sets_Minus.f k l0 l1 true).bind fun bt35001 => (some (bt35001.1, bt35001.2))) = some (r1, r2) := h
  clear h
  replace H := Option.bind_eq_some_iff.mp H
  obtain ⟨⟨t35001, t35002⟩, A30, H⟩ := H
  replace H : (some (t35001, t35002)) = some (r1, r2) := H
  have A3 := Aside0.mk A30
  clear A30
  simp only [Option.some.injEq, Prod.mk.injEq] at H
  obtain ⟨rfl, rfl⟩ := H
  go_enter Try.func34, Try.ntmps34
  go_wp2_with (first | ((with_reducible refine gate_callee (f := 51) rfl ?_); refine goesL_ (some 8) rfl rfl Try.func51 (by kernel_rfl) rfl #[.slice A0 l0.length c0, .slice A1 l1.length c1, .func (.func 53) #[] #[]] rfl (by (try simp only [List.map_toArray, List.map_cons, List.map_nil]); first | done | rfl | (simp only [List.length_drop, List.length_take]; rfl)) ?_; (with_reducible refine (span_sets_Minus.calls k _ _ l0 _ _ l1 true t35001 t35002 _ ?side1 ?side2 ?side3 ?side4 A3.out).mono ?_); (case side1 => exact HR0.out); (case side2 => exact HC0.out); (case side3 => exact HR1.out); (case side4 => exact HC1.out); rintro e w4 ⟨v35003, rfl, ho0, hb⟩; refine ⟨_, rfl, ?_⟩; have n0_ := Aside0.mk (Kd.R_lower ho0 (below_size (by repeat (first | exact HB.out | apply below_alloc | apply pw_below_drewN | apply below_drew1)))); have n1_ := Aside0.mk (below_step (by repeat (first | exact HB.out | apply below_alloc | apply pw_below_drewN | apply below_drew1)) hb); clear HB; have HO35004 := n0_; have HB := n1_; clear n0_ n1_; (try clear hb); (try clear hb2); (try clear hk); (try clear hi); (try clear ho0)))
  go_ret2
  exact ⟨_, by first | rfl | (simp [errW_none, errW_some] <;> rfl) | (simp [*, errW_none, errW_some] <;> rfl), by exact HO35004.out, by repeat (first | exact HB.out | apply below_alloc | apply pw_below_drewN | apply below_drew1)⟩

end Go.Proofs.Ytnfcpcgbdoiiiaa.G

namespace Go.Proofs.Ytnfcpcgbdoiiiaa.G
open Go.RowKit Go.Proofs.YtnfcpcgbdoiiiaaW.PrintWords Go.Proofs.YtnfcpcgbdoiiiaaW.PrintLast Go.Proofs.YtnfcpcgbdoiiiaaW.PrintMore
attribute [local go_sem] max2_int min2_int max_two min_two max_three min_three max_four min_four   -- for this text's walks alone
set_option linter.unusedVariables false
set_option linter.unusedSimpArgs false

def span_Total.l0 : Nat → Int → List (S50) → Int → Int → Option (Int × Int)
 | 0, _, _, _, _ => none
 | k + 1, x5, x14, x15, x16 => if x16 < x15 then (if 0 ≤ x16 then (if x16 < (x14.length : Int) then (span_Total.l0 k (wrap64 (x5 + (wrap64 (((rd_T50 x14 x16).f1) - ((rd_T50 x14 x16).f0))))) x14 x15 (wrap64 (x16 + 1))) else (none)) else (none)) else (some (x5, 0))
def span_Total.f (k : Nat) (l0 : List (S50)) : Option (Int × Int) := (span_Check.f k l0).bind fun t44001 => (if t44001 = 0 then ((span_joined.f l0).bind fun t44002 => (span_Total.l0 k 0 t44002 (t44002.length : Int) 0)) else (some (0, t44001)))
theorem span_Total.mono_l : ∀ k, (∀ y0 y1 y2 y3, LeO (span_Total.l0 k y0 y1 y2 y3) (span_Total.l0 (k + 1) y0 y1 y2 y3))
 | 0 => fun _ _ _ _ r h => by simp [span_Total.l0] at h
 | k + 1 => by
  have ih0 := span_Total.mono_l k
  ·intro y0 y1 y2 y3
   unfold span_Total.l0
   repeat' first
   | (with_reducible exact ih0 _ _ _ _)
   | (with_reducible exact span_Check.mono _ _)
   | (with_reducible exact LeO.refl _)
   | (with_reducible exact LeO.none _)
   | (with_reducible refine LeO.ite ?_ ?_)
   | (with_reducible refine LeO.bind ?_ (fun _ => ?_))
   | exact ih0 _ _ _ _
   | exact span_Check.mono _ _
   | exact LeO.none _
   | refine LeO.ite ?_ ?_
   | refine LeO.bind ?_ (fun _ => ?_)
theorem span_Total.mono : ∀ a0 k, LeO (span_Total.f k a0) (span_Total.f (k + 1) a0) := by
 intro a0 k
 have ih0 := span_Total.mono_l k
 unfold span_Total.f
 repeat' first
   | (with_reducible exact ih0 _ _ _ _)
   | (with_reducible exact span_Check.mono _ _)
   | (with_reducible exact LeO.refl _)
   | (with_reducible exact LeO.none _)
   | (with_reducible refine LeO.ite ?_ ?_)
   | (with_reducible refine LeO.bind ?_ (fun _ => ?_))
   | exact ih0 _ _ _ _
   | exact span_Check.mono _ _
   | exact LeO.none _
   | refine LeO.ite ?_ ?_
   | refine LeO.bind ?_ (fun _ => ?_)
set_option maxHeartbeats 8000000 in
set_option maxRecDepth 100000 in
theorem span_Total.calls (k : Nat) (A0 : Option Addr) (c0 : Nat) (l0 : List (S50)) (r1 : Int) (r2 : Int) (w : World) (hr0 : Kd.C k50 w A0 l0.length l0) (hc0 : l0.length ≤ c0) (h : span_Total.f k l0 = some (r1, r2)) :
  Calls Try.prog 43 #[.slice A0 l0.length c0] w fun e w' => e = .returned (.tuple #[.int .i64 r1, .int .i64 r2]) ∧ Below w.heap.size w w' := by
 have hu50 := Try.underlying50
 have HR0 := Aside0.mk hr0
 have HC0 := Aside0.mk hc0
 clear hr0 hc0
 have HB := Aside0.mk (Below.refl w.heap.size w)
 have H : ((span_Check.f k l0).bind fun t44001 => (if t44001 = 0 then ((span_joined.f l0).bind fun t44002 => (span_Total.l0 k 0 t44002 (t44002.length : Int) 0)) else (some (0, t44001)))) = some (r1, r2) := h
 clear h
 replace H := Option.bind_eq_some_iff.mp H
 obtain ⟨t44001, A20, H⟩ := H
 replace H : (if t44001 = 0 then ((span_joined.f l0).bind fun t44002 => (span_Total.l0 k 0 t44002 (t44002.length : Int) 0)) else (some (0, t44001))) = some (r1, r2) := H
 have A2 := Aside0.mk A20
 clear A20
 by_cases c3 : t44001 = 0
 ·rw [if_pos c3] at H
  have c3b0 : (t44001 == 0) = true := beq_iff_eq.mpr c3
  have c3b1 : (t44001 != 0) = false := bne_eq_false_iff_eq.mpr c3
  clear c3
  replace H := Option.bind_eq_some_iff.mp H
  obtain ⟨t44002, A40, H⟩ := H
  replace H : (span_Total.l0 k 0 t44002 (t44002.length : Int) 0) = some (r1, r2) := H
  have A4 := Aside0.mk A40
  clear A40
  have H' := Aside0.mk H
  clear H
  go_enter Try.func43, Try.ntmps43
  go_wp2_with (first | ((with_reducible refine gate_callee (f := 33) rfl ?_); refine goesL_ (some 9) rfl rfl Try.func33 (by kernel_rfl) rfl #[.slice A0 l0.length c0] rfl (by (try simp only [List.map_toArray, List.map_cons, List.map_nil]); first | done | rfl | (simp only [List.length_drop, List.length_take]; rfl)) ?_; (with_reducible refine (span_Check.calls k _ _ l0 t44001 _ ?side1 ?side2 A2.out).mono ?_); (case side1 => exact HR0.out); (case side2 => exact HC0.out); rintro e w5 ⟨rfl, hb⟩; refine ⟨_, rfl, ?_⟩; have n0_ := Aside0.mk (below_step (by repeat (first | exact HB.out | apply below_alloc | apply pw_below_drewN | apply below_drew1)) hb); clear HB; have HB := n0_; clear n0_; (try clear hb); (try clear hb2); (try clear hk); (try clear hi)) | ((with_reducible refine gate_callee (f := 58) rfl ?_); refine goesL_ (some 14) rfl rfl Try.func58 (by kernel_rfl) rfl #[.slice A0 l0.length c0] rfl (by (try simp only [List.map_toArray, List.map_cons, List.map_nil]); first | done | rfl | (simp only [List.length_drop, List.length_take]; rfl)) ?_; (with_reducible refine (span_joined.calls _ _ l0 t44002 _ ?side1 ?side2 A4.out).mono ?_); (case side1 => exact (Kd.C_below HR0.out HB.out)); (case side2 => exact HC0.out); rintro e w6 ⟨v44003, rfl, ho0, hb⟩; refine ⟨_, rfl, ?_⟩; have n0_ := Aside0.mk (Kd.R_lower ho0 (below_size (by repeat (first | exact HB.out | apply below_alloc | apply pw_below_drewN | apply below_drew1)))); have n1_ := Aside0.mk (below_step (by repeat (first | exact HB.out | apply below_alloc | apply pw_below_drewN | apply below_drew1)) hb); clear HB; have HO44004 := n0_; have HB := n1_; clear n0_ n1_; (try clear hb); (try clear hb2); (try clear hk); (try clear hi); (try clear ho0); obtain ⟨Ao7, co7, eo7⟩ := Kd.R_slice HO44004.out; subst eo7))
  go_loopg [5, 16] k (fun kq v5 v16 w' => ∃ (x5_1 : Int) (x16_1 : Int), v5 = .int .i64 x5_1 ∧ v16 = .int .i64 x16_1 ∧ Aside0 (span_Total.l0 kq x5_1 t44002 (t44002.length : Int) x16_1 = some (r1, r2)) ∧ Aside0 (kq ≤ k) ∧ Aside0 (Kd.R k50 50 w' w.heap.size (fun _ => True) (.slice Ao7 t44002.length co7) t44002) ∧ Aside0 (Below w.heap.size w w'))
  case atStart => exact ⟨(0), (0), (by first | rfl | (simp; done) | (simp [*]; done)), (by first | rfl | (simp; done) | (simp [*]; done)), H', ⟨Nat.le_refl _⟩, ⟨HO44004.out⟩, ⟨by repeat (first | exact HB.out | apply below_alloc | apply pw_below_drewN | apply below_drew1)⟩⟩
  case round =>
   clear H'
   try clear p2
   try clear c3
   try clear c3b0
   try clear c3b1
   try clear c4
   try clear c5
   obtain ⟨x5_1, x16_1, rfl, rfl, HA, HK1, HO_14, HB⟩ := hrel
   cases gk with
   | zero => exact absurd HA.out (by simp [span_Total.l0])
   | succ k1 =>
    have H := HA.out
    clear HA
    simp only [span_Total.l0] at H
    by_cases c8 : x16_1 < (t44002.length : Int)
    ·rw [if_pos c8] at H
     have c8b0 : decide (x16_1 < (t44002.length : Int)) = true := decide_eq_true c8
     clear c8
     by_cases c9 : 0 ≤ x16_1
     ·rw [if_pos c9] at H
      have c9b0 : decide (0 ≤ x16_1) = true := decide_eq_true c9
      clear c9
      by_cases c10 : x16_1 < (t44002.length : Int)
      ·rw [if_pos c10] at H
       have c10b0 : decide (x16_1 < (t44002.length : Int)) = true := decide_eq_true c10
       clear c10
       have H' := Aside0.mk H
       clear H
       have p44005 : 0 ≤ (x16_1 : Int) := of_decide_eq_true (by assumption)
       have q44005 : x16_1 < (t44002.length : Int) := of_decide_eq_true (by assumption)
       obtain ⟨ad44005, e44005, hx44005_0, hx44005_1⟩ := at_T50 (Kd.R_reads' HO_14.out).2.2 x16_1 p44005 q44005
       cases e44005
       replace p44005 := eq_true p44005
       replace q44005 := eq_true q44005
       go_wp2_with (first | ((with_reducible refine gate_dst (N := 7) rfl ?_); refine box_event ?hg (N := 7) ?hd (cs := #[.int .i64 0, .int .i64 0]) (t := 50) ?hr ?_; (case hd => rfl); (case hg => rfl); (case hr => first | (go_simp; done) | (go_simp; rfl)); intro gb44006 hg w11 hbox hb; have n0_ := Aside0.mk (Kd.R_below (Kd.R_elderB (HO_14.out) gb44006 (Nat.le_of_eq hg.symm)) hb); have n1_ := Aside0.mk (below_step (by repeat (first | exact HB.out | apply below_alloc | apply pw_below_drewN | apply below_drew1)) hb); have n2_ := Aside0.mk (hbox); have n3_ := Aside0.mk ((by rw [hg]; exact (below_size (by repeat (first | exact HB.out | apply below_alloc | apply pw_below_drewN | apply below_drew1))) : w.heap.size ≤ gb44006)); have n4_ := Aside0.mk ((by rw [hg]; exact (below_size (by repeat (first | exact HB.out | apply below_alloc | apply pw_below_drewN | apply below_drew1))) : w.heap.size ≤ gb44006)); clear HO_14; clear HB; have HO_14 := n0_; have HB := n1_; have BK44006 := n2_; have GW44006 := n3_; have GE44006 := n4_; clear n0_ n1_ n2_ n3_ n4_; clear hb hbox hg; have hcz12_0 : w11.cell? ⟨gb44006, 0, none⟩ = some (.int .i64 0) := (blk_cell BK44006.out 0).trans rfl; have hcz12_1 : w11.cell? ⟨gb44006, 1, none⟩ = some (.int .i64 0) := (blk_cell BK44006.out 1).trans rfl; have hfz12_0 := blk_frozen BK44006.out 0; have hfz12_1 := blk_frozen BK44006.out 1))
       go_roundg k1
       case measure => have := HK1.out; omega
       case rel => exact ⟨(wrap64 (x5_1 + (wrap64 (((rd_T50 t44002 x16_1).f1) - ((rd_T50 t44002 x16_1).f0))))), (wrap64 (x16_1 + 1)), (by first | rfl | (simp; done) | (simp [*]; done)), (by first | rfl | (simp; done) | (simp [*]; done)), H', ⟨by have := HK1.out; omega⟩, ⟨by exact Kd.R_mono (Kd.R_far (p := ⟨gb44006, 1, none⟩) (Kd.R_far (p := ⟨gb44006, 0, none⟩) (Kd.R_mono HO_14.out (fun k_ hk => (⟨hk, hk.2⟩ : _ ∧ k_ ≠ gb44006))) (fun _ hk => hk.2) (.int .i64 ((rd_T50 t44002 x16_1).f0))) (fun _ hk => hk.2) (.int .i64 ((rd_T50 t44002 x16_1).f1))) (fun _ hk => trivial)⟩, ⟨by repeat (first | exact HB.out | apply below_alloc | apply pw_below_drewN | apply below_drew1 | refine below_set ?_ GE44006.out)⟩⟩
      ·rw [if_neg c10] at H
       exact absurd H (by simp)
     ·rw [if_neg c9] at H
      exact absurd H (by simp)
    ·rw [if_neg c8] at H
     have c8b0 : decide (x16_1 < (t44002.length : Int)) = false := decide_eq_false c8
     clear c8
     simp only [Option.some.injEq, Prod.mk.injEq] at H
     obtain ⟨rfl, rfl⟩ := H
     go_wp2
     go_ret2
     exact ⟨by first | rfl | (simp [errW_none, errW_some] <;> rfl) | (simp [*, errW_none, errW_some] <;> rfl), by repeat (first | exact HB.out | apply below_alloc | apply pw_below_drewN | apply below_drew1)⟩
 ·rw [if_neg c3] at H
  have c3b0 : (t44001 == 0) = false := beq_eq_false_iff_ne.mpr c3
  have c3b1 : (t44001 != 0) = true := bne_iff_ne.mpr c3
  simp only [Option.some.injEq, Prod.mk.injEq] at H
  obtain ⟨rfl, rfl⟩ := H
  go_enter Try.func43, Try.ntmps43
  go_wp2_with (first | ((with_reducible refine gate_callee (f := 33) rfl ?_); refine goesL_ (some 9) rfl rfl Try.func33 (by kernel_rfl) rfl #[.slice A0 l0.length c0] rfl (by (try simp only [List.map_toArray, List.map_cons, List.map_nil]); first | done | rfl | (simp only [List.length_drop, List.length_take]; rfl)) ?_; (with_reducible refine (span_Check.calls k _ _ l0 t44001 _ ?side1 ?side2 A2.out).mono ?_); (case side1 => exact HR0.out); (case side2 => exact HC0.out); rintro e w13 ⟨rfl, hb⟩; refine ⟨_, rfl, ?_⟩; have n0_ := Aside0.mk (below_step (by repeat (first | exact HB.out | apply below_alloc | apply pw_below_drewN | apply below_drew1)) hb); clear HB; have HB := n0_; clear n0_; (try clear hb); (try clear hb2); (try clear hk); (try clear hi)))
  go_ret2
  exact ⟨by first | rfl | (simp [errW_none, errW_some] <;> rfl) | (simp [*, errW_none, errW_some] <;> rfl), by repeat (first | exact HB.out | apply below_alloc | apply pw_below_drewN | apply below_drew1)⟩

end Go.Proofs.Ytnfcpcgbdoiiiaa.G

namespace Go.Proofs.Ytnfcpcgbdoiiiaa.G
open Go.RowKit Go.Proofs.YtnfcpcgbdoiiiaaW.PrintWords Go.Proofs.YtnfcpcgbdoiiiaaW.PrintLast Go.Proofs.YtnfcpcgbdoiiiaaW.PrintMore
set_option linter.unusedVariables false
set_option linter.unusedSimpArgs false
theorem hasOf_nil (x : Int) : hasOf [] x = false := rfl
theorem joinOf_nil : joinOf [] = [] := rfl
theorem norm_ends (l : List S50) : Ends (fun k => span_Norm.f k l) (bothOf l [] 0) := by
  unfold span_Norm.f span_sets_Norm.f
  exact Ends.bind (sets_ends span_Norm_1.f (fun p _ => p) (fun p q => rfl) l [] true 0 (.inl rfl) (fun x => by rw [wayOf_0, joinOf_nil, hasOf_nil, Bool.or_false])) (Ends.ret _)
theorem common_ends (a b : List S50) : Ends (fun k => span_Common.f k a b) (bothOf a b 1) := by
  unfold span_Common.f span_sets_Common.f
  exact Ends.bind (sets_ends span_Common_1.f (fun p q => p && q) (fun p q => by cases p <;> rfl) a b true 1 (.inr (.inl rfl)) (fun x => by rw [wayOf_1])) (Ends.ret _)
theorem minus_ends (a b : List S50) : Ends (fun k => span_Minus.f k a b) (bothOf a b 2) := by
  unfold span_Minus.f span_sets_Minus.f
  exact Ends.bind (sets_ends span_Minus_1.f (fun p q => p && !q) (fun p q => by cases p <;> rfl) a b true 2 (.inr (.inr rfl)) (fun x => by rw [wayOf_2])) (Ends.ret _)
def tot (l : List S50) : Int := (l.map fun s => s.f1 - s.f0).sum
theorem tot_cons (s : S50) (l : List S50) : tot (s :: l) = s.f1 - s.f0 + tot l := by simp [tot]
theorem total_l0 (l : List S50) (hl : l.length ≤ 1000) (hv : ∀ s ∈ l, 0 ≤ s.f0 ∧ s.f0 ≤ s.f1 ∧ s.f1 ≤ 17179869184) : ∀ (d i : Nat) (n : Int), l.length - i = d → i ≤ l.length → 0 ≤ n → n ≤ i * 17179869184 → Ends (fun k => span_Total.l0 k n l (l.length : Int) (i : Int)) (n + tot (l.drop i), 0) := by
  intro d
  induction d with
  | zero =>
    intro i n hd hi h0 h1
    refine Ends.succ ?_
    simp only [span_Total.l0]
    rw [List.drop_of_length_le (by omega)]
    exact Ends.neg (by omega) ((Ends.ret _).congr (by simp [tot]))
  | succ d ih =>
    intro i n hd hi h0 h1
    refine Ends.succ ?_
    have hx := hv (rd_T50 l (i : Int)) (by rw [rd36 l i (by omega)]; exact List.getElem_mem _)
    rw [drop36 l i (by omega), tot_cons]
    simp only [span_Total.l0, wrap_nat i (by omega)]
    generalize rd_T50 l (i : Int) = s at *
    have e1 : wrap64 (s.f1 - s.f0) = s.f1 - s.f0 := by unfold wrap64; omega
    have e2 : wrap64 (n + (s.f1 - s.f0)) = n + (s.f1 - s.f0) := by unfold wrap64; omega
    simp only [e1, e2]
    exact Ends.pos (by omega) (Ends.pos (by omega) (Ends.pos (by omega) ((ih (i + 1) (n + (s.f1 - s.f0)) (by omega) (by omega) (by omega) (by omega)).congr (by rw [Int.add_assoc]))))
def totalOf (l : List S50) : Int × Int := if check04 l = 0 then (tot (joinOf l), 0) else (0, check04 l)
theorem total_ends (l : List S50) : Ends (fun k => span_Total.f k l) (totalOf l) := by
  unfold span_Total.f totalOf
  refine Ends.bind (scheck_ends l) ?_
  by_cases h0 : check04 l = 0
  · rw [if_pos h0]
    obtain ⟨g0, v0⟩ := good04 h0
    have n0 := joinOf_len l (-1) (fun s hs => by have := v0 s hs; omega)
    have b0 := joinOf_bound l (-1) 17179869184 (fun s hs => by have := v0 s hs; omega)
    have e0 : span_joined.f l = some (joinOf l) := by unfold span_joined.f; rw [if_pos (okSpans_good h0)]
    simp only [e0, Option.bind_some]
    exact Ends.pos h0 ((total_l0 (joinOf l) (by omega) (fun s hs => by have := b0 s hs; omega) _ 0 0 rfl (by omega) (by omega) (by omega)).congr (by simp))
  · rw [if_neg h0]
    exact Ends.neg h0 (Ends.ret _)
theorem norm_fits {l : List S50} (h0 : check04 l = 0) : bothOf l [] 0 = (joinOf l, 0) := by
  obtain ⟨g0, v0⟩ := good04 h0
  have n0 := joinOf_len l (-1) (fun s hs => by have := v0 s hs; omega)
  unfold bothOf
  rw [if_pos h0, if_pos (show check04 [] = 0 from rfl)]
  unfold joinOf at n0 ⊢
  rw [if_neg (by omega)]
def movable (by_ : Int) (s : S50) : Prop := -s.f0 ≤ by_ ∧ by_ ≤ 17179869184 - s.f1
instance (by_ : Int) (s : S50) : Decidable (movable by_ s) := by unfold movable; infer_instance
def shift (by_ : Int) (s : S50) : S50 := ⟨s.f0 + by_, s.f1 + by_⟩
def moveOf (l : List S50) (by_ : Int) : List S50 × Int := if check04 l = 0 then (if ∀ s ∈ l, movable by_ s then (l.map (shift by_), 0) else ([], 1)) else ([], check04 l)
end Go.Proofs.Ytnfcpcgbdoiiiaa.G

namespace Go.Proofs.Ytnfcpcgbdoiiiaa.G
open Go.RowKit Go.Proofs.YtnfcpcgbdoiiiaaW.PrintWords Go.Proofs.YtnfcpcgbdoiiiaaW.PrintLast Go.Proofs.YtnfcpcgbdoiiiaaW.PrintMore
set_option linter.unusedVariables false
set_option linter.unusedSimpArgs false
theorem flat_get {α : Type} (enc : α → List Value) (sz : Nat) (hs : ∀ x, (enc x).length = sz) : ∀ (xs : List α) (j i : Nat) (p : α), xs[j]? = some p → i < sz → (xs.flatMap enc)[j * sz + i]? = (enc p)[i]?
  | [], j, i, p, h, _ => by simp at h
  | x :: xs, 0, i, p, h, hi => by
    simp at h; subst h
    rw [List.flatMap_cons, Nat.zero_mul, Nat.zero_add, List.getElem?_append_left (by rw [hs]; exact hi)]
  | x :: xs, j + 1, i, p, h, hi => by
    rw [List.flatMap_cons, List.getElem?_append_right (by rw [hs, Nat.add_mul]; omega), hs, show (j + 1) * sz + i - sz = j * sz + i by rw [Nat.add_mul]; omega]
    exact flat_get enc sz hs xs j i p (by simpa using h) hi
theorem C_block {α : Type} (d : Kd α) {W : World} {g e : Nat} {cells : Array Value} (xs : List α) (enc : α → List Value) (hK : ∀ x, d.K W x (enc x)) (hb : W.heap[g]? = some (.cells cells e (0, 0))) (hc : cells.toList = xs.flatMap enc) (hl : xs.length ≤ 9223372036854775807) :
    Kd.C d W (some ⟨g, 0, none⟩) xs.length xs :=
  ⟨rfl, hl, fun _ => ⟨_, rfl, fun j p hj => ⟨enc p, d.K_len (hK p), hK p, fun i u hu => by
    rw [add_plain, blk_cell hb]
    have hi : i < d.sz := by rw [← d.K_len (hK p)]; exact (List.getElem?_eq_some_iff.1 hu).1
    have := flat_get enc d.sz (fun x => d.K_len (hK x)) xs j i p hj hi
    rw [← hc, Array.getElem?_toList] at this
    rw [this]; exact hu⟩⟩⟩
theorem CI_block {W : World} {g : Nat} {cells : Array Value} (xs : List Int) (hb : W.heap[g]? = some (.cells cells 3 (0, 0))) (hc : cells.toList = xs.flatMap fun x => [.int .i64 x]) (hl : xs.length ≤ 1000) : Kd.C (Kd.int .i64) W (some ⟨g, 0, none⟩) xs.length xs :=
  C_block (Kd.int .i64) xs _ (fun x => rfl) hb hc (by omega)
end Go.Proofs.Ytnfcpcgbdoiiiaa.G

namespace Go.Proofs.Ytnfcpcgbdoiiiaa.G
open Go.RowKit Go.Proofs.YtnfcpcgbdoiiiaaW.PrintWords Go.Proofs.YtnfcpcgbdoiiiaaW.PrintLast Go.Proofs.YtnfcpcgbdoiiiaaW.PrintMore
set_option linter.unusedVariables false
set_option linter.unusedSimpArgs false
theorem C50_block {W : World} {g : Nat} {cells : Array Value} (xs : List S50) (hb : W.heap[g]? = some (.cells cells 50 (0, 0))) (hc : cells.toList = xs.flatMap fun x => [.int .i64 x.f0, .int .i64 x.f1]) (hl : xs.length ≤ 1000) : Kd.C k50 W (some ⟨g, 0, none⟩) xs.length xs :=
  C_block k50 xs _ (fun x => k50_mk W x) hb hc (by omega)
end Go.Proofs.Ytnfcpcgbdoiiiaa.G

namespace Go.Proofs.Ytnfcpcgbdoiiiaa.G
open Go.RowKit Go.Proofs.YtnfcpcgbdoiiiaaW.PrintWords Go.Proofs.YtnfcpcgbdoiiiaaW.PrintLast Go.Proofs.YtnfcpcgbdoiiiaaW.PrintMore
attribute [local go_sem] max2_int min2_int max_two min_two max_three min_three max_four min_four   -- for this text's walks alone
set_option linter.unusedVariables false
set_option linter.unusedSimpArgs false

def sheet_right.f (a0 : Int) (a1 : Int) : Option (Bool) := if a0 ≥ 0 then (if a0 ≤ 17179869184 then (if a1 ≥ 1 then (some (decide (a1 ≤ 17179869184))) else (some false)) else (some false)) else (some false)
set_option maxHeartbeats 8000000 in
set_option maxRecDepth 100000 in
theorem sheet_right.calls (a0 : Int) (a1 : Int) (r : Bool) (w : World) (h : sheet_right.f a0 a1 = some r) :
    Calls Try.prog 32 #[.int .i64 a0, .int .i64 a1] w fun e w' => e = .returned (.bool r) ∧ Drawn0 w w' := by
  have H : (if a0 ≥ 0 then (if a0 ≤ 17179869184 then (if a1 ≥ 1 then (some (decide (a1 ≤ 17179869184))) else (some false)) else (some false)) else (some false)) = some r := h
  clear h
  by_cases c3 : a0 ≥ 0
  · rw [if_pos c3] at H
    have c3b0 : decide (0 ≤ a0) = true := decide_eq_true c3
    clear c3
    by_cases c4 : a0 ≤ 17179869184
    · rw [if_pos c4] at H
      have c4b0 : decide (a0 ≤ 17179869184) = true := decide_eq_true c4
      clear c4
      by_cases c5 : a1 ≥ 1
      · rw [if_pos c5] at H
        have c5b0 : decide (1 ≤ a1) = true := decide_eq_true c5
        clear c5
        obtain rfl := Option.some.inj H
        go_enter Try.func32, Try.ntmps32
        go_wp2
        go_ret
        exact ⟨by first | rfl | (simp; done) | (simp [*]; done), by repeat (first | exact Drawn0.refl _ | apply Drawn0.step)⟩
      · rw [if_neg c5] at H
        have c5b0 : decide (1 ≤ a1) = false := decide_eq_false c5
        clear c5
        obtain rfl := Option.some.inj H
        go_enter Try.func32, Try.ntmps32
        go_wp2
        go_ret
        exact ⟨by first | rfl | (simp; done) | (simp [*]; done), by repeat (first | exact Drawn0.refl _ | apply Drawn0.step)⟩
    · rw [if_neg c4] at H
      have c4b0 : decide (a0 ≤ 17179869184) = false := decide_eq_false c4
      clear c4
      obtain rfl := Option.some.inj H
      go_enter Try.func32, Try.ntmps32
      go_wp2
      go_ret
      exact ⟨by first | rfl | (simp; done) | (simp [*]; done), by repeat (first | exact Drawn0.refl _ | apply Drawn0.step)⟩
  · rw [if_neg c3] at H
    have c3b0 : decide (0 ≤ a0) = false := decide_eq_false c3
    clear c3
    obtain rfl := Option.some.inj H
    go_enter Try.func32, Try.ntmps32
    go_wp2
    go_ret
    exact ⟨by first | rfl | (simp; done) | (simp [*]; done), by repeat (first | exact Drawn0.refl _ | apply Drawn0.step)⟩

end Go.Proofs.Ytnfcpcgbdoiiiaa.G

namespace Go.Proofs.Ytnfcpcgbdoiiiaa.G
open Go.RowKit Go.Proofs.YtnfcpcgbdoiiiaaW.PrintWords Go.Proofs.YtnfcpcgbdoiiiaaW.PrintLast Go.Proofs.YtnfcpcgbdoiiiaaW.PrintMore
attribute [local go_sem] max2_int min2_int max_two min_two max_three min_three max_four min_four   -- for this text's walks alone
set_option linter.unusedVariables false
set_option linter.unusedSimpArgs false

def sheet_Cut.l0 : Nat → Int → Int → Int → Int → List (S50) → List (S50) → Int → Int → Option (Int × (List (S50)) × Int × Int)
 | 0, _, _, _, _, _, _, _, _ => none
 | k + 1, x0, x1, x9, x10, x11, x37, x38, x39 => if x39 < x38 then (if 0 ≤ x39 then (if x39 < (x37.length : Int) then (if (mx ((rd_T50 x37 x39).f0) x10) < (mn ((rd_T50 x37 x39).f1) x0) then (if x1 = 0 then (none) else (if x11.length < 8796093022208 then (sheet_Cut.l0 k x0 x1 x9 x10 (x11 ++ [(⟨wrap64 ((wrap64 (x9 - 1)) - (wrap64 (Int.tdiv (wrap64 ((wrap64 ((mn ((rd_T50 x37 x39).f1) x0) - 1)) - x10)) x1))), wrap64 ((wrap64 ((wrap64 (x9 - 1)) - (wrap64 (Int.tdiv (wrap64 ((mx ((rd_T50 x37 x39).f0) x10) - x10)) x1)))) + 1)⟩ : S50)]) x37 x38 (wrap64 (x39 + 1))) else (none))) else (sheet_Cut.l0 k x0 x1 x9 x10 x11 x37 x38 (wrap64 (x39 + 1)))) else (none)) else (none)) else ((span_Minus.f k (([(⟨0, x9⟩ : S50)] : List (S50))) x11).bind fun bt14012 => (if bt14012.2 = 0 then (some (x9, bt14012.1, x10, 0)) else (some (0, ([] : List (S50)), 0, bt14012.2))))
def sheet_Cut.f (k : Nat) (a0 : Int) (a1 : Int) (l2 : List (S50)) : Option (Int × (List (S50)) × Int × Int) := (sheet_right.f a0 a1).bind fun t14002 => (if t14002 = true then ((span_Check.f k l2).bind fun t14003 => (if t14003 = 0 then (if a1 = 0 then (none) else (sheet_Cut.l0 k a0 a1 (wrap64 (Int.tdiv a0 a1)) (Int.tmod a0 a1) ([] : List (S50)) l2 (l2.length : Int) 0)) else (some (0, ([] : List (S50)), 0, t14003)))) else (some (0, ([] : List (S50)), 0, 1)))
theorem sheet_Cut.mono_l : ∀ k, (∀ y0 y1 y2 y3 y4 y5 y6 y7, LeO (sheet_Cut.l0 k y0 y1 y2 y3 y4 y5 y6 y7) (sheet_Cut.l0 (k + 1) y0 y1 y2 y3 y4 y5 y6 y7))
 | 0 => fun _ _ _ _ _ _ _ _ r h => by simp [sheet_Cut.l0] at h
 | k + 1 => by
  have ih0 := sheet_Cut.mono_l k
  ·intro y0 y1 y2 y3 y4 y5 y6 y7
   unfold sheet_Cut.l0
   repeat' first
   | (with_reducible exact ih0 _ _ _ _ _ _ _ _)
   | (with_reducible exact span_Check.mono _ _)
   | (with_reducible exact span_Minus.mono _ _ _)
   | (with_reducible exact LeO.refl _)
   | (with_reducible exact LeO.none _)
   | (with_reducible refine LeO.ite ?_ ?_)
   | (with_reducible refine LeO.bind ?_ (fun _ => ?_))
   | exact ih0 _ _ _ _ _ _ _ _
   | exact span_Check.mono _ _
   | exact span_Minus.mono _ _ _
   | exact LeO.none _
   | refine LeO.ite ?_ ?_
   | refine LeO.bind ?_ (fun _ => ?_)
theorem sheet_Cut.mono : ∀ a0 a1 a2 k, LeO (sheet_Cut.f k a0 a1 a2) (sheet_Cut.f (k + 1) a0 a1 a2) := by
 intro a0 a1 a2 k
 have ih0 := sheet_Cut.mono_l k
 unfold sheet_Cut.f
 repeat' first
   | (with_reducible exact ih0 _ _ _ _ _ _ _ _)
   | (with_reducible exact span_Check.mono _ _)
   | (with_reducible exact span_Minus.mono _ _ _)
   | (with_reducible exact LeO.refl _)
   | (with_reducible exact LeO.none _)
   | (with_reducible refine LeO.ite ?_ ?_)
   | (with_reducible refine LeO.bind ?_ (fun _ => ?_))
   | exact ih0 _ _ _ _ _ _ _ _
   | exact span_Check.mono _ _
   | exact span_Minus.mono _ _ _
   | exact LeO.none _
   | refine LeO.ite ?_ ?_
   | refine LeO.bind ?_ (fun _ => ?_)
set_option maxHeartbeats 8000000 in
set_option maxRecDepth 100000 in
theorem sheet_Cut.calls (k : Nat) (a0 : Int) (a1 : Int) (A2 : Option Addr) (c2 : Nat) (l2 : List (S50)) (r1 : Int) (r2 : List (S50)) (r3 : Int) (r4 : Int) (w : World) (hr2 : Kd.C k50 w A2 l2.length l2) (hc2 : l2.length ≤ c2) (h : sheet_Cut.f k a0 a1 l2 = some (r1, r2, r3, r4)) :
  Calls Try.prog 13 #[.int .i64 a0, .int .i64 a1, .slice A2 l2.length c2] w fun e w' => ∃ v1_ : Value, e = .returned (.tuple #[.agg #[.int .i64 r1, v1_, .int .i64 r3], .int .i64 r4]) ∧ Kd.R k50 50 w' w.heap.size (fun _ => True) v1_ r2 ∧ Below w.heap.size w w' := by
 have hu25 := Try.underlying25
 have hu50 := Try.underlying50
 have HR2 := Aside0.mk hr2
 have HC2 := Aside0.mk hc2
 clear hr2 hc2
 have HB := Aside0.mk (Below.refl w.heap.size w)
 have H : ((sheet_right.f a0 a1).bind fun t14002 => (if t14002 = true then ((span_Check.f k l2).bind fun t14003 => (if t14003 = 0 then (if a1 = 0 then (none) else (sheet_Cut.l0 k a0 a1 (wrap64 (Int.tdiv a0 a1)) (Int.tmod a0 a1) ([] : List (S50)) l2 (l2.length : Int) 0)) else (some (0, ([] : List (S50)), 0, t14003)))) else (some (0, ([] : List (S50)), 0, 1)))) = some (r1, r2, r3, r4) := h
 clear h
 replace H := Option.bind_eq_some_iff.mp H
 obtain ⟨t14002, A40, H⟩ := H
 replace H : (if t14002 = true then ((span_Check.f k l2).bind fun t14003 => (if t14003 = 0 then (if a1 = 0 then (none) else (sheet_Cut.l0 k a0 a1 (wrap64 (Int.tdiv a0 a1)) (Int.tmod a0 a1) ([] : List (S50)) l2 (l2.length : Int) 0)) else (some (0, ([] : List (S50)), 0, t14003)))) else (some (0, ([] : List (S50)), 0, 1))) = some (r1, r2, r3, r4) := H
 have A4 := Aside0.mk A40
 clear A40
 by_cases c5 : t14002 = true
 ·subst c5
  have H1 : ((span_Check.f k l2).bind fun t14003 => (if t14003 = 0 then (if a1 = 0 then (none) else (sheet_Cut.l0 k a0 a1 (wrap64 (Int.tdiv a0 a1)) (Int.tmod a0 a1) ([] : List (S50)) l2 (l2.length : Int) 0)) else (some (0, ([] : List (S50)), 0, t14003)))) = some (r1, r2, r3, r4) := by rw [if_pos rfl] at H; exact H
  clear H
  have H := H1
  clear H1
  replace H := Option.bind_eq_some_iff.mp H
  obtain ⟨t14003, A60, H⟩ := H
  replace H : (if t14003 = 0 then (if a1 = 0 then (none) else (sheet_Cut.l0 k a0 a1 (wrap64 (Int.tdiv a0 a1)) (Int.tmod a0 a1) ([] : List (S50)) l2 (l2.length : Int) 0)) else (some (0, ([] : List (S50)), 0, t14003))) = some (r1, r2, r3, r4) := H
  have A6 := Aside0.mk A60
  clear A60
  by_cases c7 : t14003 = 0
  ·rw [if_pos c7] at H
   have c7b0 : (t14003 == 0) = true := beq_iff_eq.mpr c7
   have c7b1 : (t14003 != 0) = false := bne_eq_false_iff_eq.mpr c7
   clear c7
   by_cases c8 : a1 = 0
   ·rw [if_pos c8] at H
    exact absurd H (by simp)
   ·rw [if_neg c8] at H
    have c8b0 : (a1 == 0) = false := beq_eq_false_iff_ne.mpr c8
    have c8b1 : (a1 != 0) = true := bne_iff_ne.mpr c8
    have H' := Aside0.mk H
    clear H
    go_enter Try.func13, Try.ntmps13
    go_wp2_with (first | ((with_reducible refine gate_dst (N := 6) rfl ?_); refine box_event ?hg (N := 6) ?hd (cs := #[.int .i64 0, .slice none 0 0, .int .i64 0]) (t := 25) ?hr ?_; (case hd => rfl); (case hg => rfl); (case hr => first | (go_simp; done) | (go_simp; rfl)); intro gb14001 hg w9 hbox hb; have n0_ := Aside0.mk (below_step (by repeat (first | exact HB.out | apply below_alloc | apply pw_below_drewN | apply below_drew1)) hb); have n1_ := Aside0.mk (hbox); have n2_ := Aside0.mk ((by rw [hg]; exact (below_size (by repeat (first | exact HB.out | apply below_alloc | apply pw_below_drewN | apply below_drew1))) : w.heap.size ≤ gb14001)); have n3_ := Aside0.mk ((by rw [hg]; exact (below_size (by repeat (first | exact HB.out | apply below_alloc | apply pw_below_drewN | apply below_drew1))) : w.heap.size ≤ gb14001)); clear HB; have HB := n0_; have BK14001 := n1_; have GW14001 := n2_; have GE14001 := n3_; clear n0_ n1_ n2_ n3_; clear hb hbox hg) | (go_at_call 32; (with_reducible refine (sheet_right.calls a0 a1 true _ A4.out).mono ?_); rintro e w' ⟨rfl, ⟨nd, rfl⟩⟩; (try first | exact ⟨rfl, _, World.drewN_drewN _ _ _⟩ | exact ⟨rfl, _, Eq.trans (World.drewN_drewN _ _ _) (congrArg (World.drewN _) (Nat.add_assoc _ _ _))⟩)) | (go_at_call 33; (with_reducible refine (span_Check.calls k _ _ l2 t14003 _ ?side1 ?side2 A6.out).mono ?_); (case side1 => repeat (first | exact (Kd.C_below HR2.out (by repeat (first | exact HB.out | apply below_alloc | apply pw_below_drewN | apply below_drew1 | refine below_set ?_ GE14001.out))) | (with_reducible refine Kd.C_alloc ?_ _) | (with_reducible refine Kd.C_drewN ?_ _) | (with_reducible refine Kd.C_drew ?_))); (case side2 => exact HC2.out); rintro e w10 ⟨rfl, hb⟩; have n0_ := Aside0.mk (blk_below (g := gb14001) (o := .cells #[.int .i64 0, .slice none 0 0, .int .i64 0] 25 (0, 0)) (by exact BK14001.out) hb); have n1_ := Aside0.mk (below_step (by repeat (first | exact HB.out | apply below_alloc | apply pw_below_drewN | apply below_drew1 | refine below_set ?_ GE14001.out)) hb); clear BK14001; clear HB; have BK14001 := n0_; have HB := n1_; clear n0_ n1_; (try clear hb); (try clear hb2); (try clear hk); (try clear hi)))
    repeat (go_quiet (first | ((with_reducible refine gate_dst (N := 6) rfl ?_); refine box_event ?hg (N := 6) ?hd (cs := #[.int .i64 0, .slice none 0 0, .int .i64 0]) (t := 25) ?hr ?_; (case hd => rfl); (case hg => rfl); (case hr => first | (go_simp; done) | (go_simp; rfl)); intro gb14001 hg w9 hbox hb; have n0_ := Aside0.mk (below_step (by repeat (first | exact HB.out | apply below_alloc | apply pw_below_drewN | apply below_drew1)) hb); have n1_ := Aside0.mk (hbox); have n2_ := Aside0.mk ((by rw [hg]; exact (below_size (by repeat (first | exact HB.out | apply below_alloc | apply pw_below_drewN | apply below_drew1))) : w.heap.size ≤ gb14001)); have n3_ := Aside0.mk ((by rw [hg]; exact (below_size (by repeat (first | exact HB.out | apply below_alloc | apply pw_below_drewN | apply below_drew1))) : w.heap.size ≤ gb14001)); clear HB; have HB := n0_; have BK14001 := n1_; have GW14001 := n2_; have GE14001 := n3_; clear n0_ n1_ n2_ n3_; clear hb hbox hg) | (go_at_call 32; (with_reducible refine (sheet_right.calls a0 a1 true _ A4.out).mono ?_); rintro e w' ⟨rfl, ⟨nd, rfl⟩⟩; (try first | exact ⟨rfl, _, World.drewN_drewN _ _ _⟩ | exact ⟨rfl, _, Eq.trans (World.drewN_drewN _ _ _) (congrArg (World.drewN _) (Nat.add_assoc _ _ _))⟩)) | (go_at_call 33; (with_reducible refine (span_Check.calls k _ _ l2 t14003 _ ?side1 ?side2 A6.out).mono ?_); (case side1 => repeat (first | exact (Kd.C_below HR2.out (by repeat (first | exact HB.out | apply below_alloc | apply pw_below_drewN | apply below_drew1 | refine below_set ?_ GE14001.out))) | (with_reducible refine Kd.C_alloc ?_ _) | (with_reducible refine Kd.C_drewN ?_ _) | (with_reducible refine Kd.C_drew ?_))); (case side2 => exact HC2.out); rintro e w10 ⟨rfl, hb⟩; have n0_ := Aside0.mk (blk_below (g := gb14001) (o := .cells #[.int .i64 0, .slice none 0 0, .int .i64 0] 25 (0, 0)) (by exact BK14001.out) hb); have n1_ := Aside0.mk (below_step (by repeat (first | exact HB.out | apply below_alloc | apply pw_below_drewN | apply below_drew1 | refine below_set ?_ GE14001.out)) hb); clear BK14001; clear HB; have BK14001 := n0_; have HB := n1_; clear n0_ n1_; (try clear hb); (try clear hb2); (try clear hk); (try clear hi))); try go_wp2_with (first | ((with_reducible refine gate_dst (N := 6) rfl ?_); refine box_event ?hg (N := 6) ?hd (cs := #[.int .i64 0, .slice none 0 0, .int .i64 0]) (t := 25) ?hr ?_; (case hd => rfl); (case hg => rfl); (case hr => first | (go_simp; done) | (go_simp; rfl)); intro gb14001 hg w9 hbox hb; have n0_ := Aside0.mk (below_step (by repeat (first | exact HB.out | apply below_alloc | apply pw_below_drewN | apply below_drew1)) hb); have n1_ := Aside0.mk (hbox); have n2_ := Aside0.mk ((by rw [hg]; exact (below_size (by repeat (first | exact HB.out | apply below_alloc | apply pw_below_drewN | apply below_drew1))) : w.heap.size ≤ gb14001)); have n3_ := Aside0.mk ((by rw [hg]; exact (below_size (by repeat (first | exact HB.out | apply below_alloc | apply pw_below_drewN | apply below_drew1))) : w.heap.size ≤ gb14001)); clear HB; have HB := n0_; have BK14001 := n1_; have GW14001 := n2_; have GE14001 := n3_; clear n0_ n1_ n2_ n3_; clear hb hbox hg) | (go_at_call 32; (with_reducible refine (sheet_right.calls a0 a1 true _ A4.out).mono ?_); rintro e w' ⟨rfl, ⟨nd, rfl⟩⟩; (try first | exact ⟨rfl, _, World.drewN_drewN _ _ _⟩ | exact ⟨rfl, _, Eq.trans (World.drewN_drewN _ _ _) (congrArg (World.drewN _) (Nat.add_assoc _ _ _))⟩)) | (go_at_call 33; (with_reducible refine (span_Check.calls k _ _ l2 t14003 _ ?side1 ?side2 A6.out).mono ?_); (case side1 => repeat (first | exact (Kd.C_below HR2.out (by repeat (first | exact HB.out | apply below_alloc | apply pw_below_drewN | apply below_drew1 | refine below_set ?_ GE14001.out))) | (with_reducible refine Kd.C_alloc ?_ _) | (with_reducible refine Kd.C_drewN ?_ _) | (with_reducible refine Kd.C_drew ?_))); (case side2 => exact HC2.out); rintro e w10 ⟨rfl, hb⟩; have n0_ := Aside0.mk (blk_below (g := gb14001) (o := .cells #[.int .i64 0, .slice none 0 0, .int .i64 0] 25 (0, 0)) (by exact BK14001.out) hb); have n1_ := Aside0.mk (below_step (by repeat (first | exact HB.out | apply below_alloc | apply pw_below_drewN | apply below_drew1 | refine below_set ?_ GE14001.out)) hb); clear BK14001; clear HB; have BK14001 := n0_; have HB := n1_; clear n0_ n1_; (try clear hb); (try clear hb2); (try clear hk); (try clear hi))))
    go_loopg [11, 39] k (fun kq v11 v39 w' => ∃ (x11_1 : List (S50)) (x39_1 : Int), v39 = .int .i64 x39_1 ∧ Aside0 (sheet_Cut.l0 kq a0 a1 (wrap64 (Int.tdiv a0 a1)) (Int.tmod a0 a1) x11_1 l2 (l2.length : Int) x39_1 = some (r1, r2, r3, r4)) ∧ Aside0 (kq ≤ k) ∧ Aside0 (Kd.R k50 50 w' w.heap.size (fun _ => True) v11 x11_1) ∧ Aside0 (w'.heap[gb14001]? = some (.cells #[.int .i64 0, (.slice none 0 0), .int .i64 0] 25 (0, 0))) ∧ Aside0 (Below w.heap.size w w'))
    case atStart => exact ⟨(([] : List (S50))), (0), (by first | rfl | (simp; done) | (simp [*]; done)), H', ⟨Nat.le_refl _⟩, ⟨by first | exact Kd.R_nil _ _ _ _ _ | exact Kd.N_nil _ _ _ _ _ | exact Kd.V_nil _ _ _ _ _ | exact Kd.Q_nil _ _ _ _ _ | exact Kd.S_nil _ _ _ _ _⟩, ⟨by exact BK14001.out⟩, ⟨by repeat (first | exact HB.out | apply below_alloc | apply pw_below_drewN | apply below_drew1 | refine below_set ?_ GE14001.out)⟩⟩
    case round =>
     clear H'
     try clear c1
     try clear c2
     try clear p2
     try clear c5
     try clear p6
     try clear c7
     try clear c7b0
     try clear c7b1
     try clear c8
     try clear c8b0
     try clear c8b1
     obtain ⟨x11_1, x39_1, rfl, HA, HK1, HO_11, BK14001, HB⟩ := hrel
     cases gk with
     | zero => exact absurd HA.out (by simp [sheet_Cut.l0])
     | succ k1 =>
      have H := HA.out
      clear HA
      simp only [sheet_Cut.l0] at H
      by_cases c11 : x39_1 < (l2.length : Int)
      ·rw [if_pos c11] at H
       have c11b0 : decide (x39_1 < (l2.length : Int)) = true := decide_eq_true c11
       clear c11
       by_cases c12 : 0 ≤ x39_1
       ·rw [if_pos c12] at H
        have c12b0 : decide (0 ≤ x39_1) = true := decide_eq_true c12
        clear c12
        by_cases c13 : x39_1 < (l2.length : Int)
        ·rw [if_pos c13] at H
         have c13b0 : decide (x39_1 < (l2.length : Int)) = true := decide_eq_true c13
         clear c13
         obtain ⟨ji14, hji14⟩ : ∃ j_ : Int, (mx ((rd_T50 l2 x39_1).f0) (Int.tmod a0 a1)) = j_ := ⟨_, rfl⟩
         replace H : (if (ji14) < (mn ((rd_T50 l2 x39_1).f1) a0) then (if a1 = 0 then (none) else (if x11_1.length < 8796093022208 then (sheet_Cut.l0 k1 a0 a1 (wrap64 (Int.tdiv a0 a1)) (Int.tmod a0 a1) (x11_1 ++ [(⟨wrap64 ((wrap64 ((wrap64 (Int.tdiv a0 a1)) - 1)) - (wrap64 (Int.tdiv (wrap64 ((wrap64 ((mn ((rd_T50 l2 x39_1).f1) a0) - 1)) - (Int.tmod a0 a1))) a1))), wrap64 ((wrap64 ((wrap64 ((wrap64 (Int.tdiv a0 a1)) - 1)) - (wrap64 (Int.tdiv (wrap64 ((ji14) - (Int.tmod a0 a1))) a1)))) + 1)⟩ : S50)]) l2 (l2.length : Int) (wrap64 (x39_1 + 1))) else (none))) else (sheet_Cut.l0 k1 a0 a1 (wrap64 (Int.tdiv a0 a1)) (Int.tmod a0 a1) x11_1 l2 (l2.length : Int) (wrap64 (x39_1 + 1)))) = some (r1, r2, r3, r4) := by first | (rw [hji14] at H; exact H) | (simp only [hji14] at H ⊢; exact H)
         have hji14_ : (if ((rd_T50 l2 x39_1).f0) < (Int.tmod a0 a1) then (Int.tmod a0 a1) else ((rd_T50 l2 x39_1).f0)) = ji14 := hji14
         obtain ⟨ji15, hji15⟩ : ∃ j_ : Int, (mn ((rd_T50 l2 x39_1).f1) a0) = j_ := ⟨_, rfl⟩
         replace H : (if (ji14) < (ji15) then (if a1 = 0 then (none) else (if x11_1.length < 8796093022208 then (sheet_Cut.l0 k1 a0 a1 (wrap64 (Int.tdiv a0 a1)) (Int.tmod a0 a1) (x11_1 ++ [(⟨wrap64 ((wrap64 ((wrap64 (Int.tdiv a0 a1)) - 1)) - (wrap64 (Int.tdiv (wrap64 ((wrap64 ((ji15) - 1)) - (Int.tmod a0 a1))) a1))), wrap64 ((wrap64 ((wrap64 ((wrap64 (Int.tdiv a0 a1)) - 1)) - (wrap64 (Int.tdiv (wrap64 ((ji14) - (Int.tmod a0 a1))) a1)))) + 1)⟩ : S50)]) l2 (l2.length : Int) (wrap64 (x39_1 + 1))) else (none))) else (sheet_Cut.l0 k1 a0 a1 (wrap64 (Int.tdiv a0 a1)) (Int.tmod a0 a1) x11_1 l2 (l2.length : Int) (wrap64 (x39_1 + 1)))) = some (r1, r2, r3, r4) := by first | (rw [hji15] at H; exact H) | (simp only [hji15] at H ⊢; exact H)
         have hji15_ : (if a0 < ((rd_T50 l2 x39_1).f1) then a0 else ((rd_T50 l2 x39_1).f1)) = ji15 := hji15
         by_cases c16 : (ji14) < (ji15)
         ·rw [if_pos c16] at H
          have c16b0 : decide ((ji14) < (ji15)) = true := decide_eq_true c16
          clear c16
          by_cases c17 : a1 = 0
          ·rw [if_pos c17] at H
           exact absurd H (by simp)
          ·rw [if_neg c17] at H
           have c17b0 : (a1 == 0) = false := beq_eq_false_iff_ne.mpr c17
           have c17b1 : (a1 != 0) = true := bne_iff_ne.mpr c17
           by_cases c18 : x11_1.length < 8796093022208
           ·rw [if_pos c18] at H
            have LMc18 := Aside0.mk c18
            clear c18
            obtain ⟨y14006, hy14006⟩ : ∃ y_ : List (S50), y_ = (x11_1 ++ [(⟨wrap64 ((wrap64 ((wrap64 (Int.tdiv a0 a1)) - 1)) - (wrap64 (Int.tdiv (wrap64 ((wrap64 ((ji15) - 1)) - (Int.tmod a0 a1))) a1))), wrap64 ((wrap64 ((wrap64 ((wrap64 (Int.tdiv a0 a1)) - 1)) - (wrap64 (Int.tdiv (wrap64 ((ji14) - (Int.tmod a0 a1))) a1)))) + 1)⟩ : S50)]) := ⟨_, rfl⟩
            replace H : (sheet_Cut.l0 k1 a0 a1 (wrap64 (Int.tdiv a0 a1)) (Int.tmod a0 a1) y14006 l2 (l2.length : Int) (wrap64 (x39_1 + 1))) = some (r1, r2, r3, r4) := by first | (rw [hy14006]; with_reducible exact H) | (have H2_ := (Option.bind_some _ _).symm.trans H; rw [hy14006]; with_reducible exact H2_) | (have H2_ := (Option.bind_some _ _).symm.trans H; with_reducible exact H2_) | with_reducible exact H | (rw [hy14006]; exact H) | exact H
            have Ny14006 := Aside0.mk hy14006
            clear hy14006
            have H' := Aside0.mk H
            clear H
            have p14004 : 0 ≤ (x39_1 : Int) := of_decide_eq_true (by assumption)
            have q14004 : x39_1 < (l2.length : Int) := of_decide_eq_true (by assumption)
            obtain ⟨ad14004, e14004, hx14004_0, hx14004_1⟩ := at_T50 HR2.out x39_1 p14004 q14004
            cases e14004
            replace hx14004_0 := (HB.out.cell (World.block_lt_of_cell? w _ hx14004_0)).trans hx14004_0
            replace hx14004_1 := (HB.out.cell (World.block_lt_of_cell? w _ hx14004_1)).trans hx14004_1
            replace p14004 := eq_true p14004
            replace q14004 := eq_true q14004
            go_wp2_with (first | ((with_reducible refine gate_dst (N := 13) rfl ?_); refine box_event ?hg (N := 13) ?hd (cs := #[.int .i64 0, .int .i64 0]) (t := 50) ?hr ?_; (case hd => rfl); (case hg => rfl); (case hr => first | (go_simp; done) | (go_simp; rfl)); intro gb14005 hg w19 hbox hb; have n0_ := Aside0.mk (Kd.R_below (Kd.R_elderB (by exact HO_11.out) gb14005 (Nat.le_of_eq hg.symm)) hb); have n1_ := Aside0.mk (blk_below (g := gb14001) (o := .cells #[.int .i64 0, .slice none 0 0, .int .i64 0] 25 (0, 0)) (by exact BK14001.out) hb); have n2_ := Aside0.mk (below_step (by repeat (first | exact HB.out | apply below_alloc | apply pw_below_drewN | apply below_drew1 | refine below_set ?_ GE14001.out)) hb); have n3_ := Aside0.mk (hbox); have n4_ := Aside0.mk ((by rw [hg]; exact (below_size (by repeat (first | exact HB.out | apply below_alloc | apply pw_below_drewN | apply below_drew1 | refine below_set ?_ GE14001.out))) : w.heap.size ≤ gb14005)); have n5_ := Aside0.mk ((by rw [hg]; exact (below_size (by repeat (first | exact HB.out | apply below_alloc | apply pw_below_drewN | apply below_drew1 | refine below_set ?_ GE14001.out))) : w.heap.size ≤ gb14005)); have n6_ := Aside0.mk ((by rw [hg]; exact Nat.ne_of_lt (blk_lt (g := gb14001) (o := .cells #[.int .i64 0, .slice none 0 0, .int .i64 0] 25 (0, 0)) (by exact BK14001.out)) : gb14001 ≠ gb14005)); have n7_ := Aside0.mk ((by rw [hg]; exact Nat.ne_of_gt (blk_lt (g := gb14001) (o := .cells #[.int .i64 0, .slice none 0 0, .int .i64 0] 25 (0, 0)) (by exact BK14001.out)) : gb14005 ≠ gb14001)); clear HO_11; clear BK14001; clear HB; have HO_11 := n0_; have BK14001 := n1_; have HB := n2_; have BK14005 := n3_; have GW14005 := n4_; have GE14005 := n5_; have NB14001_14005 := n6_; have NB14005_14001 := n7_; clear n0_ n1_ n2_ n3_ n4_ n5_ n6_ n7_; clear hb hbox hg; have hnb20 := NB14005_14001.out; have hnc20 := NB14001_14005.out; have hcz21_0 : w19.cell? ⟨gb14005, 0, none⟩ = some (.int .i64 0) := (blk_cell BK14005.out 0).trans rfl; have hcz21_1 : w19.cell? ⟨gb14005, 1, none⟩ = some (.int .i64 0) := (blk_cell BK14005.out 1).trans rfl; have hfz21_0 := blk_frozen BK14005.out 0; have hfz21_1 := blk_frozen BK14005.out 1) | ((with_reducible refine gate_builtin (b := .append) (xs := #[.tmp 71, .tmp 76]) rfl ?_); at_builtin; refine Kd.R_append k50 (w0 := w) w.heap.size rfl (.tmp 71) (.tmp 76) 22 50 (.agg #[(.int .i64 0), (.int .i64 0)]) 16 rfl Try.underlying22 info50 rfl (by decide) (by omega) u11 x11_1 (⟨wrap64 ((wrap64 ((wrap64 (Int.tdiv a0 a1)) - 1)) - (wrap64 (Int.tdiv (wrap64 ((wrap64 ((ji15) - 1)) - (Int.tmod a0 a1))) a1))), wrap64 ((wrap64 ((wrap64 ((wrap64 (Int.tdiv a0 a1)) - 1)) - (wrap64 (Int.tdiv (wrap64 ((ji14) - (Int.tmod a0 a1))) a1)))) + 1)⟩ : S50) [.int .i64 (wrap64 ((wrap64 ((wrap64 (Int.tdiv a0 a1)) - 1)) - (wrap64 (Int.tdiv (wrap64 ((wrap64 ((ji15) - 1)) - (Int.tmod a0 a1))) a1)))), .int .i64 (wrap64 ((wrap64 ((wrap64 ((wrap64 (Int.tdiv a0 a1)) - 1)) - (wrap64 (Int.tdiv (wrap64 ((ji14) - (Int.tmod a0 a1))) a1)))) + 1))] (fun k_ => k_ ≠ gb14005) (fun _ => False) rfl (by first | (go_simp; done) | (go_simp; rfl)) ?aP (fun _ hk => hk.elim) ?aF ?aO ?aB ?aS ?aL ?_; (case aP => exact k50_mkM _ _ _ (⟨wrap64 ((wrap64 ((wrap64 (Int.tdiv a0 a1)) - 1)) - (wrap64 (Int.tdiv (wrap64 ((wrap64 ((ji15) - 1)) - (Int.tmod a0 a1))) a1))), wrap64 ((wrap64 ((wrap64 ((wrap64 (Int.tdiv a0 a1)) - 1)) - (wrap64 (Int.tdiv (wrap64 ((ji14) - (Int.tmod a0 a1))) a1)))) + 1)⟩ : S50)); (case aB => exact (by repeat (first | exact HB.out | apply below_alloc | apply pw_below_drewN | apply below_drew1 | refine below_set ?_ GE14001.out | refine below_set ?_ GE14005.out))); (case aF => exact (fun k_ hk => Kd.freshB (g := gb14005) (o := .cells #[.int .i64 ((rd_T50 l2 x39_1).f0), .int .i64 ((rd_T50 l2 x39_1).f1)] 50 (0, 0)) (by refine blk_put (cs := #[.int .i64 ((rd_T50 l2 x39_1).f0), .int .i64 0]) ?_ 1 _ rfl; refine blk_put (cs := #[.int .i64 0, .int .i64 0]) ?_ 0 _ rfl; exact BK14005.out) k_ hk)); (case aO => exact (by exact Kd.R_mono (Kd.R_far (p := ⟨gb14005, 1, none⟩) (Kd.R_far (p := ⟨gb14005, 0, none⟩) (Kd.R_mono HO_11.out (fun k_ hk => (⟨hk, hk.2⟩ : _ ∧ k_ ≠ gb14005))) (fun _ hk => hk.2) (.int .i64 ((rd_T50 l2 x39_1).f0))) (fun _ hk => hk.2) (.int .i64 ((rd_T50 l2 x39_1).f1))) (fun _ hk => hk.1.2))); (case aS => exact (below_size (by repeat (first | exact HB.out | apply below_alloc | apply pw_below_drewN | apply below_drew1 | refine below_set ?_ GE14001.out | refine below_set ?_ GE14005.out)))); (case aL => have := LMc18.out; omega); intro v14007 w22 ho hb hg hat; rw [← Ny14006.out] at ho; have n0_ := Aside0.mk (blk_grown (g := gb14001) (o := .cells #[.int .i64 0, .slice none 0 0, .int .i64 0] 25 (0, 0)) (by refine blk_far ?_ NB14001_14005.out _; refine blk_far ?_ NB14001_14005.out _; exact BK14001.out) hg (Kd.R_ne HO_11.out BK14001.out (by decide))); have n1_ := Aside0.mk (blk_grown (g := gb14005) (o := .cells #[.int .i64 ((rd_T50 l2 x39_1).f0), .int .i64 ((rd_T50 l2 x39_1).f1)] 50 (0, 0)) (by refine blk_put (cs := #[.int .i64 ((rd_T50 l2 x39_1).f0), .int .i64 0]) ?_ 1 _ rfl; refine blk_put (cs := #[.int .i64 0, .int .i64 0]) ?_ 0 _ rfl; exact BK14005.out) hg (Kd.R_away HO_11.out (fun _ hk => hk.2))); have n2_ := Aside0.mk (hb); have n3_ := Aside0.mk (ho); clear BK14001; clear BK14005; clear HB; clear HO_11; have BK14001 := n0_; have BK14005 := n1_; have HB := n2_; have HO14008 := n3_; clear n0_ n1_ n2_ n3_; clear ho hb hg hat))
            repeat (go_quiet (first | ((with_reducible refine gate_dst (N := 13) rfl ?_); refine box_event ?hg (N := 13) ?hd (cs := #[.int .i64 0, .int .i64 0]) (t := 50) ?hr ?_; (case hd => rfl); (case hg => rfl); (case hr => first | (go_simp; done) | (go_simp; rfl)); intro gb14005 hg w19 hbox hb; have n0_ := Aside0.mk (Kd.R_below (Kd.R_elderB (by exact HO_11.out) gb14005 (Nat.le_of_eq hg.symm)) hb); have n1_ := Aside0.mk (blk_below (g := gb14001) (o := .cells #[.int .i64 0, .slice none 0 0, .int .i64 0] 25 (0, 0)) (by exact BK14001.out) hb); have n2_ := Aside0.mk (below_step (by repeat (first | exact HB.out | apply below_alloc | apply pw_below_drewN | apply below_drew1 | refine below_set ?_ GE14001.out)) hb); have n3_ := Aside0.mk (hbox); have n4_ := Aside0.mk ((by rw [hg]; exact (below_size (by repeat (first | exact HB.out | apply below_alloc | apply pw_below_drewN | apply below_drew1 | refine below_set ?_ GE14001.out))) : w.heap.size ≤ gb14005)); have n5_ := Aside0.mk ((by rw [hg]; exact (below_size (by repeat (first | exact HB.out | apply below_alloc | apply pw_below_drewN | apply below_drew1 | refine below_set ?_ GE14001.out))) : w.heap.size ≤ gb14005)); have n6_ := Aside0.mk ((by rw [hg]; exact Nat.ne_of_lt (blk_lt (g := gb14001) (o := .cells #[.int .i64 0, .slice none 0 0, .int .i64 0] 25 (0, 0)) (by exact BK14001.out)) : gb14001 ≠ gb14005)); have n7_ := Aside0.mk ((by rw [hg]; exact Nat.ne_of_gt (blk_lt (g := gb14001) (o := .cells #[.int .i64 0, .slice none 0 0, .int .i64 0] 25 (0, 0)) (by exact BK14001.out)) : gb14005 ≠ gb14001)); clear HO_11; clear BK14001; clear HB; have HO_11 := n0_; have BK14001 := n1_; have HB := n2_; have BK14005 := n3_; have GW14005 := n4_; have GE14005 := n5_; have NB14001_14005 := n6_; have NB14005_14001 := n7_; clear n0_ n1_ n2_ n3_ n4_ n5_ n6_ n7_; clear hb hbox hg; have hnb20 := NB14005_14001.out; have hnc20 := NB14001_14005.out; have hcz21_0 : w19.cell? ⟨gb14005, 0, none⟩ = some (.int .i64 0) := (blk_cell BK14005.out 0).trans rfl; have hcz21_1 : w19.cell? ⟨gb14005, 1, none⟩ = some (.int .i64 0) := (blk_cell BK14005.out 1).trans rfl; have hfz21_0 := blk_frozen BK14005.out 0; have hfz21_1 := blk_frozen BK14005.out 1) | ((with_reducible refine gate_builtin (b := .append) (xs := #[.tmp 71, .tmp 76]) rfl ?_); at_builtin; refine Kd.R_append k50 (w0 := w) w.heap.size rfl (.tmp 71) (.tmp 76) 22 50 (.agg #[(.int .i64 0), (.int .i64 0)]) 16 rfl Try.underlying22 info50 rfl (by decide) (by omega) u11 x11_1 (⟨wrap64 ((wrap64 ((wrap64 (Int.tdiv a0 a1)) - 1)) - (wrap64 (Int.tdiv (wrap64 ((wrap64 ((ji15) - 1)) - (Int.tmod a0 a1))) a1))), wrap64 ((wrap64 ((wrap64 ((wrap64 (Int.tdiv a0 a1)) - 1)) - (wrap64 (Int.tdiv (wrap64 ((ji14) - (Int.tmod a0 a1))) a1)))) + 1)⟩ : S50) [.int .i64 (wrap64 ((wrap64 ((wrap64 (Int.tdiv a0 a1)) - 1)) - (wrap64 (Int.tdiv (wrap64 ((wrap64 ((ji15) - 1)) - (Int.tmod a0 a1))) a1)))), .int .i64 (wrap64 ((wrap64 ((wrap64 ((wrap64 (Int.tdiv a0 a1)) - 1)) - (wrap64 (Int.tdiv (wrap64 ((ji14) - (Int.tmod a0 a1))) a1)))) + 1))] (fun k_ => k_ ≠ gb14005) (fun _ => False) rfl (by first | (go_simp; done) | (go_simp; rfl)) ?aP (fun _ hk => hk.elim) ?aF ?aO ?aB ?aS ?aL ?_; (case aP => exact k50_mkM _ _ _ (⟨wrap64 ((wrap64 ((wrap64 (Int.tdiv a0 a1)) - 1)) - (wrap64 (Int.tdiv (wrap64 ((wrap64 ((ji15) - 1)) - (Int.tmod a0 a1))) a1))), wrap64 ((wrap64 ((wrap64 ((wrap64 (Int.tdiv a0 a1)) - 1)) - (wrap64 (Int.tdiv (wrap64 ((ji14) - (Int.tmod a0 a1))) a1)))) + 1)⟩ : S50)); (case aB => exact (by repeat (first | exact HB.out | apply below_alloc | apply pw_below_drewN | apply below_drew1 | refine below_set ?_ GE14001.out | refine below_set ?_ GE14005.out))); (case aF => exact (fun k_ hk => Kd.freshB (g := gb14005) (o := .cells #[.int .i64 ((rd_T50 l2 x39_1).f0), .int .i64 ((rd_T50 l2 x39_1).f1)] 50 (0, 0)) (by refine blk_put (cs := #[.int .i64 ((rd_T50 l2 x39_1).f0), .int .i64 0]) ?_ 1 _ rfl; refine blk_put (cs := #[.int .i64 0, .int .i64 0]) ?_ 0 _ rfl; exact BK14005.out) k_ hk)); (case aO => exact (by exact Kd.R_mono (Kd.R_far (p := ⟨gb14005, 1, none⟩) (Kd.R_far (p := ⟨gb14005, 0, none⟩) (Kd.R_mono HO_11.out (fun k_ hk => (⟨hk, hk.2⟩ : _ ∧ k_ ≠ gb14005))) (fun _ hk => hk.2) (.int .i64 ((rd_T50 l2 x39_1).f0))) (fun _ hk => hk.2) (.int .i64 ((rd_T50 l2 x39_1).f1))) (fun _ hk => hk.1.2))); (case aS => exact (below_size (by repeat (first | exact HB.out | apply below_alloc | apply pw_below_drewN | apply below_drew1 | refine below_set ?_ GE14001.out | refine below_set ?_ GE14005.out)))); (case aL => have := LMc18.out; omega); intro v14007 w22 ho hb hg hat; rw [← Ny14006.out] at ho; have n0_ := Aside0.mk (blk_grown (g := gb14001) (o := .cells #[.int .i64 0, .slice none 0 0, .int .i64 0] 25 (0, 0)) (by refine blk_far ?_ NB14001_14005.out _; refine blk_far ?_ NB14001_14005.out _; exact BK14001.out) hg (Kd.R_ne HO_11.out BK14001.out (by decide))); have n1_ := Aside0.mk (blk_grown (g := gb14005) (o := .cells #[.int .i64 ((rd_T50 l2 x39_1).f0), .int .i64 ((rd_T50 l2 x39_1).f1)] 50 (0, 0)) (by refine blk_put (cs := #[.int .i64 ((rd_T50 l2 x39_1).f0), .int .i64 0]) ?_ 1 _ rfl; refine blk_put (cs := #[.int .i64 0, .int .i64 0]) ?_ 0 _ rfl; exact BK14005.out) hg (Kd.R_away HO_11.out (fun _ hk => hk.2))); have n2_ := Aside0.mk (hb); have n3_ := Aside0.mk (ho); clear BK14001; clear BK14005; clear HB; clear HO_11; have BK14001 := n0_; have BK14005 := n1_; have HB := n2_; have HO14008 := n3_; clear n0_ n1_ n2_ n3_; clear ho hb hg hat)); try go_wp2_with (first | ((with_reducible refine gate_dst (N := 13) rfl ?_); refine box_event ?hg (N := 13) ?hd (cs := #[.int .i64 0, .int .i64 0]) (t := 50) ?hr ?_; (case hd => rfl); (case hg => rfl); (case hr => first | (go_simp; done) | (go_simp; rfl)); intro gb14005 hg w19 hbox hb; have n0_ := Aside0.mk (Kd.R_below (Kd.R_elderB (by exact HO_11.out) gb14005 (Nat.le_of_eq hg.symm)) hb); have n1_ := Aside0.mk (blk_below (g := gb14001) (o := .cells #[.int .i64 0, .slice none 0 0, .int .i64 0] 25 (0, 0)) (by exact BK14001.out) hb); have n2_ := Aside0.mk (below_step (by repeat (first | exact HB.out | apply below_alloc | apply pw_below_drewN | apply below_drew1 | refine below_set ?_ GE14001.out)) hb); have n3_ := Aside0.mk (hbox); have n4_ := Aside0.mk ((by rw [hg]; exact (below_size (by repeat (first | exact HB.out | apply below_alloc | apply pw_below_drewN | apply below_drew1 | refine below_set ?_ GE14001.out))) : w.heap.size ≤ gb14005)); have n5_ := Aside0.mk ((by rw [hg]; exact (below_size (by repeat (first | exact HB.out | apply below_alloc | apply pw_below_drewN | apply below_drew1 | refine below_set ?_ GE14001.out))) : w.heap.size ≤ gb14005)); have n6_ := Aside0.mk ((by rw [hg]; exact Nat.ne_of_lt (blk_lt (g := gb14001) (o := .cells #[.int .i64 0, .slice none 0 0, .int .i64 0] 25 (0, 0)) (by exact BK14001.out)) : gb14001 ≠ gb14005)); have n7_ := Aside0.mk ((by rw [hg]; exact Nat.ne_of_gt (blk_lt (g := gb14001) (o := .cells #[.int .i64 0, .slice none 0 0, .int .i64 0] 25 (0, 0)) (by exact BK14001.out)) : gb14005 ≠ gb14001)); clear HO_11; clear BK14001; clear HB; have HO_11 := n0_; have BK14001 := n1_; have HB := n2_; have BK14005 := n3_; have GW14005 := n4_; have GE14005 := n5_; have NB14001_14005 := n6_; have NB14005_14001 := n7_; clear n0_ n1_ n2_ n3_ n4_ n5_ n6_ n7_; clear hb hbox hg; have hnb20 := NB14005_14001.out; have hnc20 := NB14001_14005.out; have hcz21_0 : w19.cell? ⟨gb14005, 0, none⟩ = some (.int .i64 0) := (blk_cell BK14005.out 0).trans rfl; have hcz21_1 : w19.cell? ⟨gb14005, 1, none⟩ = some (.int .i64 0) := (blk_cell BK14005.out 1).trans rfl; have hfz21_0 := blk_frozen BK14005.out 0; have hfz21_1 := blk_frozen BK14005.out 1) | ((with_reducible refine gate_builtin (b := .append) (xs := #[.tmp 71, .tmp 76]) rfl ?_); at_builtin; refine Kd.R_append k50 (w0 := w) w.heap.size rfl (.tmp 71) (.tmp 76) 22 50 (.agg #[(.int .i64 0), (.int .i64 0)]) 16 rfl Try.underlying22 info50 rfl (by decide) (by omega) u11 x11_1 (⟨wrap64 ((wrap64 ((wrap64 (Int.tdiv a0 a1)) - 1)) - (wrap64 (Int.tdiv (wrap64 ((wrap64 ((ji15) - 1)) - (Int.tmod a0 a1))) a1))), wrap64 ((wrap64 ((wrap64 ((wrap64 (Int.tdiv a0 a1)) - 1)) - (wrap64 (Int.tdiv (wrap64 ((ji14) - (Int.tmod a0 a1))) a1)))) + 1)⟩ : S50) [.int .i64 (wrap64 ((wrap64 ((wrap64 (Int.tdiv a0 a1)) - 1)) - (wrap64 (Int.tdiv (wrap64 ((wrap64 ((ji15) - 1)) - (Int.tmod a0 a1))) a1)))), .int .i64 (wrap64 ((wrap64 ((wrap64 ((wrap64 (Int.tdiv a0 a1)) - 1)) - (wrap64 (Int.tdiv (wrap64 ((ji14) - (Int.tmod a0 a1))) a1)))) + 1))] (fun k_ => k_ ≠ gb14005) (fun _ => False) rfl (by first | (go_simp; done) | (go_simp; rfl)) ?aP (fun _ hk => hk.elim) ?aF ?aO ?aB ?aS ?aL ?_; (case aP => exact k50_mkM _ _ _ (⟨wrap64 ((wrap64 ((wrap64 (Int.tdiv a0 a1)) - 1)) - (wrap64 (Int.tdiv (wrap64 ((wrap64 ((ji15) - 1)) - (Int.tmod a0 a1))) a1))), wrap64 ((wrap64 ((wrap64 ((wrap64 (Int.tdiv a0 a1)) - 1)) - (wrap64 (Int.tdiv (wrap64 ((ji14) - (Int.tmod a0 a1))) a1)))) + 1)⟩ : S50)); (case aB => exact (by repeat (first | exact HB.out | apply below_alloc | apply pw_below_drewN | apply below_drew1 | refine below_set ?_ GE14001.out | refine below_set ?_ GE14005.out))); (case aF => exact (fun k_ hk => Kd.freshB (g := gb14005) (o := .cells #[.int .i64 ((rd_T50 l2 x39_1).f0), .int .i64 ((rd_T50 l2 x39_1).f1)] 50 (0, 0)) (by refine blk_put (cs := #[.int .i64 ((rd_T50 l2 x39_1).f0), .int .i64 0]) ?_ 1 _ rfl; refine blk_put (cs := #[.int .i64 0, .int .i64 0]) ?_ 0 _ rfl; exact BK14005.out) k_ hk)); (case aO => exact (by exact Kd.R_mono (Kd.R_far (p := ⟨gb14005, 1, none⟩) (Kd.R_far (p := ⟨gb14005, 0, none⟩) (Kd.R_mono HO_11.out (fun k_ hk => (⟨hk, hk.2⟩ : _ ∧ k_ ≠ gb14005))) (fun _ hk => hk.2) (.int .i64 ((rd_T50 l2 x39_1).f0))) (fun _ hk => hk.2) (.int .i64 ((rd_T50 l2 x39_1).f1))) (fun _ hk => hk.1.2))); (case aS => exact (below_size (by repeat (first | exact HB.out | apply below_alloc | apply pw_below_drewN | apply below_drew1 | refine below_set ?_ GE14001.out | refine below_set ?_ GE14005.out)))); (case aL => have := LMc18.out; omega); intro v14007 w22 ho hb hg hat; rw [← Ny14006.out] at ho; have n0_ := Aside0.mk (blk_grown (g := gb14001) (o := .cells #[.int .i64 0, .slice none 0 0, .int .i64 0] 25 (0, 0)) (by refine blk_far ?_ NB14001_14005.out _; refine blk_far ?_ NB14001_14005.out _; exact BK14001.out) hg (Kd.R_ne HO_11.out BK14001.out (by decide))); have n1_ := Aside0.mk (blk_grown (g := gb14005) (o := .cells #[.int .i64 ((rd_T50 l2 x39_1).f0), .int .i64 ((rd_T50 l2 x39_1).f1)] 50 (0, 0)) (by refine blk_put (cs := #[.int .i64 ((rd_T50 l2 x39_1).f0), .int .i64 0]) ?_ 1 _ rfl; refine blk_put (cs := #[.int .i64 0, .int .i64 0]) ?_ 0 _ rfl; exact BK14005.out) hg (Kd.R_away HO_11.out (fun _ hk => hk.2))); have n2_ := Aside0.mk (hb); have n3_ := Aside0.mk (ho); clear BK14001; clear BK14005; clear HB; clear HO_11; have BK14001 := n0_; have BK14005 := n1_; have HB := n2_; have HO14008 := n3_; clear n0_ n1_ n2_ n3_; clear ho hb hg hat)))
            go_roundg k1
            case measure => have := HK1.out; omega
            case rel => exact ⟨(y14006), (wrap64 (x39_1 + 1)), (by first | rfl | (simp; done) | (simp [*]; done)), H', ⟨by have := HK1.out; omega⟩, ⟨by exact Kd.R_mono HO14008.out (fun _ hk => trivial)⟩, ⟨by exact BK14001.out⟩, ⟨by repeat (first | exact HB.out | apply below_alloc | apply pw_below_drewN | apply below_drew1 | refine below_set ?_ GE14001.out | refine below_set ?_ GE14005.out)⟩⟩
           ·rw [if_neg c18] at H
            exact absurd H (by simp)
         ·rw [if_neg c16] at H
          have c16b0 : decide ((ji14) < (ji15)) = false := decide_eq_false c16
          clear c16
          have H' := Aside0.mk H
          clear H
          have p14004 : 0 ≤ (x39_1 : Int) := of_decide_eq_true (by assumption)
          have q14004 : x39_1 < (l2.length : Int) := of_decide_eq_true (by assumption)
          obtain ⟨ad14004, e14004, hx14004_0, hx14004_1⟩ := at_T50 HR2.out x39_1 p14004 q14004
          cases e14004
          replace hx14004_0 := (HB.out.cell (World.block_lt_of_cell? w _ hx14004_0)).trans hx14004_0
          replace hx14004_1 := (HB.out.cell (World.block_lt_of_cell? w _ hx14004_1)).trans hx14004_1
          replace p14004 := eq_true p14004
          replace q14004 := eq_true q14004
          go_wp2_with (first | ((with_reducible refine gate_dst (N := 13) rfl ?_); refine box_event ?hg (N := 13) ?hd (cs := #[.int .i64 0, .int .i64 0]) (t := 50) ?hr ?_; (case hd => rfl); (case hg => rfl); (case hr => first | (go_simp; done) | (go_simp; rfl)); intro gb14005 hg w23 hbox hb; have n0_ := Aside0.mk (Kd.R_below (Kd.R_elderB (by exact HO_11.out) gb14005 (Nat.le_of_eq hg.symm)) hb); have n1_ := Aside0.mk (blk_below (g := gb14001) (o := .cells #[.int .i64 0, .slice none 0 0, .int .i64 0] 25 (0, 0)) (by exact BK14001.out) hb); have n2_ := Aside0.mk (below_step (by repeat (first | exact HB.out | apply below_alloc | apply pw_below_drewN | apply below_drew1 | refine below_set ?_ GE14001.out)) hb); have n3_ := Aside0.mk (hbox); have n4_ := Aside0.mk ((by rw [hg]; exact (below_size (by repeat (first | exact HB.out | apply below_alloc | apply pw_below_drewN | apply below_drew1 | refine below_set ?_ GE14001.out))) : w.heap.size ≤ gb14005)); have n5_ := Aside0.mk ((by rw [hg]; exact (below_size (by repeat (first | exact HB.out | apply below_alloc | apply pw_below_drewN | apply below_drew1 | refine below_set ?_ GE14001.out))) : w.heap.size ≤ gb14005)); have n6_ := Aside0.mk ((by rw [hg]; exact Nat.ne_of_lt (blk_lt (g := gb14001) (o := .cells #[.int .i64 0, .slice none 0 0, .int .i64 0] 25 (0, 0)) (by exact BK14001.out)) : gb14001 ≠ gb14005)); have n7_ := Aside0.mk ((by rw [hg]; exact Nat.ne_of_gt (blk_lt (g := gb14001) (o := .cells #[.int .i64 0, .slice none 0 0, .int .i64 0] 25 (0, 0)) (by exact BK14001.out)) : gb14005 ≠ gb14001)); clear HO_11; clear BK14001; clear HB; have HO_11 := n0_; have BK14001 := n1_; have HB := n2_; have BK14005 := n3_; have GW14005 := n4_; have GE14005 := n5_; have NB14001_14005 := n6_; have NB14005_14001 := n7_; clear n0_ n1_ n2_ n3_ n4_ n5_ n6_ n7_; clear hb hbox hg; have hnb24 := NB14005_14001.out; have hnc24 := NB14001_14005.out; have hcz25_0 : w23.cell? ⟨gb14005, 0, none⟩ = some (.int .i64 0) := (blk_cell BK14005.out 0).trans rfl; have hcz25_1 : w23.cell? ⟨gb14005, 1, none⟩ = some (.int .i64 0) := (blk_cell BK14005.out 1).trans rfl; have hfz25_0 := blk_frozen BK14005.out 0; have hfz25_1 := blk_frozen BK14005.out 1))
          repeat (go_quiet (first | ((with_reducible refine gate_dst (N := 13) rfl ?_); refine box_event ?hg (N := 13) ?hd (cs := #[.int .i64 0, .int .i64 0]) (t := 50) ?hr ?_; (case hd => rfl); (case hg => rfl); (case hr => first | (go_simp; done) | (go_simp; rfl)); intro gb14005 hg w23 hbox hb; have n0_ := Aside0.mk (Kd.R_below (Kd.R_elderB (by exact HO_11.out) gb14005 (Nat.le_of_eq hg.symm)) hb); have n1_ := Aside0.mk (blk_below (g := gb14001) (o := .cells #[.int .i64 0, .slice none 0 0, .int .i64 0] 25 (0, 0)) (by exact BK14001.out) hb); have n2_ := Aside0.mk (below_step (by repeat (first | exact HB.out | apply below_alloc | apply pw_below_drewN | apply below_drew1 | refine below_set ?_ GE14001.out)) hb); have n3_ := Aside0.mk (hbox); have n4_ := Aside0.mk ((by rw [hg]; exact (below_size (by repeat (first | exact HB.out | apply below_alloc | apply pw_below_drewN | apply below_drew1 | refine below_set ?_ GE14001.out))) : w.heap.size ≤ gb14005)); have n5_ := Aside0.mk ((by rw [hg]; exact (below_size (by repeat (first | exact HB.out | apply below_alloc | apply pw_below_drewN | apply below_drew1 | refine below_set ?_ GE14001.out))) : w.heap.size ≤ gb14005)); have n6_ := Aside0.mk ((by rw [hg]; exact Nat.ne_of_lt (blk_lt (g := gb14001) (o := .cells #[.int .i64 0, .slice none 0 0, .int .i64 0] 25 (0, 0)) (by exact BK14001.out)) : gb14001 ≠ gb14005)); have n7_ := Aside0.mk ((by rw [hg]; exact Nat.ne_of_gt (blk_lt (g := gb14001) (o := .cells #[.int .i64 0, .slice none 0 0, .int .i64 0] 25 (0, 0)) (by exact BK14001.out)) : gb14005 ≠ gb14001)); clear HO_11; clear BK14001; clear HB; have HO_11 := n0_; have BK14001 := n1_; have HB := n2_; have BK14005 := n3_; have GW14005 := n4_; have GE14005 := n5_; have NB14001_14005 := n6_; have NB14005_14001 := n7_; clear n0_ n1_ n2_ n3_ n4_ n5_ n6_ n7_; clear hb hbox hg; have hnb24 := NB14005_14001.out; have hnc24 := NB14001_14005.out; have hcz25_0 : w23.cell? ⟨gb14005, 0, none⟩ = some (.int .i64 0) := (blk_cell BK14005.out 0).trans rfl; have hcz25_1 : w23.cell? ⟨gb14005, 1, none⟩ = some (.int .i64 0) := (blk_cell BK14005.out 1).trans rfl; have hfz25_0 := blk_frozen BK14005.out 0; have hfz25_1 := blk_frozen BK14005.out 1)); try go_wp2_with (first | ((with_reducible refine gate_dst (N := 13) rfl ?_); refine box_event ?hg (N := 13) ?hd (cs := #[.int .i64 0, .int .i64 0]) (t := 50) ?hr ?_; (case hd => rfl); (case hg => rfl); (case hr => first | (go_simp; done) | (go_simp; rfl)); intro gb14005 hg w23 hbox hb; have n0_ := Aside0.mk (Kd.R_below (Kd.R_elderB (by exact HO_11.out) gb14005 (Nat.le_of_eq hg.symm)) hb); have n1_ := Aside0.mk (blk_below (g := gb14001) (o := .cells #[.int .i64 0, .slice none 0 0, .int .i64 0] 25 (0, 0)) (by exact BK14001.out) hb); have n2_ := Aside0.mk (below_step (by repeat (first | exact HB.out | apply below_alloc | apply pw_below_drewN | apply below_drew1 | refine below_set ?_ GE14001.out)) hb); have n3_ := Aside0.mk (hbox); have n4_ := Aside0.mk ((by rw [hg]; exact (below_size (by repeat (first | exact HB.out | apply below_alloc | apply pw_below_drewN | apply below_drew1 | refine below_set ?_ GE14001.out))) : w.heap.size ≤ gb14005)); have n5_ := Aside0.mk ((by rw [hg]; exact (below_size (by repeat (first | exact HB.out | apply below_alloc | apply pw_below_drewN | apply below_drew1 | refine below_set ?_ GE14001.out))) : w.heap.size ≤ gb14005)); have n6_ := Aside0.mk ((by rw [hg]; exact Nat.ne_of_lt (blk_lt (g := gb14001) (o := .cells #[.int .i64 0, .slice none 0 0, .int .i64 0] 25 (0, 0)) (by exact BK14001.out)) : gb14001 ≠ gb14005)); have n7_ := Aside0.mk ((by rw [hg]; exact Nat.ne_of_gt (blk_lt (g := gb14001) (o := .cells #[.int .i64 0, .slice none 0 0, .int .i64 0] 25 (0, 0)) (by exact BK14001.out)) : gb14005 ≠ gb14001)); clear HO_11; clear BK14001; clear HB; have HO_11 := n0_; have BK14001 := n1_; have HB := n2_; have BK14005 := n3_; have GW14005 := n4_; have GE14005 := n5_; have NB14001_14005 := n6_; have NB14005_14001 := n7_; clear n0_ n1_ n2_ n3_ n4_ n5_ n6_ n7_; clear hb hbox hg; have hnb24 := NB14005_14001.out; have hnc24 := NB14001_14005.out; have hcz25_0 : w23.cell? ⟨gb14005, 0, none⟩ = some (.int .i64 0) := (blk_cell BK14005.out 0).trans rfl; have hcz25_1 : w23.cell? ⟨gb14005, 1, none⟩ = some (.int .i64 0) := (blk_cell BK14005.out 1).trans rfl; have hfz25_0 := blk_frozen BK14005.out 0; have hfz25_1 := blk_frozen BK14005.out 1)))
          go_roundg k1
          case measure => have := HK1.out; omega
          case rel => exact ⟨(x11_1), (wrap64 (x39_1 + 1)), (by first | rfl | (simp; done) | (simp [*]; done)), H', ⟨by have := HK1.out; omega⟩, ⟨by exact Kd.R_mono (Kd.R_far (p := ⟨gb14005, 1, none⟩) (Kd.R_far (p := ⟨gb14005, 0, none⟩) (Kd.R_mono HO_11.out (fun k_ hk => (⟨hk, hk.2⟩ : _ ∧ k_ ≠ gb14005))) (fun _ hk => hk.2) (.int .i64 ((rd_T50 l2 x39_1).f0))) (fun _ hk => hk.2) (.int .i64 ((rd_T50 l2 x39_1).f1))) (fun _ hk => trivial)⟩, ⟨by refine blk_far ?_ NB14001_14005.out _; refine blk_far ?_ NB14001_14005.out _; exact BK14001.out⟩, ⟨by repeat (first | exact HB.out | apply below_alloc | apply pw_below_drewN | apply below_drew1 | refine below_set ?_ GE14001.out | refine below_set ?_ GE14005.out)⟩⟩
        ·rw [if_neg c13] at H
         exact absurd H (by simp)
       ·rw [if_neg c12] at H
        exact absurd H (by simp)
      ·rw [if_neg c11] at H
       have c11b0 : decide (x39_1 < (l2.length : Int)) = false := decide_eq_false c11
       clear c11
       obtain ⟨y14009, hy14009⟩ : ∃ y_ : List (S50), y_ = (([(⟨0, (wrap64 (Int.tdiv a0 a1))⟩ : S50)] : List (S50))) := ⟨_, rfl⟩
       replace H : ((span_Minus.f k1 y14009 x11_1).bind fun bt14012 => (if bt14012.2 = 0 then (some ((wrap64 (Int.tdiv a0 a1)), bt14012.1, (Int.tmod a0 a1), 0)) else (some (0, ([] : List (S50)), 0, bt14012.2)))) = some (r1, r2, r3, r4) := by first | (rw [hy14009]; with_reducible exact H) | (have H2_ := (Option.bind_some _ _).symm.trans H; rw [hy14009]; with_reducible exact H2_) | (have H2_ := (Option.bind_some _ _).symm.trans H; with_reducible exact H2_) | with_reducible exact H | (rw [hy14009]; exact H) | exact H
       have Ny14009 := Aside0.mk hy14009
       clear hy14009
       replace H := Option.bind_eq_some_iff.mp H
       obtain ⟨⟨t14012, t14013⟩, A260, H⟩ := H
       replace H : (if t14013 = 0 then (some ((wrap64 (Int.tdiv a0 a1)), t14012, (Int.tmod a0 a1), 0)) else (some (0, ([] : List (S50)), 0, t14013))) = some (r1, r2, r3, r4) := H
       have A26 := Aside0.mk A260
       clear A260
       by_cases c27 : t14013 = 0
       ·rw [if_pos c27] at H
        have c27b0 : (t14013 == 0) = true := beq_iff_eq.mpr c27
        have c27b1 : (t14013 != 0) = false := bne_eq_false_iff_eq.mpr c27
        clear c27
        simp only [Option.some.injEq, Prod.mk.injEq] at H
        obtain ⟨rfl, rfl, rfl, rfl⟩ := H
        go_wp2_with (first | ((with_reducible refine gate_dst (N := 82) rfl ?_); refine Kd.R_lit k50 _ 50 ?hg (N := 82) ?hd (xs := ([(⟨0, (wrap64 (Int.tdiv a0 a1))⟩ : S50)] : List (S50))) (inner := [.int .i64 0, .int .i64 (wrap64 (Int.tdiv a0 a1))]) (ok := fun _ => True) (okp := fun _ => True) ?hr ?hp (fun _ hk => hk) trivial (Below.refl _ _) (Nat.le_refl _) (by simp) ?_; (case hd => rfl); (case hg => rfl); (case hr => first | (go_simp; done) | (go_simp; rfl)); (case hp => exact (Reps.c2 (show Kd.M k50 _ _ _ (⟨0, (wrap64 (Int.tdiv a0 a1))⟩ : S50) [.int .i64 0, .int .i64 (wrap64 (Int.tdiv a0 a1))] from (k50_mkM _ _ _ (⟨0, (wrap64 (Int.tdiv a0 a1))⟩ : S50) )) (Reps.none _ _))); intro v14010 w28 ho29 hb hg_ hnew_; clear hg_ hnew_; (first | rw [← Ny14009.out] at ho29 | (simp only [Int.reduceToNat] at ho29; rw [← Ny14009.out] at ho29)); have n0_ := Aside0.mk (Kd.R_elder' (by exact HO_11.out) (Kd.R_base ho29) hb); have n1_ := Aside0.mk (Kd.R_lower (Kd.R_new' ho29 (Kd.R_lt (by exact HO_11.out))) (below_size (by repeat (first | exact HB.out | apply below_alloc | apply pw_below_drewN | apply below_drew1 | refine below_set ?_ GE14001.out)))); have n2_ := Aside0.mk (blk_below (g := gb14001) (o := .cells #[.int .i64 0, .slice none 0 0, .int .i64 0] 25 (0, 0)) (by exact BK14001.out) hb); have n3_ := Aside0.mk (below_step (by repeat (first | exact HB.out | apply below_alloc | apply pw_below_drewN | apply below_drew1 | refine below_set ?_ GE14001.out)) hb); clear HO_11; clear BK14001; clear HB; have HO_11 := n0_; have HO14011 := n1_; have BK14001 := n2_; have HB := n3_; clear n0_ n1_ n2_ n3_; clear hb ho29; obtain ⟨Ao30, co30, eo30⟩ := Kd.R_slice HO14011.out; subst eo30; obtain ⟨Ao31, co31, eo31⟩ := Kd.R_slice HO_11.out; subst eo31) | (go_at_call 34; (with_reducible refine (span_Minus.calls k1 _ _ y14009 _ _ x11_1 t14012 t14013 _ ?side1 ?side2 ?side3 ?side4 A26.out).mono ?_); (case side1 => exact (Kd.R_reads' HO14011.out).2.2); (case side2 => exact (Kd.R_reads' HO14011.out).2.1); (case side3 => exact (Kd.R_reads' HO_11.out).2.2); (case side4 => exact (Kd.R_reads' HO_11.out).2.1); rintro e w32 ⟨v14014, rfl, ho0, hb⟩; have n0_ := Aside0.mk (Kd.R_elder' (by exact HO_11.out) (Kd.R_base ho0) hb); have n1_ := Aside0.mk (Kd.R_elder' (by exact HO14011.out) (Kd.R_base ho0) hb); have n2_ := Aside0.mk (Kd.R_lower (Kd.R_new' (Kd.R_new' ho0 (Kd.R_lt (by exact HO_11.out))) (Kd.R_lt (by exact HO14011.out))) (below_size (by repeat (first | exact HB.out | apply below_alloc | apply pw_below_drewN | apply below_drew1 | refine below_set ?_ GE14001.out)))); have n3_ := Aside0.mk (blk_below (g := gb14001) (o := .cells #[.int .i64 0, .slice none 0 0, .int .i64 0] 25 (0, 0)) (by exact BK14001.out) hb); have n4_ := Aside0.mk (below_step (by repeat (first | exact HB.out | apply below_alloc | apply pw_below_drewN | apply below_drew1 | refine below_set ?_ GE14001.out)) hb); clear HO_11; clear HO14011; clear BK14001; clear HB; have HO_11 := n0_; have HO14011 := n1_; have HO14015 := n2_; have BK14001 := n3_; have HB := n4_; clear n0_ n1_ n2_ n3_ n4_; (try clear hb); (try clear hb2); (try clear hk); (try clear hi); (try clear ho0); obtain ⟨Ao33, co33, eo33⟩ := Kd.R_slice HO14015.out; subst eo33; have hcz34_0 : w32.cell? ⟨gb14001, 0, none⟩ = some (.int .i64 0) := (blk_cell BK14001.out 0).trans rfl; have hcz34_1 : w32.cell? ⟨gb14001, 1, none⟩ = some (.slice none 0 0) := (blk_cell BK14001.out 1).trans rfl; have hcz34_2 : w32.cell? ⟨gb14001, 2, none⟩ = some (.int .i64 0) := (blk_cell BK14001.out 2).trans rfl; have hfz34_0 := blk_frozen BK14001.out 0; have hfz34_1 := blk_frozen BK14001.out 1; have hfz34_2 := blk_frozen BK14001.out 2))
        repeat (go_quiet (first | ((with_reducible refine gate_dst (N := 82) rfl ?_); refine Kd.R_lit k50 _ 50 ?hg (N := 82) ?hd (xs := ([(⟨0, (wrap64 (Int.tdiv a0 a1))⟩ : S50)] : List (S50))) (inner := [.int .i64 0, .int .i64 (wrap64 (Int.tdiv a0 a1))]) (ok := fun _ => True) (okp := fun _ => True) ?hr ?hp (fun _ hk => hk) trivial (Below.refl _ _) (Nat.le_refl _) (by simp) ?_; (case hd => rfl); (case hg => rfl); (case hr => first | (go_simp; done) | (go_simp; rfl)); (case hp => exact (Reps.c2 (show Kd.M k50 _ _ _ (⟨0, (wrap64 (Int.tdiv a0 a1))⟩ : S50) [.int .i64 0, .int .i64 (wrap64 (Int.tdiv a0 a1))] from (k50_mkM _ _ _ (⟨0, (wrap64 (Int.tdiv a0 a1))⟩ : S50) )) (Reps.none _ _))); intro v14010 w28 ho29 hb hg_ hnew_; clear hg_ hnew_; (first | rw [← Ny14009.out] at ho29 | (simp only [Int.reduceToNat] at ho29; rw [← Ny14009.out] at ho29)); have n0_ := Aside0.mk (Kd.R_elder' (by exact HO_11.out) (Kd.R_base ho29) hb); have n1_ := Aside0.mk (Kd.R_lower (Kd.R_new' ho29 (Kd.R_lt (by exact HO_11.out))) (below_size (by repeat (first | exact HB.out | apply below_alloc | apply pw_below_drewN | apply below_drew1 | refine below_set ?_ GE14001.out)))); have n2_ := Aside0.mk (blk_below (g := gb14001) (o := .cells #[.int .i64 0, .slice none 0 0, .int .i64 0] 25 (0, 0)) (by exact BK14001.out) hb); have n3_ := Aside0.mk (below_step (by repeat (first | exact HB.out | apply below_alloc | apply pw_below_drewN | apply below_drew1 | refine below_set ?_ GE14001.out)) hb); clear HO_11; clear BK14001; clear HB; have HO_11 := n0_; have HO14011 := n1_; have BK14001 := n2_; have HB := n3_; clear n0_ n1_ n2_ n3_; clear hb ho29; obtain ⟨Ao30, co30, eo30⟩ := Kd.R_slice HO14011.out; subst eo30; obtain ⟨Ao31, co31, eo31⟩ := Kd.R_slice HO_11.out; subst eo31) | (go_at_call 34; (with_reducible refine (span_Minus.calls k1 _ _ y14009 _ _ x11_1 t14012 t14013 _ ?side1 ?side2 ?side3 ?side4 A26.out).mono ?_); (case side1 => exact (Kd.R_reads' HO14011.out).2.2); (case side2 => exact (Kd.R_reads' HO14011.out).2.1); (case side3 => exact (Kd.R_reads' HO_11.out).2.2); (case side4 => exact (Kd.R_reads' HO_11.out).2.1); rintro e w32 ⟨v14014, rfl, ho0, hb⟩; have n0_ := Aside0.mk (Kd.R_elder' (by exact HO_11.out) (Kd.R_base ho0) hb); have n1_ := Aside0.mk (Kd.R_elder' (by exact HO14011.out) (Kd.R_base ho0) hb); have n2_ := Aside0.mk (Kd.R_lower (Kd.R_new' (Kd.R_new' ho0 (Kd.R_lt (by exact HO_11.out))) (Kd.R_lt (by exact HO14011.out))) (below_size (by repeat (first | exact HB.out | apply below_alloc | apply pw_below_drewN | apply below_drew1 | refine below_set ?_ GE14001.out)))); have n3_ := Aside0.mk (blk_below (g := gb14001) (o := .cells #[.int .i64 0, .slice none 0 0, .int .i64 0] 25 (0, 0)) (by exact BK14001.out) hb); have n4_ := Aside0.mk (below_step (by repeat (first | exact HB.out | apply below_alloc | apply pw_below_drewN | apply below_drew1 | refine below_set ?_ GE14001.out)) hb); clear HO_11; clear HO14011; clear BK14001; clear HB; have HO_11 := n0_; have HO14011 := n1_; have HO14015 := n2_; have BK14001 := n3_; have HB := n4_; clear n0_ n1_ n2_ n3_ n4_; (try clear hb); (try clear hb2); (try clear hk); (try clear hi); (try clear ho0); obtain ⟨Ao33, co33, eo33⟩ := Kd.R_slice HO14015.out; subst eo33; have hcz34_0 : w32.cell? ⟨gb14001, 0, none⟩ = some (.int .i64 0) := (blk_cell BK14001.out 0).trans rfl; have hcz34_1 : w32.cell? ⟨gb14001, 1, none⟩ = some (.slice none 0 0) := (blk_cell BK14001.out 1).trans rfl; have hcz34_2 : w32.cell? ⟨gb14001, 2, none⟩ = some (.int .i64 0) := (blk_cell BK14001.out 2).trans rfl; have hfz34_0 := blk_frozen BK14001.out 0; have hfz34_1 := blk_frozen BK14001.out 1; have hfz34_2 := blk_frozen BK14001.out 2)); try go_wp2_with (first | ((with_reducible refine gate_dst (N := 82) rfl ?_); refine Kd.R_lit k50 _ 50 ?hg (N := 82) ?hd (xs := ([(⟨0, (wrap64 (Int.tdiv a0 a1))⟩ : S50)] : List (S50))) (inner := [.int .i64 0, .int .i64 (wrap64 (Int.tdiv a0 a1))]) (ok := fun _ => True) (okp := fun _ => True) ?hr ?hp (fun _ hk => hk) trivial (Below.refl _ _) (Nat.le_refl _) (by simp) ?_; (case hd => rfl); (case hg => rfl); (case hr => first | (go_simp; done) | (go_simp; rfl)); (case hp => exact (Reps.c2 (show Kd.M k50 _ _ _ (⟨0, (wrap64 (Int.tdiv a0 a1))⟩ : S50) [.int .i64 0, .int .i64 (wrap64 (Int.tdiv a0 a1))] from (k50_mkM _ _ _ (⟨0, (wrap64 (Int.tdiv a0 a1))⟩ : S50) )) (Reps.none _ _))); intro v14010 w28 ho29 hb hg_ hnew_; clear hg_ hnew_; (first | rw [← Ny14009.out] at ho29 | (simp only [Int.reduceToNat] at ho29; rw [← Ny14009.out] at ho29)); have n0_ := Aside0.mk (Kd.R_elder' (by exact HO_11.out) (Kd.R_base ho29) hb); have n1_ := Aside0.mk (Kd.R_lower (Kd.R_new' ho29 (Kd.R_lt (by exact HO_11.out))) (below_size (by repeat (first | exact HB.out | apply below_alloc | apply pw_below_drewN | apply below_drew1 | refine below_set ?_ GE14001.out)))); have n2_ := Aside0.mk (blk_below (g := gb14001) (o := .cells #[.int .i64 0, .slice none 0 0, .int .i64 0] 25 (0, 0)) (by exact BK14001.out) hb); have n3_ := Aside0.mk (below_step (by repeat (first | exact HB.out | apply below_alloc | apply pw_below_drewN | apply below_drew1 | refine below_set ?_ GE14001.out)) hb); clear HO_11; clear BK14001; clear HB; have HO_11 := n0_; have HO14011 := n1_; have BK14001 := n2_; have HB := n3_; clear n0_ n1_ n2_ n3_; clear hb ho29; obtain ⟨Ao30, co30, eo30⟩ := Kd.R_slice HO14011.out; subst eo30; obtain ⟨Ao31, co31, eo31⟩ := Kd.R_slice HO_11.out; subst eo31) | (go_at_call 34; (with_reducible refine (span_Minus.calls k1 _ _ y14009 _ _ x11_1 t14012 t14013 _ ?side1 ?side2 ?side3 ?side4 A26.out).mono ?_); (case side1 => exact (Kd.R_reads' HO14011.out).2.2); (case side2 => exact (Kd.R_reads' HO14011.out).2.1); (case side3 => exact (Kd.R_reads' HO_11.out).2.2); (case side4 => exact (Kd.R_reads' HO_11.out).2.1); rintro e w32 ⟨v14014, rfl, ho0, hb⟩; have n0_ := Aside0.mk (Kd.R_elder' (by exact HO_11.out) (Kd.R_base ho0) hb); have n1_ := Aside0.mk (Kd.R_elder' (by exact HO14011.out) (Kd.R_base ho0) hb); have n2_ := Aside0.mk (Kd.R_lower (Kd.R_new' (Kd.R_new' ho0 (Kd.R_lt (by exact HO_11.out))) (Kd.R_lt (by exact HO14011.out))) (below_size (by repeat (first | exact HB.out | apply below_alloc | apply pw_below_drewN | apply below_drew1 | refine below_set ?_ GE14001.out)))); have n3_ := Aside0.mk (blk_below (g := gb14001) (o := .cells #[.int .i64 0, .slice none 0 0, .int .i64 0] 25 (0, 0)) (by exact BK14001.out) hb); have n4_ := Aside0.mk (below_step (by repeat (first | exact HB.out | apply below_alloc | apply pw_below_drewN | apply below_drew1 | refine below_set ?_ GE14001.out)) hb); clear HO_11; clear HO14011; clear BK14001; clear HB; have HO_11 := n0_; have HO14011 := n1_; have HO14015 := n2_; have BK14001 := n3_; have HB := n4_; clear n0_ n1_ n2_ n3_ n4_; (try clear hb); (try clear hb2); (try clear hk); (try clear hi); (try clear ho0); obtain ⟨Ao33, co33, eo33⟩ := Kd.R_slice HO14015.out; subst eo33; have hcz34_0 : w32.cell? ⟨gb14001, 0, none⟩ = some (.int .i64 0) := (blk_cell BK14001.out 0).trans rfl; have hcz34_1 : w32.cell? ⟨gb14001, 1, none⟩ = some (.slice none 0 0) := (blk_cell BK14001.out 1).trans rfl; have hcz34_2 : w32.cell? ⟨gb14001, 2, none⟩ = some (.int .i64 0) := (blk_cell BK14001.out 2).trans rfl; have hfz34_0 := blk_frozen BK14001.out 0; have hfz34_1 := blk_frozen BK14001.out 1; have hfz34_2 := blk_frozen BK14001.out 2)))
        refine bodyPost_ret (results_ct rfl _ _ gb14001 25 #[.int .i64 (wrap64 (Int.tdiv a0 a1)), .slice Ao33 t14012.length co33, .int .i64 (Int.tmod a0 a1)] (0, 0) _ rfl (by refine blk_put (cs := #[.int .i64 (wrap64 (Int.tdiv a0 a1)), .slice Ao33 t14012.length co33, .int .i64 0]) ?_ 2 _ rfl; refine blk_put (cs := #[.int .i64 (wrap64 (Int.tdiv a0 a1)), .slice none 0 0, .int .i64 0]) ?_ 1 _ rfl; refine blk_put (cs := #[.int .i64 0, .slice none 0 0, .int .i64 0]) ?_ 0 _ rfl; exact BK14001.out) Try.underlying25 rfl (by kernel_rfl)) rfl ?_
        exact ⟨_, by first | rfl | (simp [errW_none, errW_some] <;> rfl) | (simp [*, errW_none, errW_some] <;> rfl), by exact Kd.R_mono (Kd.R_far (p := ⟨gb14001, 2, none⟩) (Kd.R_far (p := ⟨gb14001, 1, none⟩) (Kd.R_far (p := ⟨gb14001, 0, none⟩) (Kd.R_types HO14015.out BK14001.out (by decide)) (fun _ hk => hk.2) (.int .i64 (wrap64 (Int.tdiv a0 a1)))) (fun _ hk => hk.2) (.slice Ao33 t14012.length co33)) (fun _ hk => hk.2) (.int .i64 (Int.tmod a0 a1))) (fun _ hk => trivial), by repeat (first | exact HB.out | apply below_alloc | apply pw_below_drewN | apply below_drew1 | refine below_set ?_ GE14001.out)⟩
       ·rw [if_neg c27] at H
        have c27b0 : (t14013 == 0) = false := beq_eq_false_iff_ne.mpr c27
        have c27b1 : (t14013 != 0) = true := bne_iff_ne.mpr c27
        simp only [Option.some.injEq, Prod.mk.injEq] at H
        obtain ⟨rfl, rfl, rfl, rfl⟩ := H
        go_wp2_with (first | ((with_reducible refine gate_dst (N := 82) rfl ?_); refine Kd.R_lit k50 _ 50 ?hg (N := 82) ?hd (xs := ([(⟨0, (wrap64 (Int.tdiv a0 a1))⟩ : S50)] : List (S50))) (inner := [.int .i64 0, .int .i64 (wrap64 (Int.tdiv a0 a1))]) (ok := fun _ => True) (okp := fun _ => True) ?hr ?hp (fun _ hk => hk) trivial (Below.refl _ _) (Nat.le_refl _) (by simp) ?_; (case hd => rfl); (case hg => rfl); (case hr => first | (go_simp; done) | (go_simp; rfl)); (case hp => exact (Reps.c2 (show Kd.M k50 _ _ _ (⟨0, (wrap64 (Int.tdiv a0 a1))⟩ : S50) [.int .i64 0, .int .i64 (wrap64 (Int.tdiv a0 a1))] from (k50_mkM _ _ _ (⟨0, (wrap64 (Int.tdiv a0 a1))⟩ : S50) )) (Reps.none _ _))); intro v14010 w35 ho36 hb hg_ hnew_; clear hg_ hnew_; (first | rw [← Ny14009.out] at ho36 | (simp only [Int.reduceToNat] at ho36; rw [← Ny14009.out] at ho36)); have n0_ := Aside0.mk (Kd.R_elder' (by exact HO_11.out) (Kd.R_base ho36) hb); have n1_ := Aside0.mk (Kd.R_lower (Kd.R_new' ho36 (Kd.R_lt (by exact HO_11.out))) (below_size (by repeat (first | exact HB.out | apply below_alloc | apply pw_below_drewN | apply below_drew1 | refine below_set ?_ GE14001.out)))); have n2_ := Aside0.mk (blk_below (g := gb14001) (o := .cells #[.int .i64 0, .slice none 0 0, .int .i64 0] 25 (0, 0)) (by exact BK14001.out) hb); have n3_ := Aside0.mk (below_step (by repeat (first | exact HB.out | apply below_alloc | apply pw_below_drewN | apply below_drew1 | refine below_set ?_ GE14001.out)) hb); clear HO_11; clear BK14001; clear HB; have HO_11 := n0_; have HO14011 := n1_; have BK14001 := n2_; have HB := n3_; clear n0_ n1_ n2_ n3_; clear hb ho36; obtain ⟨Ao37, co37, eo37⟩ := Kd.R_slice HO14011.out; subst eo37; obtain ⟨Ao38, co38, eo38⟩ := Kd.R_slice HO_11.out; subst eo38) | (go_at_call 34; (with_reducible refine (span_Minus.calls k1 _ _ y14009 _ _ x11_1 t14012 t14013 _ ?side1 ?side2 ?side3 ?side4 A26.out).mono ?_); (case side1 => exact (Kd.R_reads' HO14011.out).2.2); (case side2 => exact (Kd.R_reads' HO14011.out).2.1); (case side3 => exact (Kd.R_reads' HO_11.out).2.2); (case side4 => exact (Kd.R_reads' HO_11.out).2.1); rintro e w39 ⟨v14014, rfl, ho0, hb⟩; have n0_ := Aside0.mk (Kd.R_elder' (by exact HO_11.out) (Kd.R_base ho0) hb); have n1_ := Aside0.mk (Kd.R_elder' (by exact HO14011.out) (Kd.R_base ho0) hb); have n2_ := Aside0.mk (Kd.R_lower (Kd.R_new' (Kd.R_new' ho0 (Kd.R_lt (by exact HO_11.out))) (Kd.R_lt (by exact HO14011.out))) (below_size (by repeat (first | exact HB.out | apply below_alloc | apply pw_below_drewN | apply below_drew1 | refine below_set ?_ GE14001.out)))); have n3_ := Aside0.mk (blk_below (g := gb14001) (o := .cells #[.int .i64 0, .slice none 0 0, .int .i64 0] 25 (0, 0)) (by exact BK14001.out) hb); have n4_ := Aside0.mk (below_step (by repeat (first | exact HB.out | apply below_alloc | apply pw_below_drewN | apply below_drew1 | refine below_set ?_ GE14001.out)) hb); clear HO_11; clear HO14011; clear BK14001; clear HB; have HO_11 := n0_; have HO14011 := n1_; have HO14015 := n2_; have BK14001 := n3_; have HB := n4_; clear n0_ n1_ n2_ n3_ n4_; (try clear hb); (try clear hb2); (try clear hk); (try clear hi); (try clear ho0); have hcz40_0 : w39.cell? ⟨gb14001, 0, none⟩ = some (.int .i64 0) := (blk_cell BK14001.out 0).trans rfl; have hcz40_1 : w39.cell? ⟨gb14001, 1, none⟩ = some (.slice none 0 0) := (blk_cell BK14001.out 1).trans rfl; have hcz40_2 : w39.cell? ⟨gb14001, 2, none⟩ = some (.int .i64 0) := (blk_cell BK14001.out 2).trans rfl; have hfz40_0 := blk_frozen BK14001.out 0; have hfz40_1 := blk_frozen BK14001.out 1; have hfz40_2 := blk_frozen BK14001.out 2))
        repeat (go_quiet (first | ((with_reducible refine gate_dst (N := 82) rfl ?_); refine Kd.R_lit k50 _ 50 ?hg (N := 82) ?hd (xs := ([(⟨0, (wrap64 (Int.tdiv a0 a1))⟩ : S50)] : List (S50))) (inner := [.int .i64 0, .int .i64 (wrap64 (Int.tdiv a0 a1))]) (ok := fun _ => True) (okp := fun _ => True) ?hr ?hp (fun _ hk => hk) trivial (Below.refl _ _) (Nat.le_refl _) (by simp) ?_; (case hd => rfl); (case hg => rfl); (case hr => first | (go_simp; done) | (go_simp; rfl)); (case hp => exact (Reps.c2 (show Kd.M k50 _ _ _ (⟨0, (wrap64 (Int.tdiv a0 a1))⟩ : S50) [.int .i64 0, .int .i64 (wrap64 (Int.tdiv a0 a1))] from (k50_mkM _ _ _ (⟨0, (wrap64 (Int.tdiv a0 a1))⟩ : S50) )) (Reps.none _ _))); intro v14010 w35 ho36 hb hg_ hnew_; clear hg_ hnew_; (first | rw [← Ny14009.out] at ho36 | (simp only [Int.reduceToNat] at ho36; rw [← Ny14009.out] at ho36)); have n0_ := Aside0.mk (Kd.R_elder' (by exact HO_11.out) (Kd.R_base ho36) hb); have n1_ := Aside0.mk (Kd.R_lower (Kd.R_new' ho36 (Kd.R_lt (by exact HO_11.out))) (below_size (by repeat (first | exact HB.out | apply below_alloc | apply pw_below_drewN | apply below_drew1 | refine below_set ?_ GE14001.out)))); have n2_ := Aside0.mk (blk_below (g := gb14001) (o := .cells #[.int .i64 0, .slice none 0 0, .int .i64 0] 25 (0, 0)) (by exact BK14001.out) hb); have n3_ := Aside0.mk (below_step (by repeat (first | exact HB.out | apply below_alloc | apply pw_below_drewN | apply below_drew1 | refine below_set ?_ GE14001.out)) hb); clear HO_11; clear BK14001; clear HB; have HO_11 := n0_; have HO14011 := n1_; have BK14001 := n2_; have HB := n3_; clear n0_ n1_ n2_ n3_; clear hb ho36; obtain ⟨Ao37, co37, eo37⟩ := Kd.R_slice HO14011.out; subst eo37; obtain ⟨Ao38, co38, eo38⟩ := Kd.R_slice HO_11.out; subst eo38) | (go_at_call 34; (with_reducible refine (span_Minus.calls k1 _ _ y14009 _ _ x11_1 t14012 t14013 _ ?side1 ?side2 ?side3 ?side4 A26.out).mono ?_); (case side1 => exact (Kd.R_reads' HO14011.out).2.2); (case side2 => exact (Kd.R_reads' HO14011.out).2.1); (case side3 => exact (Kd.R_reads' HO_11.out).2.2); (case side4 => exact (Kd.R_reads' HO_11.out).2.1); rintro e w39 ⟨v14014, rfl, ho0, hb⟩; have n0_ := Aside0.mk (Kd.R_elder' (by exact HO_11.out) (Kd.R_base ho0) hb); have n1_ := Aside0.mk (Kd.R_elder' (by exact HO14011.out) (Kd.R_base ho0) hb); have n2_ := Aside0.mk (Kd.R_lower (Kd.R_new' (Kd.R_new' ho0 (Kd.R_lt (by exact HO_11.out))) (Kd.R_lt (by exact HO14011.out))) (below_size (by repeat (first | exact HB.out | apply below_alloc | apply pw_below_drewN | apply below_drew1 | refine below_set ?_ GE14001.out)))); have n3_ := Aside0.mk (blk_below (g := gb14001) (o := .cells #[.int .i64 0, .slice none 0 0, .int .i64 0] 25 (0, 0)) (by exact BK14001.out) hb); have n4_ := Aside0.mk (below_step (by repeat (first | exact HB.out | apply below_alloc | apply pw_below_drewN | apply below_drew1 | refine below_set ?_ GE14001.out)) hb); clear HO_11; clear HO14011; clear BK14001; clear HB; have HO_11 := n0_; have HO14011 := n1_; have HO14015 := n2_; have BK14001 := n3_; have HB := n4_; clear n0_ n1_ n2_ n3_ n4_; (try clear hb); (try clear hb2); (try clear hk); (try clear hi); (try clear ho0); have hcz40_0 : w39.cell? ⟨gb14001, 0, none⟩ = some (.int .i64 0) := (blk_cell BK14001.out 0).trans rfl; have hcz40_1 : w39.cell? ⟨gb14001, 1, none⟩ = some (.slice none 0 0) := (blk_cell BK14001.out 1).trans rfl; have hcz40_2 : w39.cell? ⟨gb14001, 2, none⟩ = some (.int .i64 0) := (blk_cell BK14001.out 2).trans rfl; have hfz40_0 := blk_frozen BK14001.out 0; have hfz40_1 := blk_frozen BK14001.out 1; have hfz40_2 := blk_frozen BK14001.out 2)); try go_wp2_with (first | ((with_reducible refine gate_dst (N := 82) rfl ?_); refine Kd.R_lit k50 _ 50 ?hg (N := 82) ?hd (xs := ([(⟨0, (wrap64 (Int.tdiv a0 a1))⟩ : S50)] : List (S50))) (inner := [.int .i64 0, .int .i64 (wrap64 (Int.tdiv a0 a1))]) (ok := fun _ => True) (okp := fun _ => True) ?hr ?hp (fun _ hk => hk) trivial (Below.refl _ _) (Nat.le_refl _) (by simp) ?_; (case hd => rfl); (case hg => rfl); (case hr => first | (go_simp; done) | (go_simp; rfl)); (case hp => exact (Reps.c2 (show Kd.M k50 _ _ _ (⟨0, (wrap64 (Int.tdiv a0 a1))⟩ : S50) [.int .i64 0, .int .i64 (wrap64 (Int.tdiv a0 a1))] from (k50_mkM _ _ _ (⟨0, (wrap64 (Int.tdiv a0 a1))⟩ : S50) )) (Reps.none _ _))); intro v14010 w35 ho36 hb hg_ hnew_; clear hg_ hnew_; (first | rw [← Ny14009.out] at ho36 | (simp only [Int.reduceToNat] at ho36; rw [← Ny14009.out] at ho36)); have n0_ := Aside0.mk (Kd.R_elder' (by exact HO_11.out) (Kd.R_base ho36) hb); have n1_ := Aside0.mk (Kd.R_lower (Kd.R_new' ho36 (Kd.R_lt (by exact HO_11.out))) (below_size (by repeat (first | exact HB.out | apply below_alloc | apply pw_below_drewN | apply below_drew1 | refine below_set ?_ GE14001.out)))); have n2_ := Aside0.mk (blk_below (g := gb14001) (o := .cells #[.int .i64 0, .slice none 0 0, .int .i64 0] 25 (0, 0)) (by exact BK14001.out) hb); have n3_ := Aside0.mk (below_step (by repeat (first | exact HB.out | apply below_alloc | apply pw_below_drewN | apply below_drew1 | refine below_set ?_ GE14001.out)) hb); clear HO_11; clear BK14001; clear HB; have HO_11 := n0_; have HO14011 := n1_; have BK14001 := n2_; have HB := n3_; clear n0_ n1_ n2_ n3_; clear hb ho36; obtain ⟨Ao37, co37, eo37⟩ := Kd.R_slice HO14011.out; subst eo37; obtain ⟨Ao38, co38, eo38⟩ := Kd.R_slice HO_11.out; subst eo38) | (go_at_call 34; (with_reducible refine (span_Minus.calls k1 _ _ y14009 _ _ x11_1 t14012 t14013 _ ?side1 ?side2 ?side3 ?side4 A26.out).mono ?_); (case side1 => exact (Kd.R_reads' HO14011.out).2.2); (case side2 => exact (Kd.R_reads' HO14011.out).2.1); (case side3 => exact (Kd.R_reads' HO_11.out).2.2); (case side4 => exact (Kd.R_reads' HO_11.out).2.1); rintro e w39 ⟨v14014, rfl, ho0, hb⟩; have n0_ := Aside0.mk (Kd.R_elder' (by exact HO_11.out) (Kd.R_base ho0) hb); have n1_ := Aside0.mk (Kd.R_elder' (by exact HO14011.out) (Kd.R_base ho0) hb); have n2_ := Aside0.mk (Kd.R_lower (Kd.R_new' (Kd.R_new' ho0 (Kd.R_lt (by exact HO_11.out))) (Kd.R_lt (by exact HO14011.out))) (below_size (by repeat (first | exact HB.out | apply below_alloc | apply pw_below_drewN | apply below_drew1 | refine below_set ?_ GE14001.out)))); have n3_ := Aside0.mk (blk_below (g := gb14001) (o := .cells #[.int .i64 0, .slice none 0 0, .int .i64 0] 25 (0, 0)) (by exact BK14001.out) hb); have n4_ := Aside0.mk (below_step (by repeat (first | exact HB.out | apply below_alloc | apply pw_below_drewN | apply below_drew1 | refine below_set ?_ GE14001.out)) hb); clear HO_11; clear HO14011; clear BK14001; clear HB; have HO_11 := n0_; have HO14011 := n1_; have HO14015 := n2_; have BK14001 := n3_; have HB := n4_; clear n0_ n1_ n2_ n3_ n4_; (try clear hb); (try clear hb2); (try clear hk); (try clear hi); (try clear ho0); have hcz40_0 : w39.cell? ⟨gb14001, 0, none⟩ = some (.int .i64 0) := (blk_cell BK14001.out 0).trans rfl; have hcz40_1 : w39.cell? ⟨gb14001, 1, none⟩ = some (.slice none 0 0) := (blk_cell BK14001.out 1).trans rfl; have hcz40_2 : w39.cell? ⟨gb14001, 2, none⟩ = some (.int .i64 0) := (blk_cell BK14001.out 2).trans rfl; have hfz40_0 := blk_frozen BK14001.out 0; have hfz40_1 := blk_frozen BK14001.out 1; have hfz40_2 := blk_frozen BK14001.out 2)))
        refine bodyPost_ret (results_ct rfl _ _ gb14001 25 #[.int .i64 0, .slice none 0 0, .int .i64 0] (0, 0) _ rfl (by refine blk_put (cs := #[.int .i64 0, .slice none 0 0, .int .i64 0]) ?_ 2 _ rfl; refine blk_put (cs := #[.int .i64 0, .slice none 0 0, .int .i64 0]) ?_ 1 _ rfl; refine blk_put (cs := #[.int .i64 0, .slice none 0 0, .int .i64 0]) ?_ 0 _ rfl; exact BK14001.out) Try.underlying25 rfl (by kernel_rfl)) rfl ?_
        exact ⟨_, by first | rfl | (simp [errW_none, errW_some] <;> rfl) | (simp [*, errW_none, errW_some] <;> rfl), by first | exact Kd.R_nil _ _ _ _ _ | exact Kd.N_nil _ _ _ _ _ | exact Kd.V_nil _ _ _ _ _ | exact Kd.Q_nil _ _ _ _ _ | exact Kd.S_nil _ _ _ _ _, by repeat (first | exact HB.out | apply below_alloc | apply pw_below_drewN | apply below_drew1 | refine below_set ?_ GE14001.out)⟩
  ·rw [if_neg c7] at H
   have c7b0 : (t14003 == 0) = false := beq_eq_false_iff_ne.mpr c7
   have c7b1 : (t14003 != 0) = true := bne_iff_ne.mpr c7
   simp only [Option.some.injEq, Prod.mk.injEq] at H
   obtain ⟨rfl, rfl, rfl, rfl⟩ := H
   go_enter Try.func13, Try.ntmps13
   go_wp2_with (first | ((with_reducible refine gate_dst (N := 6) rfl ?_); refine box_event ?hg (N := 6) ?hd (cs := #[.int .i64 0, .slice none 0 0, .int .i64 0]) (t := 25) ?hr ?_; (case hd => rfl); (case hg => rfl); (case hr => first | (go_simp; done) | (go_simp; rfl)); intro gb14001 hg w41 hbox hb; have n0_ := Aside0.mk (below_step (by repeat (first | exact HB.out | apply below_alloc | apply pw_below_drewN | apply below_drew1)) hb); have n1_ := Aside0.mk (hbox); have n2_ := Aside0.mk ((by rw [hg]; exact (below_size (by repeat (first | exact HB.out | apply below_alloc | apply pw_below_drewN | apply below_drew1))) : w.heap.size ≤ gb14001)); have n3_ := Aside0.mk ((by rw [hg]; exact (below_size (by repeat (first | exact HB.out | apply below_alloc | apply pw_below_drewN | apply below_drew1))) : w.heap.size ≤ gb14001)); clear HB; have HB := n0_; have BK14001 := n1_; have GW14001 := n2_; have GE14001 := n3_; clear n0_ n1_ n2_ n3_; clear hb hbox hg) | (go_at_call 32; (with_reducible refine (sheet_right.calls a0 a1 true _ A4.out).mono ?_); rintro e w' ⟨rfl, ⟨nd, rfl⟩⟩; (try first | exact ⟨rfl, _, World.drewN_drewN _ _ _⟩ | exact ⟨rfl, _, Eq.trans (World.drewN_drewN _ _ _) (congrArg (World.drewN _) (Nat.add_assoc _ _ _))⟩)) | (go_at_call 33; (with_reducible refine (span_Check.calls k _ _ l2 t14003 _ ?side1 ?side2 A6.out).mono ?_); (case side1 => repeat (first | exact (Kd.C_below HR2.out (by repeat (first | exact HB.out | apply below_alloc | apply pw_below_drewN | apply below_drew1 | refine below_set ?_ GE14001.out))) | (with_reducible refine Kd.C_alloc ?_ _) | (with_reducible refine Kd.C_drewN ?_ _) | (with_reducible refine Kd.C_drew ?_))); (case side2 => exact HC2.out); rintro e w42 ⟨rfl, hb⟩; have n0_ := Aside0.mk (blk_below (g := gb14001) (o := .cells #[.int .i64 0, .slice none 0 0, .int .i64 0] 25 (0, 0)) (by exact BK14001.out) hb); have n1_ := Aside0.mk (below_step (by repeat (first | exact HB.out | apply below_alloc | apply pw_below_drewN | apply below_drew1 | refine below_set ?_ GE14001.out)) hb); clear BK14001; clear HB; have BK14001 := n0_; have HB := n1_; clear n0_ n1_; (try clear hb); (try clear hb2); (try clear hk); (try clear hi); have hcz43_0 : w42.cell? ⟨gb14001, 0, none⟩ = some (.int .i64 0) := (blk_cell BK14001.out 0).trans rfl; have hcz43_1 : w42.cell? ⟨gb14001, 1, none⟩ = some (.slice none 0 0) := (blk_cell BK14001.out 1).trans rfl; have hcz43_2 : w42.cell? ⟨gb14001, 2, none⟩ = some (.int .i64 0) := (blk_cell BK14001.out 2).trans rfl; have hfz43_0 := blk_frozen BK14001.out 0; have hfz43_1 := blk_frozen BK14001.out 1; have hfz43_2 := blk_frozen BK14001.out 2))
   repeat (go_quiet (first | ((with_reducible refine gate_dst (N := 6) rfl ?_); refine box_event ?hg (N := 6) ?hd (cs := #[.int .i64 0, .slice none 0 0, .int .i64 0]) (t := 25) ?hr ?_; (case hd => rfl); (case hg => rfl); (case hr => first | (go_simp; done) | (go_simp; rfl)); intro gb14001 hg w41 hbox hb; have n0_ := Aside0.mk (below_step (by repeat (first | exact HB.out | apply below_alloc | apply pw_below_drewN | apply below_drew1)) hb); have n1_ := Aside0.mk (hbox); have n2_ := Aside0.mk ((by rw [hg]; exact (below_size (by repeat (first | exact HB.out | apply below_alloc | apply pw_below_drewN | apply below_drew1))) : w.heap.size ≤ gb14001)); have n3_ := Aside0.mk ((by rw [hg]; exact (below_size (by repeat (first | exact HB.out | apply below_alloc | apply pw_below_drewN | apply below_drew1))) : w.heap.size ≤ gb14001)); clear HB; have HB := n0_; have BK14001 := n1_; have GW14001 := n2_; have GE14001 := n3_; clear n0_ n1_ n2_ n3_; clear hb hbox hg) | (go_at_call 32; (with_reducible refine (sheet_right.calls a0 a1 true _ A4.out).mono ?_); rintro e w' ⟨rfl, ⟨nd, rfl⟩⟩; (try first | exact ⟨rfl, _, World.drewN_drewN _ _ _⟩ | exact ⟨rfl, _, Eq.trans (World.drewN_drewN _ _ _) (congrArg (World.drewN _) (Nat.add_assoc _ _ _))⟩)) | (go_at_call 33; (with_reducible refine (span_Check.calls k _ _ l2 t14003 _ ?side1 ?side2 A6.out).mono ?_); (case side1 => repeat (first | exact (Kd.C_below HR2.out (by repeat (first | exact HB.out | apply below_alloc | apply pw_below_drewN | apply below_drew1 | refine below_set ?_ GE14001.out))) | (with_reducible refine Kd.C_alloc ?_ _) | (with_reducible refine Kd.C_drewN ?_ _) | (with_reducible refine Kd.C_drew ?_))); (case side2 => exact HC2.out); rintro e w42 ⟨rfl, hb⟩; have n0_ := Aside0.mk (blk_below (g := gb14001) (o := .cells #[.int .i64 0, .slice none 0 0, .int .i64 0] 25 (0, 0)) (by exact BK14001.out) hb); have n1_ := Aside0.mk (below_step (by repeat (first | exact HB.out | apply below_alloc | apply pw_below_drewN | apply below_drew1 | refine below_set ?_ GE14001.out)) hb); clear BK14001; clear HB; have BK14001 := n0_; have HB := n1_; clear n0_ n1_; (try clear hb); (try clear hb2); (try clear hk); (try clear hi); have hcz43_0 : w42.cell? ⟨gb14001, 0, none⟩ = some (.int .i64 0) := (blk_cell BK14001.out 0).trans rfl; have hcz43_1 : w42.cell? ⟨gb14001, 1, none⟩ = some (.slice none 0 0) := (blk_cell BK14001.out 1).trans rfl; have hcz43_2 : w42.cell? ⟨gb14001, 2, none⟩ = some (.int .i64 0) := (blk_cell BK14001.out 2).trans rfl; have hfz43_0 := blk_frozen BK14001.out 0; have hfz43_1 := blk_frozen BK14001.out 1; have hfz43_2 := blk_frozen BK14001.out 2)); try go_wp2_with (first | ((with_reducible refine gate_dst (N := 6) rfl ?_); refine box_event ?hg (N := 6) ?hd (cs := #[.int .i64 0, .slice none 0 0, .int .i64 0]) (t := 25) ?hr ?_; (case hd => rfl); (case hg => rfl); (case hr => first | (go_simp; done) | (go_simp; rfl)); intro gb14001 hg w41 hbox hb; have n0_ := Aside0.mk (below_step (by repeat (first | exact HB.out | apply below_alloc | apply pw_below_drewN | apply below_drew1)) hb); have n1_ := Aside0.mk (hbox); have n2_ := Aside0.mk ((by rw [hg]; exact (below_size (by repeat (first | exact HB.out | apply below_alloc | apply pw_below_drewN | apply below_drew1))) : w.heap.size ≤ gb14001)); have n3_ := Aside0.mk ((by rw [hg]; exact (below_size (by repeat (first | exact HB.out | apply below_alloc | apply pw_below_drewN | apply below_drew1))) : w.heap.size ≤ gb14001)); clear HB; have HB := n0_; have BK14001 := n1_; have GW14001 := n2_; have GE14001 := n3_; clear n0_ n1_ n2_ n3_; clear hb hbox hg) | (go_at_call 32; (with_reducible refine (sheet_right.calls a0 a1 true _ A4.out).mono ?_); rintro e w' ⟨rfl, ⟨nd, rfl⟩⟩; (try first | exact ⟨rfl, _, World.drewN_drewN _ _ _⟩ | exact ⟨rfl, _, Eq.trans (World.drewN_drewN _ _ _) (congrArg (World.drewN _) (Nat.add_assoc _ _ _))⟩)) | (go_at_call 33; (with_reducible refine (span_Check.calls k _ _ l2 t14003 _ ?side1 ?side2 A6.out).mono ?_); (case side1 => repeat (first | exact (Kd.C_below HR2.out (by repeat (first | exact HB.out | apply below_alloc | apply pw_below_drewN | apply below_drew1 | refine below_set ?_ GE14001.out))) | (with_reducible refine Kd.C_alloc ?_ _) | (with_reducible refine Kd.C_drewN ?_ _) | (with_reducible refine Kd.C_drew ?_))); (case side2 => exact HC2.out); rintro e w42 ⟨rfl, hb⟩; have n0_ := Aside0.mk (blk_below (g := gb14001) (o := .cells #[.int .i64 0, .slice none 0 0, .int .i64 0] 25 (0, 0)) (by exact BK14001.out) hb); have n1_ := Aside0.mk (below_step (by repeat (first | exact HB.out | apply below_alloc | apply pw_below_drewN | apply below_drew1 | refine below_set ?_ GE14001.out)) hb); clear BK14001; clear HB; have BK14001 := n0_; have HB := n1_; clear n0_ n1_; (try clear hb); (try clear hb2); (try clear hk); (try clear hi); have hcz43_0 : w42.cell? ⟨gb14001, 0, none⟩ = some (.int .i64 0) := (blk_cell BK14001.out 0).trans rfl; have hcz43_1 : w42.cell? ⟨gb14001, 1, none⟩ = some (.slice none 0 0) := (blk_cell BK14001.out 1).trans rfl; have hcz43_2 : w42.cell? ⟨gb14001, 2, none⟩ = some (.int .i64 0) := (blk_cell BK14001.out 2).trans rfl; have hfz43_0 := blk_frozen BK14001.out 0; have hfz43_1 := blk_frozen BK14001.out 1; have hfz43_2 := blk_frozen BK14001.out 2)))
   refine bodyPost_ret (results_ct rfl _ _ gb14001 25 #[.int .i64 0, .slice none 0 0, .int .i64 0] (0, 0) _ rfl (by refine blk_put (cs := #[.int .i64 0, .slice none 0 0, .int .i64 0]) ?_ 2 _ rfl; refine blk_put (cs := #[.int .i64 0, .slice none 0 0, .int .i64 0]) ?_ 1 _ rfl; refine blk_put (cs := #[.int .i64 0, .slice none 0 0, .int .i64 0]) ?_ 0 _ rfl; exact BK14001.out) Try.underlying25 rfl (by kernel_rfl)) rfl ?_
   exact ⟨_, by first | rfl | (simp [errW_none, errW_some] <;> rfl) | (simp [*, errW_none, errW_some] <;> rfl), by first | exact Kd.R_nil _ _ _ _ _ | exact Kd.N_nil _ _ _ _ _ | exact Kd.V_nil _ _ _ _ _ | exact Kd.Q_nil _ _ _ _ _ | exact Kd.S_nil _ _ _ _ _, by repeat (first | exact HB.out | apply below_alloc | apply pw_below_drewN | apply below_drew1 | refine below_set ?_ GE14001.out)⟩
 ·replace c5 := Bool.eq_false_iff.mpr c5
  subst c5
  have H1 : (some (0, ([] : List (S50)), 0, 1)) = some (r1, r2, r3, r4) := by rw [if_neg (show ¬ (false = true) by decide)] at H; exact H
  clear H
  have H := H1
  clear H1
  simp only [Option.some.injEq, Prod.mk.injEq] at H
  obtain ⟨rfl, rfl, rfl, rfl⟩ := H
  go_enter Try.func13, Try.ntmps13
  go_wp2_with (first | ((with_reducible refine gate_dst (N := 6) rfl ?_); refine box_event ?hg (N := 6) ?hd (cs := #[.int .i64 0, .slice none 0 0, .int .i64 0]) (t := 25) ?hr ?_; (case hd => rfl); (case hg => rfl); (case hr => first | (go_simp; done) | (go_simp; rfl)); intro gb14001 hg w44 hbox hb; have n0_ := Aside0.mk (below_step (by repeat (first | exact HB.out | apply below_alloc | apply pw_below_drewN | apply below_drew1)) hb); have n1_ := Aside0.mk (hbox); have n2_ := Aside0.mk ((by rw [hg]; exact (below_size (by repeat (first | exact HB.out | apply below_alloc | apply pw_below_drewN | apply below_drew1))) : w.heap.size ≤ gb14001)); have n3_ := Aside0.mk ((by rw [hg]; exact (below_size (by repeat (first | exact HB.out | apply below_alloc | apply pw_below_drewN | apply below_drew1))) : w.heap.size ≤ gb14001)); clear HB; have HB := n0_; have BK14001 := n1_; have GW14001 := n2_; have GE14001 := n3_; clear n0_ n1_ n2_ n3_; clear hb hbox hg) | (go_at_call 32; (with_reducible refine (sheet_right.calls a0 a1 false _ A4.out).mono ?_); rintro e w' ⟨rfl, ⟨nd, rfl⟩⟩; (try first | exact ⟨rfl, _, World.drewN_drewN _ _ _⟩ | exact ⟨rfl, _, Eq.trans (World.drewN_drewN _ _ _) (congrArg (World.drewN _) (Nat.add_assoc _ _ _))⟩); have hcz45_0 : w44.cell? ⟨gb14001, 0, none⟩ = some (.int .i64 0) := (blk_cell BK14001.out 0).trans rfl; have hcz45_1 : w44.cell? ⟨gb14001, 1, none⟩ = some (.slice none 0 0) := (blk_cell BK14001.out 1).trans rfl; have hcz45_2 : w44.cell? ⟨gb14001, 2, none⟩ = some (.int .i64 0) := (blk_cell BK14001.out 2).trans rfl; have hfz45_0 := blk_frozen BK14001.out 0; have hfz45_1 := blk_frozen BK14001.out 1; have hfz45_2 := blk_frozen BK14001.out 2))
  repeat (go_quiet (first | ((with_reducible refine gate_dst (N := 6) rfl ?_); refine box_event ?hg (N := 6) ?hd (cs := #[.int .i64 0, .slice none 0 0, .int .i64 0]) (t := 25) ?hr ?_; (case hd => rfl); (case hg => rfl); (case hr => first | (go_simp; done) | (go_simp; rfl)); intro gb14001 hg w44 hbox hb; have n0_ := Aside0.mk (below_step (by repeat (first | exact HB.out | apply below_alloc | apply pw_below_drewN | apply below_drew1)) hb); have n1_ := Aside0.mk (hbox); have n2_ := Aside0.mk ((by rw [hg]; exact (below_size (by repeat (first | exact HB.out | apply below_alloc | apply pw_below_drewN | apply below_drew1))) : w.heap.size ≤ gb14001)); have n3_ := Aside0.mk ((by rw [hg]; exact (below_size (by repeat (first | exact HB.out | apply below_alloc | apply pw_below_drewN | apply below_drew1))) : w.heap.size ≤ gb14001)); clear HB; have HB := n0_; have BK14001 := n1_; have GW14001 := n2_; have GE14001 := n3_; clear n0_ n1_ n2_ n3_; clear hb hbox hg) | (go_at_call 32; (with_reducible refine (sheet_right.calls a0 a1 false _ A4.out).mono ?_); rintro e w' ⟨rfl, ⟨nd, rfl⟩⟩; (try first | exact ⟨rfl, _, World.drewN_drewN _ _ _⟩ | exact ⟨rfl, _, Eq.trans (World.drewN_drewN _ _ _) (congrArg (World.drewN _) (Nat.add_assoc _ _ _))⟩); have hcz45_0 : w44.cell? ⟨gb14001, 0, none⟩ = some (.int .i64 0) := (blk_cell BK14001.out 0).trans rfl; have hcz45_1 : w44.cell? ⟨gb14001, 1, none⟩ = some (.slice none 0 0) := (blk_cell BK14001.out 1).trans rfl; have hcz45_2 : w44.cell? ⟨gb14001, 2, none⟩ = some (.int .i64 0) := (blk_cell BK14001.out 2).trans rfl; have hfz45_0 := blk_frozen BK14001.out 0; have hfz45_1 := blk_frozen BK14001.out 1; have hfz45_2 := blk_frozen BK14001.out 2)); try go_wp2_with (first | ((with_reducible refine gate_dst (N := 6) rfl ?_); refine box_event ?hg (N := 6) ?hd (cs := #[.int .i64 0, .slice none 0 0, .int .i64 0]) (t := 25) ?hr ?_; (case hd => rfl); (case hg => rfl); (case hr => first | (go_simp; done) | (go_simp; rfl)); intro gb14001 hg w44 hbox hb; have n0_ := Aside0.mk (below_step (by repeat (first | exact HB.out | apply below_alloc | apply pw_below_drewN | apply below_drew1)) hb); have n1_ := Aside0.mk (hbox); have n2_ := Aside0.mk ((by rw [hg]; exact (below_size (by repeat (first | exact HB.out | apply below_alloc | apply pw_below_drewN | apply below_drew1))) : w.heap.size ≤ gb14001)); have n3_ := Aside0.mk ((by rw [hg]; exact (below_size (by repeat (first | exact HB.out | apply below_alloc | apply pw_below_drewN | apply below_drew1))) : w.heap.size ≤ gb14001)); clear HB; have HB := n0_; have BK14001 := n1_; have GW14001 := n2_; have GE14001 := n3_; clear n0_ n1_ n2_ n3_; clear hb hbox hg) | (go_at_call 32; (with_reducible refine (sheet_right.calls a0 a1 false _ A4.out).mono ?_); rintro e w' ⟨rfl, ⟨nd, rfl⟩⟩; (try first | exact ⟨rfl, _, World.drewN_drewN _ _ _⟩ | exact ⟨rfl, _, Eq.trans (World.drewN_drewN _ _ _) (congrArg (World.drewN _) (Nat.add_assoc _ _ _))⟩); have hcz45_0 : w44.cell? ⟨gb14001, 0, none⟩ = some (.int .i64 0) := (blk_cell BK14001.out 0).trans rfl; have hcz45_1 : w44.cell? ⟨gb14001, 1, none⟩ = some (.slice none 0 0) := (blk_cell BK14001.out 1).trans rfl; have hcz45_2 : w44.cell? ⟨gb14001, 2, none⟩ = some (.int .i64 0) := (blk_cell BK14001.out 2).trans rfl; have hfz45_0 := blk_frozen BK14001.out 0; have hfz45_1 := blk_frozen BK14001.out 1; have hfz45_2 := blk_frozen BK14001.out 2)))
  refine bodyPost_ret (results_ct rfl _ _ gb14001 25 #[.int .i64 0, .slice none 0 0, .int .i64 0] (0, 0) _ rfl (by refine blk_put (cs := #[.int .i64 0, .slice none 0 0, .int .i64 0]) ?_ 2 _ rfl; refine blk_put (cs := #[.int .i64 0, .slice none 0 0, .int .i64 0]) ?_ 1 _ rfl; refine blk_put (cs := #[.int .i64 0, .slice none 0 0, .int .i64 0]) ?_ 0 _ rfl; exact BK14001.out) Try.underlying25 rfl (by kernel_rfl)) rfl ?_
  exact ⟨_, by first | rfl | (simp [errW_none, errW_some] <;> rfl) | (simp [*, errW_none, errW_some] <;> rfl), by first | exact Kd.R_nil _ _ _ _ _ | exact Kd.N_nil _ _ _ _ _ | exact Kd.V_nil _ _ _ _ _ | exact Kd.Q_nil _ _ _ _ _ | exact Kd.S_nil _ _ _ _ _, by repeat (first | exact HB.out | apply below_alloc | apply pw_below_drewN | apply below_drew1 | refine below_set ?_ GE14001.out)⟩

end Go.Proofs.Ytnfcpcgbdoiiiaa.G

namespace Go.Proofs.Ytnfcpcgbdoiiiaa.G
open Go.RowKit Go.Proofs.YtnfcpcgbdoiiiaaW.PrintWords Go.Proofs.YtnfcpcgbdoiiiaaW.PrintLast Go.Proofs.YtnfcpcgbdoiiiaaW.PrintMore
attribute [local go_sem] max2_int min2_int max_two min_two max_three min_three max_four min_four   -- for this text's walks alone
set_option linter.unusedVariables false
set_option linter.unusedSimpArgs false

def sheet_Sheet.j0 : Nat → Int → Int → Int → Bool → Option (Int × Int)
  | 0, _, _, _, _ => none
  | k + 1, x0, x1, x2, x18 => if x18 = true then (some (0, 21)) else (if x1 = 0 then (none) else (if x2 < (Int.tmod x0 x1) then (some (0, 7)) else (some (wrap64 (Int.tdiv (wrap64 ((wrap64 (x0 - 1)) - x2)) x1), 0))))
def sheet_Sheet.f (k : Nat) (a0 : Int) (a1 : Int) (a2 : Int) : Option (Int × Int) := (sheet_right.f a0 a1).bind fun t17001 => (if t17001 = true then (if a2 < 0 then (sheet_Sheet.j0 k a0 a1 a2 true) else (sheet_Sheet.j0 k a0 a1 a2 (decide (a2 ≥ a0)))) else (some (0, 1)))
theorem sheet_Sheet.mono_l : ∀ k, (∀ y0 y1 y2 y3, LeO (sheet_Sheet.j0 k y0 y1 y2 y3) (sheet_Sheet.j0 (k + 1) y0 y1 y2 y3))
  | 0 => fun _ _ _ _ r h => by simp [sheet_Sheet.j0] at h
  | k + 1 => by
    have ih0 := sheet_Sheet.mono_l k
    · intro y0 y1 y2 y3
      unfold sheet_Sheet.j0
      repeat' first
      | (with_reducible exact ih0 _ _ _ _)
      | (with_reducible exact LeO.refl _)
      | (with_reducible exact LeO.none _)
      | (with_reducible refine LeO.ite ?_ ?_)
      | (with_reducible refine LeO.bind ?_ (fun _ => ?_))
      | exact ih0 _ _ _ _
      | exact LeO.none _
      | refine LeO.ite ?_ ?_
      | refine LeO.bind ?_ (fun _ => ?_)
theorem sheet_Sheet.mono : ∀ a0 a1 a2 k, LeO (sheet_Sheet.f k a0 a1 a2) (sheet_Sheet.f (k + 1) a0 a1 a2) := by
  intro a0 a1 a2 k
  have ih0 := sheet_Sheet.mono_l k
  unfold sheet_Sheet.f
  repeat' first
      | (with_reducible exact ih0 _ _ _ _)
      | (with_reducible exact LeO.refl _)
      | (with_reducible exact LeO.none _)
      | (with_reducible refine LeO.ite ?_ ?_)
      | (with_reducible refine LeO.bind ?_ (fun _ => ?_))
      | exact ih0 _ _ _ _
      | exact LeO.none _
      | refine LeO.ite ?_ ?_
      | refine LeO.bind ?_ (fun _ => ?_)
set_option maxHeartbeats 8000000 in
set_option maxRecDepth 100000 in
theorem sheet_Sheet.calls (k : Nat) (a0 : Int) (a1 : Int) (a2 : Int) (r1 : Int) (r2 : Int) (w : World) (h : sheet_Sheet.f k a0 a1 a2 = some (r1, r2)) :
    Calls Try.prog 16 #[.int .i64 a0, .int .i64 a1, .int .i64 a2] w fun e w' => e = .returned (.tuple #[.int .i64 r1, .int .i64 r2]) ∧ Drawn0 w w' := by
  have H : ((sheet_right.f a0 a1).bind fun t17001 => (if t17001 = true then (if a2 < 0 then (sheet_Sheet.j0 k a0 a1 a2 true) else (sheet_Sheet.j0 k a0 a1 a2 (decide (a2 ≥ a0)))) else (some (0, 1)))) = some (r1, r2) := h
  clear h
  replace H := Option.bind_eq_some_iff.mp H
  obtain ⟨t17001, A40, H⟩ := H
  replace H : (if t17001 = true then (if a2 < 0 then (sheet_Sheet.j0 k a0 a1 a2 true) else (sheet_Sheet.j0 k a0 a1 a2 (decide (a2 ≥ a0)))) else (some (0, 1))) = some (r1, r2) := H
  have A4 := Aside0.mk A40
  clear A40
  by_cases c5 : t17001 = true
  · subst c5
    have H1 : (if a2 < 0 then (sheet_Sheet.j0 k a0 a1 a2 true) else (sheet_Sheet.j0 k a0 a1 a2 (decide (a2 ≥ a0)))) = some (r1, r2) := by rw [if_pos rfl] at H; exact H
    clear H
    have H := H1
    clear H1
    have HC6 := Aside0.mk H
    clear H
    go_enter Try.func16, Try.ntmps16
    go_upto_region 3 with (first | ((with_reducible refine gate_callee (f := 32) rfl ?_); refine goesL_ (some 10) rfl rfl Try.func32 (by kernel_rfl) rfl #[.int .i64 a0, .int .i64 a1] rfl (by (try simp only [List.map_toArray, List.map_cons, List.map_nil]); first | done | rfl | (simp only [List.length_drop, List.length_take]; rfl)) ?_; (with_reducible refine (sheet_right.calls a0 a1 true _ A4.out).mono ?_); rintro e w' ⟨rfl, ⟨nd, rfl⟩⟩; refine ⟨_, rfl, ?_⟩))
    (try simp only [Act.put, List.setIfInBounds_toArray, List.set_cons_zero, List.set_cons_succ])
    go_cut [18] (fun v18 wc => ∃ (kq : Nat) (x18_5 : Bool), v18 = .bool x18_5 ∧ Aside0 (sheet_Sheet.j0 kq a0 a1 a2 x18_5 = some (r1, r2)) ∧ Aside0 (kq ≤ k) ∧ Drawn0 w wc)
    case first =>
      have H := HC6.out
      clear HC6
      by_cases c7 : a2 < 0
      · rw [if_pos c7] at H
        have c7b0 : decide (a2 < 0) = true := decide_eq_true c7
        clear c7
        (first | rw [c7b0] | (simp only [i64_w, i32_w]; rw [c7b0]) | skip)
        have H' := Aside0.mk H
        clear H
        go_wp2
        go_meet
        case rel => exact ⟨_, (true), (by first | rfl | (simp; done) | (simp [*]; done)), H', ⟨by first | omega | exact Nat.le_refl _⟩, by repeat (first | exact Drawn0.refl _ | apply Drawn0.step)⟩
      · rw [if_neg c7] at H
        have c7b0 : decide (a2 < 0) = false := decide_eq_false c7
        clear c7
        (first | rw [c7b0] | (simp only [i64_w, i32_w]; rw [c7b0]) | skip)
        have H' := Aside0.mk H
        clear H
        go_wp2
        go_meet
        case rel => exact ⟨_, (decide (a2 ≥ a0)), (by first | rfl | (simp; done) | (simp [*]; done)), H', ⟨by first | omega | exact Nat.le_refl _⟩, by repeat (first | exact Drawn0.refl _ | apply Drawn0.step)⟩
    case rest =>
      clear HC6
      try clear c1
      try clear p2
      try clear c3
      try clear c5
      try clear c7
      try clear c7b0
      obtain ⟨kq, x18_5, rfl, HA, HJ5, ⟨mc5, rfl⟩⟩ := hcut
      cases kq with
      | zero => exact absurd HA.out (by simp [sheet_Sheet.j0])
      | succ kj5 =>
        have H := HA.out
        clear HA
        simp only [sheet_Sheet.j0] at H
        by_cases c8 : x18_5 = true
        · subst c8
          have H1 : (some (0, 21)) = some (r1, r2) := by rw [if_pos rfl] at H; exact H
          clear H
          have H := H1
          clear H1
          simp only [Option.some.injEq, Prod.mk.injEq] at H
          obtain ⟨rfl, rfl⟩ := H
          go_wp2
          go_ret2
          exact ⟨by first | rfl | (simp; done) | (simp [*]; done), by repeat (first | exact Drawn0.refl _ | apply Drawn0.step)⟩
        · replace c8 := Bool.eq_false_iff.mpr c8
          subst c8
          have H1 : (if a1 = 0 then (none) else (if a2 < (Int.tmod a0 a1) then (some (0, 7)) else (some (wrap64 (Int.tdiv (wrap64 ((wrap64 (a0 - 1)) - a2)) a1), 0)))) = some (r1, r2) := by rw [if_neg (show ¬ (false = true) by decide)] at H; exact H
          clear H
          have H := H1
          clear H1
          by_cases c9 : a1 = 0
          · rw [if_pos c9] at H
            exact absurd H (by simp)
          · rw [if_neg c9] at H
            have c9b0 : (a1 == 0) = false := beq_eq_false_iff_ne.mpr c9
            have c9b1 : (a1 != 0) = true := bne_iff_ne.mpr c9
            by_cases c10 : a2 < (Int.tmod a0 a1)
            · rw [if_pos c10] at H
              have c10b0 : decide (a2 < (Int.tmod a0 a1)) = true := decide_eq_true c10
              clear c10
              simp only [Option.some.injEq, Prod.mk.injEq] at H
              obtain ⟨rfl, rfl⟩ := H
              go_wp2
              go_ret2
              exact ⟨by first | rfl | (simp; done) | (simp [*]; done), by repeat (first | exact Drawn0.refl _ | apply Drawn0.step)⟩
            · rw [if_neg c10] at H
              have c10b0 : decide (a2 < (Int.tmod a0 a1)) = false := decide_eq_false c10
              clear c10
              simp only [Option.some.injEq, Prod.mk.injEq] at H
              obtain ⟨rfl, rfl⟩ := H
              go_wp2
              go_ret2
              exact ⟨by first | rfl | (simp; done) | (simp [*]; done), by repeat (first | exact Drawn0.refl _ | apply Drawn0.step)⟩
  · replace c5 := Bool.eq_false_iff.mpr c5
    subst c5
    have H1 : (some (0, 1)) = some (r1, r2) := by rw [if_neg (show ¬ (false = true) by decide)] at H; exact H
    clear H
    have H := H1
    clear H1
    simp only [Option.some.injEq, Prod.mk.injEq] at H
    obtain ⟨rfl, rfl⟩ := H
    go_enter Try.func16, Try.ntmps16
    go_wp2_with (first | ((with_reducible refine gate_callee (f := 32) rfl ?_); refine goesL_ (some 10) rfl rfl Try.func32 (by kernel_rfl) rfl #[.int .i64 a0, .int .i64 a1] rfl (by (try simp only [List.map_toArray, List.map_cons, List.map_nil]); first | done | rfl | (simp only [List.length_drop, List.length_take]; rfl)) ?_; (with_reducible refine (sheet_right.calls a0 a1 false _ A4.out).mono ?_); rintro e w' ⟨rfl, ⟨nd, rfl⟩⟩; refine ⟨_, rfl, ?_⟩))
    go_ret2
    exact ⟨by first | rfl | (simp; done) | (simp [*]; done), by repeat (first | exact Drawn0.refl _ | apply Drawn0.step)⟩

end Go.Proofs.Ytnfcpcgbdoiiiaa.G

namespace Go.Proofs.Ytnfcpcgbdoiiiaa.G
open Go.RowKit Go.Proofs.YtnfcpcgbdoiiiaaW.PrintWords Go.Proofs.YtnfcpcgbdoiiiaaW.PrintLast Go.Proofs.YtnfcpcgbdoiiiaaW.PrintMore
attribute [local go_sem] max2_int min2_int max_two min_two max_three min_three max_four min_four   -- for this text's walks alone
set_option linter.unusedVariables false
set_option linter.unusedSimpArgs false

def sheet_Place.j0 : Nat → Int → Int → Int → Int → Bool → Option (Int × Int)
 | 0, _, _, _, _, _ => none
 | k + 1, x0, x1, x2, x3, x22 => if x22 = true then (some (0, 7)) else (if x3 < 0 then (some (0, 21)) else (if x3 ≥ x1 then (some (0, 21)) else (some (wrap64 ((wrap64 ((wrap64 (x0 - 1)) - (wrap64 (x2 * x1)))) - x3), 0))))
def sheet_Place.f (k : Nat) (a0 : Int) (a1 : Int) (a2 : Int) (a3 : Int) : Option (Int × Int) := (sheet_right.f a0 a1).bind fun t19001 => (if t19001 = true then (if a2 < 0 then (sheet_Place.j0 k a0 a1 a2 a3 true) else (if a1 = 0 then (none) else (sheet_Place.j0 k a0 a1 a2 a3 (decide (a2 ≥ (wrap64 (Int.tdiv a0 a1))))))) else (some (0, 1)))
theorem sheet_Place.mono_l : ∀ k, (∀ y0 y1 y2 y3 y4, LeO (sheet_Place.j0 k y0 y1 y2 y3 y4) (sheet_Place.j0 (k + 1) y0 y1 y2 y3 y4))
 | 0 => fun _ _ _ _ _ r h => by simp [sheet_Place.j0] at h
 | k + 1 => by
  have ih0 := sheet_Place.mono_l k
  ·intro y0 y1 y2 y3 y4
   unfold sheet_Place.j0
   repeat' first
   | (with_reducible exact ih0 _ _ _ _ _)
   | (with_reducible exact LeO.refl _)
   | (with_reducible exact LeO.none _)
   | (with_reducible refine LeO.ite ?_ ?_)
   | (with_reducible refine LeO.bind ?_ (fun _ => ?_))
   | exact ih0 _ _ _ _ _
   | exact LeO.none _
   | refine LeO.ite ?_ ?_
   | refine LeO.bind ?_ (fun _ => ?_)
theorem sheet_Place.mono : ∀ a0 a1 a2 a3 k, LeO (sheet_Place.f k a0 a1 a2 a3) (sheet_Place.f (k + 1) a0 a1 a2 a3) := by
 intro a0 a1 a2 a3 k
 have ih0 := sheet_Place.mono_l k
 unfold sheet_Place.f
 repeat' first
   | (with_reducible exact ih0 _ _ _ _ _)
   | (with_reducible exact LeO.refl _)
   | (with_reducible exact LeO.none _)
   | (with_reducible refine LeO.ite ?_ ?_)
   | (with_reducible refine LeO.bind ?_ (fun _ => ?_))
   | exact ih0 _ _ _ _ _
   | exact LeO.none _
   | refine LeO.ite ?_ ?_
   | refine LeO.bind ?_ (fun _ => ?_)
set_option maxHeartbeats 8000000 in
set_option maxRecDepth 100000 in
theorem sheet_Place.calls (k : Nat) (a0 : Int) (a1 : Int) (a2 : Int) (a3 : Int) (r1 : Int) (r2 : Int) (w : World) (h : sheet_Place.f k a0 a1 a2 a3 = some (r1, r2)) :
  Calls Try.prog 18 #[.int .i64 a0, .int .i64 a1, .int .i64 a2, .int .i64 a3] w fun e w' => e = .returned (.tuple #[.int .i64 r1, .int .i64 r2]) ∧ Drawn0 w w' := by
 have H : ((sheet_right.f a0 a1).bind fun t19001 => (if t19001 = true then (if a2 < 0 then (sheet_Place.j0 k a0 a1 a2 a3 true) else (if a1 = 0 then (none) else (sheet_Place.j0 k a0 a1 a2 a3 (decide (a2 ≥ (wrap64 (Int.tdiv a0 a1))))))) else (some (0, 1)))) = some (r1, r2) := h
 clear h
 replace H := Option.bind_eq_some_iff.mp H
 obtain ⟨t19001, A50, H⟩ := H
 replace H : (if t19001 = true then (if a2 < 0 then (sheet_Place.j0 k a0 a1 a2 a3 true) else (if a1 = 0 then (none) else (sheet_Place.j0 k a0 a1 a2 a3 (decide (a2 ≥ (wrap64 (Int.tdiv a0 a1))))))) else (some (0, 1))) = some (r1, r2) := H
 have A5 := Aside0.mk A50
 clear A50
 by_cases c6 : t19001 = true
 ·subst c6
  have H1 : (if a2 < 0 then (sheet_Place.j0 k a0 a1 a2 a3 true) else (if a1 = 0 then (none) else (sheet_Place.j0 k a0 a1 a2 a3 (decide (a2 ≥ (wrap64 (Int.tdiv a0 a1))))))) = some (r1, r2) := by rw [if_pos rfl] at H; exact H
  clear H
  have H := H1
  clear H1
  have HC7 := Aside0.mk H
  clear H
  go_enter Try.func18, Try.ntmps18
  go_upto_region 3 with (first | ((with_reducible refine gate_callee (f := 32) rfl ?_); refine goesL_ (some 12) rfl rfl Try.func32 (by kernel_rfl) rfl #[.int .i64 a0, .int .i64 a1] rfl (by (try simp only [List.map_toArray, List.map_cons, List.map_nil]); first | done | rfl | (simp only [List.length_drop, List.length_take]; rfl)) ?_; (with_reducible refine (sheet_right.calls a0 a1 true _ A5.out).mono ?_); rintro e w' ⟨rfl, ⟨nd, rfl⟩⟩; refine ⟨_, rfl, ?_⟩))
  (try simp only [Act.put, List.setIfInBounds_toArray, List.set_cons_zero, List.set_cons_succ])
  go_cut [22] (fun v22 wc => ∃ (kq : Nat) (x22_6 : Bool), v22 = .bool x22_6 ∧ Aside0 (sheet_Place.j0 kq a0 a1 a2 a3 x22_6 = some (r1, r2)) ∧ Aside0 (kq ≤ k) ∧ Drawn0 w wc)
  case first =>
   have H := HC7.out
   clear HC7
   by_cases c8 : a2 < 0
   ·rw [if_pos c8] at H
    have c8b0 : decide (a2 < 0) = true := decide_eq_true c8
    clear c8
    (first | rw [c8b0] | (simp only [i64_w, i32_w]; rw [c8b0]) | skip)
    have H' := Aside0.mk H
    clear H
    go_wp2
    go_meet
    case rel => exact ⟨_, (true), (by first | rfl | (simp; done) | (simp [*]; done)), H', ⟨by first | omega | exact Nat.le_refl _⟩, by repeat (first | exact Drawn0.refl _ | apply Drawn0.step)⟩
   ·rw [if_neg c8] at H
    have c8b0 : decide (a2 < 0) = false := decide_eq_false c8
    clear c8
    (first | rw [c8b0] | (simp only [i64_w, i32_w]; rw [c8b0]) | skip)
    by_cases c9 : a1 = 0
    ·rw [if_pos c9] at H
     exact absurd H (by simp)
    ·rw [if_neg c9] at H
     have c9b0 : (a1 == 0) = false := beq_eq_false_iff_ne.mpr c9
     have c9b1 : (a1 != 0) = true := bne_iff_ne.mpr c9
     have H' := Aside0.mk H
     clear H
     go_wp2
     go_meet
     case rel => exact ⟨_, (decide (a2 ≥ (wrap64 (Int.tdiv a0 a1)))), (by first | rfl | (simp; done) | (simp [*]; done)), H', ⟨by first | omega | exact Nat.le_refl _⟩, by repeat (first | exact Drawn0.refl _ | apply Drawn0.step)⟩
  case rest =>
   clear HC7
   try clear c1
   try clear p2
   try clear c3
   try clear c6
   try clear p6
   try clear c8
   try clear c8b0
   try clear c9
   try clear c9b0
   try clear c9b1
   obtain ⟨kq, x22_6, rfl, HA, HJ6, ⟨mc6, rfl⟩⟩ := hcut
   cases kq with
   | zero => exact absurd HA.out (by simp [sheet_Place.j0])
   | succ kj6 =>
    have H := HA.out
    clear HA
    simp only [sheet_Place.j0] at H
    by_cases c10 : x22_6 = true
    ·subst c10
     have H1 : (some (0, 7)) = some (r1, r2) := by rw [if_pos rfl] at H; exact H
     clear H
     have H := H1
     clear H1
     simp only [Option.some.injEq, Prod.mk.injEq] at H
     obtain ⟨rfl, rfl⟩ := H
     go_wp2
     go_ret2
     exact ⟨by first | rfl | (simp; done) | (simp [*]; done), by repeat (first | exact Drawn0.refl _ | apply Drawn0.step)⟩
    ·replace c10 := Bool.eq_false_iff.mpr c10
     subst c10
     have H1 : (if a3 < 0 then (some (0, 21)) else (if a3 ≥ a1 then (some (0, 21)) else (some (wrap64 ((wrap64 ((wrap64 (a0 - 1)) - (wrap64 (a2 * a1)))) - a3), 0)))) = some (r1, r2) := by rw [if_neg (show ¬ (false = true) by decide)] at H; exact H
     clear H
     have H := H1
     clear H1
     by_cases c11 : a3 < 0
     ·rw [if_pos c11] at H
      have c11b0 : decide (a3 < 0) = true := decide_eq_true c11
      clear c11
      simp only [Option.some.injEq, Prod.mk.injEq] at H
      obtain ⟨rfl, rfl⟩ := H
      go_wp2
      go_ret2
      exact ⟨by first | rfl | (simp; done) | (simp [*]; done), by repeat (first | exact Drawn0.refl _ | apply Drawn0.step)⟩
     ·rw [if_neg c11] at H
      have c11b0 : decide (a3 < 0) = false := decide_eq_false c11
      clear c11
      by_cases c12 : a3 ≥ a1
      ·rw [if_pos c12] at H
       have c12b0 : decide (a1 ≤ a3) = true := decide_eq_true c12
       clear c12
       simp only [Option.some.injEq, Prod.mk.injEq] at H
       obtain ⟨rfl, rfl⟩ := H
       go_wp2
       go_ret2
       exact ⟨by first | rfl | (simp; done) | (simp [*]; done), by repeat (first | exact Drawn0.refl _ | apply Drawn0.step)⟩
      ·rw [if_neg c12] at H
       have c12b0 : decide (a1 ≤ a3) = false := decide_eq_false c12
       clear c12
       simp only [Option.some.injEq, Prod.mk.injEq] at H
       obtain ⟨rfl, rfl⟩ := H
       go_wp2
       go_ret2
       exact ⟨by first | rfl | (simp; done) | (simp [*]; done), by repeat (first | exact Drawn0.refl _ | apply Drawn0.step)⟩
 ·replace c6 := Bool.eq_false_iff.mpr c6
  subst c6
  have H1 : (some (0, 1)) = some (r1, r2) := by rw [if_neg (show ¬ (false = true) by decide)] at H; exact H
  clear H
  have H := H1
  clear H1
  simp only [Option.some.injEq, Prod.mk.injEq] at H
  obtain ⟨rfl, rfl⟩ := H
  go_enter Try.func18, Try.ntmps18
  go_wp2_with (first | ((with_reducible refine gate_callee (f := 32) rfl ?_); refine goesL_ (some 12) rfl rfl Try.func32 (by kernel_rfl) rfl #[.int .i64 a0, .int .i64 a1] rfl (by (try simp only [List.map_toArray, List.map_cons, List.map_nil]); first | done | rfl | (simp only [List.length_drop, List.length_take]; rfl)) ?_; (with_reducible refine (sheet_right.calls a0 a1 false _ A5.out).mono ?_); rintro e w' ⟨rfl, ⟨nd, rfl⟩⟩; refine ⟨_, rfl, ?_⟩))
  go_ret2
  exact ⟨by first | rfl | (simp; done) | (simp [*]; done), by repeat (first | exact Drawn0.refl _ | apply Drawn0.step)⟩

end Go.Proofs.Ytnfcpcgbdoiiiaa.G

namespace Go.Proofs.Ytnfcpcgbdoiiiaa.G
open Go.RowKit Go.Proofs.YtnfcpcgbdoiiiaaW.PrintWords Go.Proofs.YtnfcpcgbdoiiiaaW.PrintLast Go.Proofs.YtnfcpcgbdoiiiaaW.PrintMore
attribute [local go_sem] max2_int min2_int max_two min_two max_three min_three max_four min_four   -- for this text's walks alone
set_option linter.unusedVariables false
set_option linter.unusedSimpArgs false

attribute [local go_sem high] eqA50
def slices_Equal_api_Span_api_Span.l0 : Nat → List (S50) → List (S50) → Int → Int → Option (Bool)
 | 0, _, _, _, _ => none
 | k + 1, x0, x1, x12, x13 => if x13 < x12 then (if 0 ≤ x13 then (if x13 < (x0.length : Int) then (if x13 < (x1.length : Int) then (if (!(((rd_T50 x0 x13).f0) == ((rd_T50 x1 x13).f0)) || (!(((rd_T50 x0 x13).f1) == ((rd_T50 x1 x13).f1)))) = true then (some false) else (slices_Equal_api_Span_api_Span.l0 k x0 x1 x12 (wrap64 (x13 + 1)))) else (none)) else (none)) else (none)) else (some true)
def slices_Equal_api_Span_api_Span.f (k : Nat) (l0 : List (S50)) (l1 : List (S50)) : Option (Bool) := if (l0.length : Int) = (l1.length : Int) then (slices_Equal_api_Span_api_Span.l0 k l0 l1 (l0.length : Int) 0) else (some false)
theorem slices_Equal_api_Span_api_Span.mono_l : ∀ k, (∀ y0 y1 y2 y3, LeO (slices_Equal_api_Span_api_Span.l0 k y0 y1 y2 y3) (slices_Equal_api_Span_api_Span.l0 (k + 1) y0 y1 y2 y3))
 | 0 => fun _ _ _ _ r h => by simp [slices_Equal_api_Span_api_Span.l0] at h
 | k + 1 => by
  have ih0 := slices_Equal_api_Span_api_Span.mono_l k
  ·intro y0 y1 y2 y3
   unfold slices_Equal_api_Span_api_Span.l0
   repeat' first
   | (with_reducible exact ih0 _ _ _ _)
   | (with_reducible exact LeO.refl _)
   | (with_reducible exact LeO.none _)
   | (with_reducible refine LeO.ite ?_ ?_)
   | (with_reducible refine LeO.bind ?_ (fun _ => ?_))
   | exact ih0 _ _ _ _
   | exact LeO.none _
   | refine LeO.ite ?_ ?_
   | refine LeO.bind ?_ (fun _ => ?_)
theorem slices_Equal_api_Span_api_Span.mono : ∀ a0 a1 k, LeO (slices_Equal_api_Span_api_Span.f k a0 a1) (slices_Equal_api_Span_api_Span.f (k + 1) a0 a1) := by
 intro a0 a1 k
 have ih0 := slices_Equal_api_Span_api_Span.mono_l k
 unfold slices_Equal_api_Span_api_Span.f
 repeat' first
   | (with_reducible exact ih0 _ _ _ _)
   | (with_reducible exact LeO.refl _)
   | (with_reducible exact LeO.none _)
   | (with_reducible refine LeO.ite ?_ ?_)
   | (with_reducible refine LeO.bind ?_ (fun _ => ?_))
   | exact ih0 _ _ _ _
   | exact LeO.none _
   | refine LeO.ite ?_ ?_
   | refine LeO.bind ?_ (fun _ => ?_)
set_option maxHeartbeats 8000000 in
set_option maxRecDepth 100000 in
theorem slices_Equal_api_Span_api_Span.calls (k : Nat) (A0 : Option Addr) (c0 : Nat) (l0 : List (S50)) (A1 : Option Addr) (c1 : Nat) (l1 : List (S50)) (r : Bool) (w : World) (hr0 : Kd.C k50 w A0 l0.length l0) (hc0 : l0.length ≤ c0) (hr1 : Kd.C k50 w A1 l1.length l1) (hc1 : l1.length ≤ c1) (h : slices_Equal_api_Span_api_Span.f k l0 l1 = some r) :
  Calls Try.prog 56 #[.slice A0 l0.length c0, .slice A1 l1.length c1] w fun e w' => e = .returned (.bool r) ∧ Drawn0 w w' := by
 have hu50 := Try.underlying50
 have HR0 := Aside0.mk hr0
 have HC0 := Aside0.mk hc0
 clear hr0 hc0
 have HR1 := Aside0.mk hr1
 have HC1 := Aside0.mk hc1
 clear hr1 hc1
 have H : (if (l0.length : Int) = (l1.length : Int) then (slices_Equal_api_Span_api_Span.l0 k l0 l1 (l0.length : Int) 0) else (some false)) = some r := h
 clear h
 by_cases c3 : (l0.length : Int) = (l1.length : Int)
 ·rw [if_pos c3] at H
  have c3b0 : ((l0.length : Int) == (l1.length : Int)) = true := beq_iff_eq.mpr c3
  have c3b1 : ((l0.length : Int) != (l1.length : Int)) = false := bne_eq_false_iff_eq.mpr c3
  have c3b2 : (l0.length == l1.length) = true := by first | simpa using c3 | (simp at c3 ⊢; omega)
  clear c3
  have H' := Aside0.mk H
  clear H
  go_enter Try.func56, Try.ntmps56
  go_wp2
  repeat (go_quiet (fail); try go_wp2)
  go_loopg [13] k (fun kq v13 w' => ∃ (x13_1 : Int), v13 = .int .i64 x13_1 ∧ Aside0 (slices_Equal_api_Span_api_Span.l0 kq l0 l1 (l0.length : Int) x13_1 = some r) ∧ Aside0 (kq ≤ k) ∧ Drawn0 w w')
  case atStart => exact ⟨(0), (by first | rfl | (simp; done) | (simp [*]; done)), H', ⟨Nat.le_refl _⟩, by repeat (first | exact Drawn0.refl _ | apply Drawn0.step)⟩
  case round =>
   clear H'
   try clear c1
   try clear p2
   try clear c3
   try clear c3b0
   try clear c3b1
   try clear c3b2
   obtain ⟨x13_1, rfl, HA, HK1, ⟨m1, rfl⟩⟩ := hrel
   cases gk with
   | zero => exact absurd HA.out (by simp [slices_Equal_api_Span_api_Span.l0])
   | succ k1 =>
    have H := HA.out
    clear HA
    simp only [slices_Equal_api_Span_api_Span.l0] at H
    by_cases c4 : x13_1 < (l0.length : Int)
    ·rw [if_pos c4] at H
     have c4b0 : decide (x13_1 < (l0.length : Int)) = true := decide_eq_true c4
     clear c4
     by_cases c5 : 0 ≤ x13_1
     ·rw [if_pos c5] at H
      have c5b0 : decide (0 ≤ x13_1) = true := decide_eq_true c5
      clear c5
      by_cases c6 : x13_1 < (l0.length : Int)
      ·rw [if_pos c6] at H
       have c6b0 : decide (x13_1 < (l0.length : Int)) = true := decide_eq_true c6
       clear c6
       by_cases c7 : x13_1 < (l1.length : Int)
       ·rw [if_pos c7] at H
        have c7b0 : decide (x13_1 < (l1.length : Int)) = true := decide_eq_true c7
        clear c7
        by_cases c8 : (!(((rd_T50 l0 x13_1).f0) == ((rd_T50 l1 x13_1).f0)) || (!(((rd_T50 l0 x13_1).f1) == ((rd_T50 l1 x13_1).f1)))) = true
        ·rw [if_pos c8] at H
         have c8b0 : (!(((rd_T50 l0 x13_1).f0) == ((rd_T50 l1 x13_1).f0)) || (!(((rd_T50 l0 x13_1).f1) == ((rd_T50 l1 x13_1).f1)))) = true := c8
         clear c8
         obtain rfl := Option.some.inj H
         have p57001 : 0 ≤ (x13_1 : Int) := of_decide_eq_true (by assumption)
         have q57001 : x13_1 < (l0.length : Int) := of_decide_eq_true (by assumption)
         obtain ⟨ad57001, e57001, hx57001_0, hx57001_1⟩ := at_T50 HR0.out x13_1 p57001 q57001
         cases e57001
         replace p57001 := eq_true p57001
         replace q57001 := eq_true q57001
         have p57002 : 0 ≤ (x13_1 : Int) := of_decide_eq_true (by assumption)
         have q57002 : x13_1 < (l1.length : Int) := of_decide_eq_true (by assumption)
         obtain ⟨ad57002, e57002, hx57002_0, hx57002_1⟩ := at_T50 HR1.out x13_1 p57002 q57002
         cases e57002
         replace p57002 := eq_true p57002
         replace q57002 := eq_true q57002
         go_wp2
         repeat (go_quiet (fail); try go_wp2)
         go_ret
         exact ⟨by first | rfl | (simp; done) | (simp [*]; done), by repeat (first | exact Drawn0.refl _ | apply Drawn0.step)⟩
        ·rw [if_neg c8] at H
         have c8b0 : (!(((rd_T50 l0 x13_1).f0) == ((rd_T50 l1 x13_1).f0)) || (!(((rd_T50 l0 x13_1).f1) == ((rd_T50 l1 x13_1).f1)))) = false := by simpa using c8
         clear c8
         have H' := Aside0.mk H
         clear H
         have p57001 : 0 ≤ (x13_1 : Int) := of_decide_eq_true (by assumption)
         have q57001 : x13_1 < (l0.length : Int) := of_decide_eq_true (by assumption)
         obtain ⟨ad57001, e57001, hx57001_0, hx57001_1⟩ := at_T50 HR0.out x13_1 p57001 q57001
         cases e57001
         replace p57001 := eq_true p57001
         replace q57001 := eq_true q57001
         have p57002 : 0 ≤ (x13_1 : Int) := of_decide_eq_true (by assumption)
         have q57002 : x13_1 < (l1.length : Int) := of_decide_eq_true (by assumption)
         obtain ⟨ad57002, e57002, hx57002_0, hx57002_1⟩ := at_T50 HR1.out x13_1 p57002 q57002
         cases e57002
         replace p57002 := eq_true p57002
         replace q57002 := eq_true q57002
         go_wp2
         repeat (go_quiet (fail); try go_wp2)
         go_roundg k1
         case measure => have := HK1.out; omega
         case rel => exact ⟨(wrap64 (x13_1 + 1)), (by first | rfl | (simp; done) | (simp [*]; done)), H', ⟨by have := HK1.out; omega⟩, by repeat (first | exact Drawn0.refl _ | apply Drawn0.step)⟩
       ·rw [if_neg c7] at H
        exact absurd H (by simp)
      ·rw [if_neg c6] at H
       exact absurd H (by simp)
     ·rw [if_neg c5] at H
      exact absurd H (by simp)
    ·rw [if_neg c4] at H
     have c4b0 : decide (x13_1 < (l0.length : Int)) = false := decide_eq_false c4
     clear c4
     obtain rfl := Option.some.inj H
     go_wp2
     repeat (go_quiet (fail); try go_wp2)
     go_ret
     exact ⟨by first | rfl | (simp; done) | (simp [*]; done), by repeat (first | exact Drawn0.refl _ | apply Drawn0.step)⟩
 ·rw [if_neg c3] at H
  have c3b0 : ((l0.length : Int) == (l1.length : Int)) = false := beq_eq_false_iff_ne.mpr c3
  have c3b1 : ((l0.length : Int) != (l1.length : Int)) = true := bne_iff_ne.mpr c3
  have c3b2 : (l0.length == l1.length) = false := by first | simpa using c3 | (simp at c3 ⊢; omega)
  obtain rfl := Option.some.inj H
  go_enter Try.func56, Try.ntmps56
  go_wp2
  repeat (go_quiet (fail); try go_wp2)
  go_ret
  exact ⟨by first | rfl | (simp; done) | (simp [*]; done), by repeat (first | exact Drawn0.refl _ | apply Drawn0.step)⟩

end Go.Proofs.Ytnfcpcgbdoiiiaa.G

namespace Go.Proofs.Ytnfcpcgbdoiiiaa.G
open Go.RowKit Go.Proofs.YtnfcpcgbdoiiiaaW.PrintWords Go.Proofs.YtnfcpcgbdoiiiaaW.PrintLast Go.Proofs.YtnfcpcgbdoiiiaaW.PrintMore
attribute [local go_sem] max2_int min2_int max_two min_two max_three min_three max_four min_four   -- for this text's walks alone
set_option linter.unusedVariables false
set_option linter.unusedSimpArgs false

def sheet_one.j0 : Nat → Bool → Int → List (S50) → Int → Option (Int)
 | 0, _, _, _, _ => none
 | k + 1, x13, x40002000, x40002001, x40002002 => if x13 = true then (some 1) else ((span_Norm.f k x40002001).bind fun bt40002 => (if bt40002.2 = 0 then ((slices_Equal_api_Span_api_Span.f k bt40002.1 x40002001).bind fun t40006 => (if t40006 = true then (if (bt40002.1.length : Int) > 0 then (if 0 ≤ (wrap64 ((bt40002.1.length : Int) - 1)) then (if (wrap64 ((bt40002.1.length : Int) - 1)) < (bt40002.1.length : Int) then (if ((rd_T50 bt40002.1 (wrap64 ((bt40002.1.length : Int) - 1))).f1) > x40002000 then (some 1) else (some 0)) else (none)) else (none)) else (some 0)) else (some 9))) else (some bt40002.2)))
def sheet_one.f (k : Nat) (a0_0 : Int) (l0_1 : List (S50)) (a0_2 : Int) : Option (Int) := if a0_0 < 0 then (sheet_one.j0 k true a0_0 l0_1 a0_2) else (sheet_one.j0 k (decide (a0_0 > 17179869184)) a0_0 l0_1 a0_2)
theorem sheet_one.mono_l : ∀ k, (∀ y0 y1 y2 y3, LeO (sheet_one.j0 k y0 y1 y2 y3) (sheet_one.j0 (k + 1) y0 y1 y2 y3))
 | 0 => fun _ _ _ _ r h => by simp [sheet_one.j0] at h
 | k + 1 => by
  have ih0 := sheet_one.mono_l k
  ·intro y0 y1 y2 y3
   unfold sheet_one.j0
   repeat' first
   | (with_reducible exact ih0 _ _ _ _)
   | (with_reducible exact slices_Equal_api_Span_api_Span.mono _ _ _)
   | (with_reducible exact span_Norm.mono _ _)
   | (with_reducible exact LeO.refl _)
   | (with_reducible exact LeO.none _)
   | (with_reducible refine LeO.ite ?_ ?_)
   | (with_reducible refine LeO.bind ?_ (fun _ => ?_))
   | exact ih0 _ _ _ _
   | exact slices_Equal_api_Span_api_Span.mono _ _ _
   | exact span_Norm.mono _ _
   | exact LeO.none _
   | refine LeO.ite ?_ ?_
   | refine LeO.bind ?_ (fun _ => ?_)
theorem sheet_one.mono : ∀ a0 a1 a2 k, LeO (sheet_one.f k a0 a1 a2) (sheet_one.f (k + 1) a0 a1 a2) := by
 intro a0 a1 a2 k
 have ih0 := sheet_one.mono_l k
 unfold sheet_one.f
 repeat' first
   | (with_reducible exact ih0 _ _ _ _)
   | (with_reducible exact slices_Equal_api_Span_api_Span.mono _ _ _)
   | (with_reducible exact span_Norm.mono _ _)
   | (with_reducible exact LeO.refl _)
   | (with_reducible exact LeO.none _)
   | (with_reducible refine LeO.ite ?_ ?_)
   | (with_reducible refine LeO.bind ?_ (fun _ => ?_))
   | exact ih0 _ _ _ _
   | exact slices_Equal_api_Span_api_Span.mono _ _ _
   | exact span_Norm.mono _ _
   | exact LeO.none _
   | refine LeO.ite ?_ ?_
   | refine LeO.bind ?_ (fun _ => ?_)
set_option maxHeartbeats 8000000 in
set_option maxRecDepth 100000 in
theorem sheet_one.calls (k : Nat) (a0_0 : Int) (A0_1 : Option Addr) (c0_1 : Nat) (l0_1 : List (S50)) (a0_2 : Int) (r : Int) (w : World) (hr0_1 : Kd.C k50 w A0_1 l0_1.length l0_1) (hc0_1 : l0_1.length ≤ c0_1) (h : sheet_one.f k a0_0 l0_1 a0_2 = some r) :
  Calls Try.prog 39 #[.agg #[.int .i64 a0_0, .slice A0_1 l0_1.length c0_1, .int .i64 a0_2]] w fun e w' => e = .returned (.int .i64 r) ∧ Below w.heap.size w w' := by
 have hu25 := Try.underlying25
 have HR0_1 := Aside0.mk hr0_1
 have HC0_1 := Aside0.mk hc0_1
 clear hr0_1 hc0_1
 have HB := Aside0.mk (Below.refl w.heap.size w)
 have H : (if a0_0 < 0 then (sheet_one.j0 k true a0_0 l0_1 a0_2) else (sheet_one.j0 k (decide (a0_0 > 17179869184)) a0_0 l0_1 a0_2)) = some r := h
 clear h
 have HC2 := Aside0.mk H
 clear H
 go_enter Try.func39, Try.ntmps39
 go_upto_region 1 with (first | ((with_reducible refine gate_dst (N := 1) rfl ?_); refine box_event ?hg (N := 1) ?hd (cs := #[.int .i64 a0_0, .slice A0_1 l0_1.length c0_1, .int .i64 a0_2]) (t := 25) ?hr ?_; (case hd => rfl); (case hg => rfl); (case hr => first | (go_simp; done) | (go_simp; rfl)); intro gb40001 hg w3 hbox hb; have n0_ := Aside0.mk (below_step (by repeat (first | exact HB.out | apply below_alloc | apply pw_below_drewN | apply below_drew1)) hb); have n1_ := Aside0.mk (hbox); have n2_ := Aside0.mk ((by rw [hg]; exact (below_size (by repeat (first | exact HB.out | apply below_alloc | apply pw_below_drewN | apply below_drew1))) : w.heap.size ≤ gb40001)); have n3_ := Aside0.mk ((by rw [hg]; exact (below_size (by repeat (first | exact HB.out | apply below_alloc | apply pw_below_drewN | apply below_drew1))) : w.heap.size ≤ gb40001)); clear HB; have HB := n0_; have BK40001 := n1_; have GW40001 := n2_; have GE40001 := n3_; clear n0_ n1_ n2_ n3_; clear hb hbox hg))
 repeat (go_quiet (first | ((with_reducible refine gate_dst (N := 1) rfl ?_); refine box_event ?hg (N := 1) ?hd (cs := #[.int .i64 a0_0, .slice A0_1 l0_1.length c0_1, .int .i64 a0_2]) (t := 25) ?hr ?_; (case hd => rfl); (case hg => rfl); (case hr => first | (go_simp; done) | (go_simp; rfl)); intro gb40001 hg w3 hbox hb; have n0_ := Aside0.mk (below_step (by repeat (first | exact HB.out | apply below_alloc | apply pw_below_drewN | apply below_drew1)) hb); have n1_ := Aside0.mk (hbox); have n2_ := Aside0.mk ((by rw [hg]; exact (below_size (by repeat (first | exact HB.out | apply below_alloc | apply pw_below_drewN | apply below_drew1))) : w.heap.size ≤ gb40001)); have n3_ := Aside0.mk ((by rw [hg]; exact (below_size (by repeat (first | exact HB.out | apply below_alloc | apply pw_below_drewN | apply below_drew1))) : w.heap.size ≤ gb40001)); clear HB; have HB := n0_; have BK40001 := n1_; have GW40001 := n2_; have GE40001 := n3_; clear n0_ n1_ n2_ n3_; clear hb hbox hg)); go_upto_region 1 with (first | ((with_reducible refine gate_dst (N := 1) rfl ?_); refine box_event ?hg (N := 1) ?hd (cs := #[.int .i64 a0_0, .slice A0_1 l0_1.length c0_1, .int .i64 a0_2]) (t := 25) ?hr ?_; (case hd => rfl); (case hg => rfl); (case hr => first | (go_simp; done) | (go_simp; rfl)); intro gb40001 hg w3 hbox hb; have n0_ := Aside0.mk (below_step (by repeat (first | exact HB.out | apply below_alloc | apply pw_below_drewN | apply below_drew1)) hb); have n1_ := Aside0.mk (hbox); have n2_ := Aside0.mk ((by rw [hg]; exact (below_size (by repeat (first | exact HB.out | apply below_alloc | apply pw_below_drewN | apply below_drew1))) : w.heap.size ≤ gb40001)); have n3_ := Aside0.mk ((by rw [hg]; exact (below_size (by repeat (first | exact HB.out | apply below_alloc | apply pw_below_drewN | apply below_drew1))) : w.heap.size ≤ gb40001)); clear HB; have HB := n0_; have BK40001 := n1_; have GW40001 := n2_; have GE40001 := n3_; clear n0_ n1_ n2_ n3_; clear hb hbox hg)))
 (try simp only [Act.put, List.setIfInBounds_toArray, List.set_cons_zero, List.set_cons_succ])
 go_cut [13] (fun v13 wc => ∃ (kq : Nat) (x13_1 : Bool), v13 = .bool x13_1 ∧ Aside0 (sheet_one.j0 kq x13_1 a0_0 l0_1 a0_2 = some r) ∧ Aside0 (kq ≤ k) ∧ Aside0 (wc.heap[gb40001]? = some (.cells #[.int .i64 a0_0, (.slice A0_1 l0_1.length c0_1), .int .i64 a0_2] 25 (0, 0))) ∧ Aside0 (Below w.heap.size w wc))
 case first =>
  have H := HC2.out
  clear HC2
  by_cases c4 : a0_0 < 0
  ·rw [if_pos c4] at H
   have c4b0 : decide (a0_0 < 0) = true := decide_eq_true c4
   clear c4
   (first | rw [c4b0] | (simp only [i64_w, i32_w]; rw [c4b0]) | skip)
   have H' := Aside0.mk H
   clear H
   have hcz5_0 : w3.cell? ⟨gb40001, 0, none⟩ = some (.int .i64 a0_0) := (blk_cell BK40001.out 0).trans rfl
   have hcz5_1 : w3.cell? ⟨gb40001, 1, none⟩ = some (.slice A0_1 l0_1.length c0_1) := (blk_cell BK40001.out 1).trans rfl
   have hcz5_2 : w3.cell? ⟨gb40001, 2, none⟩ = some (.int .i64 a0_2) := (blk_cell BK40001.out 2).trans rfl
   have hfz5_0 := blk_frozen BK40001.out 0
   have hfz5_1 := blk_frozen BK40001.out 1
   have hfz5_2 := blk_frozen BK40001.out 2
   go_wp2
   repeat (go_quiet (fail); try go_wp2)
   go_meet
   case rel => exact ⟨_, (true), (by first | rfl | (simp; done) | (simp [*]; done)), H', ⟨by first | omega | exact Nat.le_refl _⟩, ⟨BK40001.out⟩, ⟨by repeat (first | exact HB.out | apply below_alloc | apply pw_below_drewN | apply below_drew1 | refine below_set ?_ GE40001.out)⟩⟩
  ·rw [if_neg c4] at H
   have c4b0 : decide (a0_0 < 0) = false := decide_eq_false c4
   clear c4
   (first | rw [c4b0] | (simp only [i64_w, i32_w]; rw [c4b0]) | skip)
   have H' := Aside0.mk H
   clear H
   have hcz6_0 : w3.cell? ⟨gb40001, 0, none⟩ = some (.int .i64 a0_0) := (blk_cell BK40001.out 0).trans rfl
   have hcz6_1 : w3.cell? ⟨gb40001, 1, none⟩ = some (.slice A0_1 l0_1.length c0_1) := (blk_cell BK40001.out 1).trans rfl
   have hcz6_2 : w3.cell? ⟨gb40001, 2, none⟩ = some (.int .i64 a0_2) := (blk_cell BK40001.out 2).trans rfl
   have hfz6_0 := blk_frozen BK40001.out 0
   have hfz6_1 := blk_frozen BK40001.out 1
   have hfz6_2 := blk_frozen BK40001.out 2
   go_wp2
   repeat (go_quiet (fail); try go_wp2)
   go_meet
   case rel => exact ⟨_, (decide (a0_0 > 17179869184)), (by first | rfl | (simp; done) | (simp [*]; done)), H', ⟨by first | omega | exact Nat.le_refl _⟩, ⟨BK40001.out⟩, ⟨by repeat (first | exact HB.out | apply below_alloc | apply pw_below_drewN | apply below_drew1 | refine below_set ?_ GE40001.out)⟩⟩
 case rest =>
  clear HC2
  try clear p2
  try clear c3
  try clear c4
  try clear c4b0
  try clear hcz5_0
  try clear hcz5_1
  try clear hcz5_2
  try clear hcz6_0
  try clear hcz6_1
  try clear hcz6_2
  try clear hfz5_0
  try clear hfz5_1
  try clear hfz5_2
  try clear hfz6_0
  try clear hfz6_1
  try clear hfz6_2
  obtain ⟨kq, x13_1, rfl, HA, HJ1, BK40001, HB⟩ := hcut
  cases kq with
  | zero => exact absurd HA.out (by simp [sheet_one.j0])
  | succ kj1 =>
   have H := HA.out
   clear HA
   simp only [sheet_one.j0] at H
   by_cases c7 : x13_1 = true
   ·subst c7
    have H1 : (some 1) = some r := by rw [if_pos rfl] at H; exact H
    clear H
    have H := H1
    clear H1
    obtain rfl := Option.some.inj H
    go_wp2
    repeat (go_quiet (fail); try go_wp2)
    go_ret
    exact ⟨by first | rfl | (simp [errW_none, errW_some] <;> rfl) | (simp [*, errW_none, errW_some] <;> rfl), by repeat (first | exact HB.out | apply below_alloc | apply pw_below_drewN | apply below_drew1 | refine below_set ?_ GE40001.out)⟩
   ·replace c7 := Bool.eq_false_iff.mpr c7
    subst c7
    have H1 : ((span_Norm.f kj1 l0_1).bind fun bt40002 => (if bt40002.2 = 0 then ((slices_Equal_api_Span_api_Span.f kj1 bt40002.1 l0_1).bind fun t40006 => (if t40006 = true then (if (bt40002.1.length : Int) > 0 then (if 0 ≤ (wrap64 ((bt40002.1.length : Int) - 1)) then (if (wrap64 ((bt40002.1.length : Int) - 1)) < (bt40002.1.length : Int) then (if ((rd_T50 bt40002.1 (wrap64 ((bt40002.1.length : Int) - 1))).f1) > a0_0 then (some 1) else (some 0)) else (none)) else (none)) else (some 0)) else (some 9))) else (some bt40002.2))) = some r := by rw [if_neg (show ¬ (false = true) by decide)] at H; exact H
    clear H
    have H := H1
    clear H1
    replace H := Option.bind_eq_some_iff.mp H
    obtain ⟨⟨t40002, t40003⟩, A80, H⟩ := H
    replace H : (if t40003 = 0 then ((slices_Equal_api_Span_api_Span.f kj1 t40002 l0_1).bind fun t40006 => (if t40006 = true then (if (t40002.length : Int) > 0 then (if 0 ≤ (wrap64 ((t40002.length : Int) - 1)) then (if (wrap64 ((t40002.length : Int) - 1)) < (t40002.length : Int) then (if ((rd_T50 t40002 (wrap64 ((t40002.length : Int) - 1))).f1) > a0_0 then (some 1) else (some 0)) else (none)) else (none)) else (some 0)) else (some 9))) else (some t40003)) = some r := H
    have A8 := Aside0.mk A80
    clear A80
    by_cases c9 : t40003 = 0
    ·rw [if_pos c9] at H
     have c9b0 : (t40003 == 0) = true := beq_iff_eq.mpr c9
     have c9b1 : (t40003 != 0) = false := bne_eq_false_iff_eq.mpr c9
     clear c9
     replace H := Option.bind_eq_some_iff.mp H
     obtain ⟨t40006, A100, H⟩ := H
     replace H : (if t40006 = true then (if (t40002.length : Int) > 0 then (if 0 ≤ (wrap64 ((t40002.length : Int) - 1)) then (if (wrap64 ((t40002.length : Int) - 1)) < (t40002.length : Int) then (if ((rd_T50 t40002 (wrap64 ((t40002.length : Int) - 1))).f1) > a0_0 then (some 1) else (some 0)) else (none)) else (none)) else (some 0)) else (some 9)) = some r := H
     have A10 := Aside0.mk A100
     clear A100
     by_cases c11 : t40006 = true
     ·subst c11
      have H1 : (if (t40002.length : Int) > 0 then (if 0 ≤ (wrap64 ((t40002.length : Int) - 1)) then (if (wrap64 ((t40002.length : Int) - 1)) < (t40002.length : Int) then (if ((rd_T50 t40002 (wrap64 ((t40002.length : Int) - 1))).f1) > a0_0 then (some 1) else (some 0)) else (none)) else (none)) else (some 0)) = some r := by rw [if_pos rfl] at H; exact H
      clear H
      have H := H1
      clear H1
      by_cases c12 : (t40002.length : Int) > 0
      ·rw [if_pos c12] at H
       have c12b0 : decide (0 < (t40002.length : Int)) = true := decide_eq_true c12
       have c12b1 : decide (0 < t40002.length) = true := decide_eq_true (by omega)
       clear c12
       obtain ⟨ji13, hji13⟩ : ∃ j_ : Int, (wrap64 ((t40002.length : Int) - 1)) = j_ := ⟨_, rfl⟩
       replace H : (if 0 ≤ (ji13) then (if (ji13) < (t40002.length : Int) then (if ((rd_T50 t40002 (ji13)).f1) > a0_0 then (some 1) else (some 0)) else (none)) else (none)) = some r := by first | (rw [hji13] at H; exact H) | (simp only [hji13] at H ⊢; exact H)
       (try rw [hji13] at A8)
       (try rw [hji13] at A10)
       have hji13w : (IntKind.i64.wrap ((t40002.length : Int) - 1)) = ji13 := (i64_w _).trans hji13
       by_cases c14 : 0 ≤ (ji13)
       ·rw [if_pos c14] at H
        have c14b0 : decide (0 ≤ (ji13)) = true := decide_eq_true c14
        clear c14
        by_cases c15 : (ji13) < (t40002.length : Int)
        ·rw [if_pos c15] at H
         have c15b0 : decide ((ji13) < (t40002.length : Int)) = true := decide_eq_true c15
         clear c15
         by_cases c16 : ((rd_T50 t40002 (ji13)).f1) > a0_0
         ·rw [if_pos c16] at H
          have c16b0 : decide (a0_0 < ((rd_T50 t40002 (ji13)).f1)) = true := decide_eq_true c16
          clear c16
          obtain rfl := Option.some.inj H
          have hcz17_0 : wc.cell? ⟨gb40001, 0, none⟩ = some (.int .i64 a0_0) := (blk_cell BK40001.out 0).trans rfl
          have hcz17_1 : wc.cell? ⟨gb40001, 1, none⟩ = some (.slice A0_1 l0_1.length c0_1) := (blk_cell BK40001.out 1).trans rfl
          have hcz17_2 : wc.cell? ⟨gb40001, 2, none⟩ = some (.int .i64 a0_2) := (blk_cell BK40001.out 2).trans rfl
          have hfz17_0 := blk_frozen BK40001.out 0
          have hfz17_1 := blk_frozen BK40001.out 1
          have hfz17_2 := blk_frozen BK40001.out 2
          go_wp2_with (first | (go_at_call 55; (with_reducible refine (span_Norm.calls kj1 _ _ l0_1 t40002 t40003 _ ?side1 ?side2 A8.out).mono ?_); (case side1 => exact (Kd.C_below HR0_1.out HB.out)); (case side2 => exact HC0_1.out); rintro e w18 ⟨v40004, rfl, ho0, hb⟩; have n0_ := Aside0.mk (Kd.R_lower ho0 (below_size (by repeat (first | exact HB.out | apply below_alloc | apply pw_below_drewN | apply below_drew1 | refine below_set ?_ GE40001.out)))); have n1_ := Aside0.mk (blk_below (g := gb40001) (o := .cells #[.int .i64 a0_0, .slice A0_1 l0_1.length c0_1, .int .i64 a0_2] 25 (0, 0)) (BK40001.out) hb); have n2_ := Aside0.mk (below_step (by repeat (first | exact HB.out | apply below_alloc | apply pw_below_drewN | apply below_drew1 | refine below_set ?_ GE40001.out)) hb); clear BK40001; clear HB; have HO40005 := n0_; have BK40001 := n1_; have HB := n2_; clear n0_ n1_ n2_; (try clear hb); (try clear hb2); (try clear hk); (try clear hi); (try clear ho0); have hcz19_0 : w18.cell? ⟨gb40001, 0, none⟩ = some (.int .i64 a0_0) := (blk_cell BK40001.out 0).trans rfl; have hcz19_1 : w18.cell? ⟨gb40001, 1, none⟩ = some (.slice A0_1 l0_1.length c0_1) := (blk_cell BK40001.out 1).trans rfl; have hcz19_2 : w18.cell? ⟨gb40001, 2, none⟩ = some (.int .i64 a0_2) := (blk_cell BK40001.out 2).trans rfl; have hfz19_0 := blk_frozen BK40001.out 0; have hfz19_1 := blk_frozen BK40001.out 1; have hfz19_2 := blk_frozen BK40001.out 2; obtain ⟨Ao20, co20, eo20⟩ := Kd.R_slice HO40005.out; subst eo20) | (go_at_call 56; (with_reducible refine (slices_Equal_api_Span_api_Span.calls kj1 _ _ t40002 _ _ l0_1 true _ ?side1 ?side2 ?side3 ?side4 A10.out).mono ?_); (case side1 => exact (Kd.R_reads' HO40005.out).2.2); (case side2 => exact (Kd.R_reads' HO40005.out).2.1); (case side3 => exact (Kd.C_below HR0_1.out HB.out)); (case side4 => exact HC0_1.out); rintro e w' ⟨rfl, ⟨nd, rfl⟩⟩; (try first | exact ⟨rfl, _, World.drewN_drewN _ _ _⟩ | exact ⟨rfl, _, Eq.trans (World.drewN_drewN _ _ _) (congrArg (World.drewN _) (Nat.add_assoc _ _ _))⟩); have p40007 : 0 ≤ ((ji13) : Int) := of_decide_eq_true (by assumption); have q40007 : (ji13) < (t40002.length : Int) := of_decide_eq_true (by assumption); obtain ⟨ad40007, e40007, hx40007_0, hx40007_1⟩ := at_T50 (Kd.R_reads' HO40005.out).2.2 (ji13) p40007 q40007; cases e40007; replace p40007 := eq_true p40007; replace q40007 := eq_true q40007))
          repeat (go_quiet (first | (go_at_call 55; (with_reducible refine (span_Norm.calls kj1 _ _ l0_1 t40002 t40003 _ ?side1 ?side2 A8.out).mono ?_); (case side1 => exact (Kd.C_below HR0_1.out HB.out)); (case side2 => exact HC0_1.out); rintro e w18 ⟨v40004, rfl, ho0, hb⟩; have n0_ := Aside0.mk (Kd.R_lower ho0 (below_size (by repeat (first | exact HB.out | apply below_alloc | apply pw_below_drewN | apply below_drew1 | refine below_set ?_ GE40001.out)))); have n1_ := Aside0.mk (blk_below (g := gb40001) (o := .cells #[.int .i64 a0_0, .slice A0_1 l0_1.length c0_1, .int .i64 a0_2] 25 (0, 0)) (BK40001.out) hb); have n2_ := Aside0.mk (below_step (by repeat (first | exact HB.out | apply below_alloc | apply pw_below_drewN | apply below_drew1 | refine below_set ?_ GE40001.out)) hb); clear BK40001; clear HB; have HO40005 := n0_; have BK40001 := n1_; have HB := n2_; clear n0_ n1_ n2_; (try clear hb); (try clear hb2); (try clear hk); (try clear hi); (try clear ho0); have hcz19_0 : w18.cell? ⟨gb40001, 0, none⟩ = some (.int .i64 a0_0) := (blk_cell BK40001.out 0).trans rfl; have hcz19_1 : w18.cell? ⟨gb40001, 1, none⟩ = some (.slice A0_1 l0_1.length c0_1) := (blk_cell BK40001.out 1).trans rfl; have hcz19_2 : w18.cell? ⟨gb40001, 2, none⟩ = some (.int .i64 a0_2) := (blk_cell BK40001.out 2).trans rfl; have hfz19_0 := blk_frozen BK40001.out 0; have hfz19_1 := blk_frozen BK40001.out 1; have hfz19_2 := blk_frozen BK40001.out 2; obtain ⟨Ao20, co20, eo20⟩ := Kd.R_slice HO40005.out; subst eo20) | (go_at_call 56; (with_reducible refine (slices_Equal_api_Span_api_Span.calls kj1 _ _ t40002 _ _ l0_1 true _ ?side1 ?side2 ?side3 ?side4 A10.out).mono ?_); (case side1 => exact (Kd.R_reads' HO40005.out).2.2); (case side2 => exact (Kd.R_reads' HO40005.out).2.1); (case side3 => exact (Kd.C_below HR0_1.out HB.out)); (case side4 => exact HC0_1.out); rintro e w' ⟨rfl, ⟨nd, rfl⟩⟩; (try first | exact ⟨rfl, _, World.drewN_drewN _ _ _⟩ | exact ⟨rfl, _, Eq.trans (World.drewN_drewN _ _ _) (congrArg (World.drewN _) (Nat.add_assoc _ _ _))⟩); have p40007 : 0 ≤ ((ji13) : Int) := of_decide_eq_true (by assumption); have q40007 : (ji13) < (t40002.length : Int) := of_decide_eq_true (by assumption); obtain ⟨ad40007, e40007, hx40007_0, hx40007_1⟩ := at_T50 (Kd.R_reads' HO40005.out).2.2 (ji13) p40007 q40007; cases e40007; replace p40007 := eq_true p40007; replace q40007 := eq_true q40007)); try go_wp2_with (first | (go_at_call 55; (with_reducible refine (span_Norm.calls kj1 _ _ l0_1 t40002 t40003 _ ?side1 ?side2 A8.out).mono ?_); (case side1 => exact (Kd.C_below HR0_1.out HB.out)); (case side2 => exact HC0_1.out); rintro e w18 ⟨v40004, rfl, ho0, hb⟩; have n0_ := Aside0.mk (Kd.R_lower ho0 (below_size (by repeat (first | exact HB.out | apply below_alloc | apply pw_below_drewN | apply below_drew1 | refine below_set ?_ GE40001.out)))); have n1_ := Aside0.mk (blk_below (g := gb40001) (o := .cells #[.int .i64 a0_0, .slice A0_1 l0_1.length c0_1, .int .i64 a0_2] 25 (0, 0)) (BK40001.out) hb); have n2_ := Aside0.mk (below_step (by repeat (first | exact HB.out | apply below_alloc | apply pw_below_drewN | apply below_drew1 | refine below_set ?_ GE40001.out)) hb); clear BK40001; clear HB; have HO40005 := n0_; have BK40001 := n1_; have HB := n2_; clear n0_ n1_ n2_; (try clear hb); (try clear hb2); (try clear hk); (try clear hi); (try clear ho0); have hcz19_0 : w18.cell? ⟨gb40001, 0, none⟩ = some (.int .i64 a0_0) := (blk_cell BK40001.out 0).trans rfl; have hcz19_1 : w18.cell? ⟨gb40001, 1, none⟩ = some (.slice A0_1 l0_1.length c0_1) := (blk_cell BK40001.out 1).trans rfl; have hcz19_2 : w18.cell? ⟨gb40001, 2, none⟩ = some (.int .i64 a0_2) := (blk_cell BK40001.out 2).trans rfl; have hfz19_0 := blk_frozen BK40001.out 0; have hfz19_1 := blk_frozen BK40001.out 1; have hfz19_2 := blk_frozen BK40001.out 2; obtain ⟨Ao20, co20, eo20⟩ := Kd.R_slice HO40005.out; subst eo20) | (go_at_call 56; (with_reducible refine (slices_Equal_api_Span_api_Span.calls kj1 _ _ t40002 _ _ l0_1 true _ ?side1 ?side2 ?side3 ?side4 A10.out).mono ?_); (case side1 => exact (Kd.R_reads' HO40005.out).2.2); (case side2 => exact (Kd.R_reads' HO40005.out).2.1); (case side3 => exact (Kd.C_below HR0_1.out HB.out)); (case side4 => exact HC0_1.out); rintro e w' ⟨rfl, ⟨nd, rfl⟩⟩; (try first | exact ⟨rfl, _, World.drewN_drewN _ _ _⟩ | exact ⟨rfl, _, Eq.trans (World.drewN_drewN _ _ _) (congrArg (World.drewN _) (Nat.add_assoc _ _ _))⟩); have p40007 : 0 ≤ ((ji13) : Int) := of_decide_eq_true (by assumption); have q40007 : (ji13) < (t40002.length : Int) := of_decide_eq_true (by assumption); obtain ⟨ad40007, e40007, hx40007_0, hx40007_1⟩ := at_T50 (Kd.R_reads' HO40005.out).2.2 (ji13) p40007 q40007; cases e40007; replace p40007 := eq_true p40007; replace q40007 := eq_true q40007)))
          go_ret
          exact ⟨by first | rfl | (simp [errW_none, errW_some] <;> rfl) | (simp only [← hji13]; first | rfl | (simp [errW_none, errW_some] <;> rfl)) | (simp [*, errW_none, errW_some] <;> rfl), by repeat (first | exact HB.out | apply below_alloc | apply pw_below_drewN | apply below_drew1 | refine below_set ?_ GE40001.out)⟩
         ·rw [if_neg c16] at H
          have c16b0 : decide (a0_0 < ((rd_T50 t40002 (ji13)).f1)) = false := decide_eq_false c16
          clear c16
          obtain rfl := Option.some.inj H
          have hcz21_0 : wc.cell? ⟨gb40001, 0, none⟩ = some (.int .i64 a0_0) := (blk_cell BK40001.out 0).trans rfl
          have hcz21_1 : wc.cell? ⟨gb40001, 1, none⟩ = some (.slice A0_1 l0_1.length c0_1) := (blk_cell BK40001.out 1).trans rfl
          have hcz21_2 : wc.cell? ⟨gb40001, 2, none⟩ = some (.int .i64 a0_2) := (blk_cell BK40001.out 2).trans rfl
          have hfz21_0 := blk_frozen BK40001.out 0
          have hfz21_1 := blk_frozen BK40001.out 1
          have hfz21_2 := blk_frozen BK40001.out 2
          go_wp2_with (first | (go_at_call 55; (with_reducible refine (span_Norm.calls kj1 _ _ l0_1 t40002 t40003 _ ?side1 ?side2 A8.out).mono ?_); (case side1 => exact (Kd.C_below HR0_1.out HB.out)); (case side2 => exact HC0_1.out); rintro e w22 ⟨v40004, rfl, ho0, hb⟩; have n0_ := Aside0.mk (Kd.R_lower ho0 (below_size (by repeat (first | exact HB.out | apply below_alloc | apply pw_below_drewN | apply below_drew1 | refine below_set ?_ GE40001.out)))); have n1_ := Aside0.mk (blk_below (g := gb40001) (o := .cells #[.int .i64 a0_0, .slice A0_1 l0_1.length c0_1, .int .i64 a0_2] 25 (0, 0)) (BK40001.out) hb); have n2_ := Aside0.mk (below_step (by repeat (first | exact HB.out | apply below_alloc | apply pw_below_drewN | apply below_drew1 | refine below_set ?_ GE40001.out)) hb); clear BK40001; clear HB; have HO40005 := n0_; have BK40001 := n1_; have HB := n2_; clear n0_ n1_ n2_; (try clear hb); (try clear hb2); (try clear hk); (try clear hi); (try clear ho0); have hcz23_0 : w22.cell? ⟨gb40001, 0, none⟩ = some (.int .i64 a0_0) := (blk_cell BK40001.out 0).trans rfl; have hcz23_1 : w22.cell? ⟨gb40001, 1, none⟩ = some (.slice A0_1 l0_1.length c0_1) := (blk_cell BK40001.out 1).trans rfl; have hcz23_2 : w22.cell? ⟨gb40001, 2, none⟩ = some (.int .i64 a0_2) := (blk_cell BK40001.out 2).trans rfl; have hfz23_0 := blk_frozen BK40001.out 0; have hfz23_1 := blk_frozen BK40001.out 1; have hfz23_2 := blk_frozen BK40001.out 2; obtain ⟨Ao24, co24, eo24⟩ := Kd.R_slice HO40005.out; subst eo24) | (go_at_call 56; (with_reducible refine (slices_Equal_api_Span_api_Span.calls kj1 _ _ t40002 _ _ l0_1 true _ ?side1 ?side2 ?side3 ?side4 A10.out).mono ?_); (case side1 => exact (Kd.R_reads' HO40005.out).2.2); (case side2 => exact (Kd.R_reads' HO40005.out).2.1); (case side3 => exact (Kd.C_below HR0_1.out HB.out)); (case side4 => exact HC0_1.out); rintro e w' ⟨rfl, ⟨nd, rfl⟩⟩; (try first | exact ⟨rfl, _, World.drewN_drewN _ _ _⟩ | exact ⟨rfl, _, Eq.trans (World.drewN_drewN _ _ _) (congrArg (World.drewN _) (Nat.add_assoc _ _ _))⟩); have p40007 : 0 ≤ ((ji13) : Int) := of_decide_eq_true (by assumption); have q40007 : (ji13) < (t40002.length : Int) := of_decide_eq_true (by assumption); obtain ⟨ad40007, e40007, hx40007_0, hx40007_1⟩ := at_T50 (Kd.R_reads' HO40005.out).2.2 (ji13) p40007 q40007; cases e40007; replace p40007 := eq_true p40007; replace q40007 := eq_true q40007))
          repeat (go_quiet (first | (go_at_call 55; (with_reducible refine (span_Norm.calls kj1 _ _ l0_1 t40002 t40003 _ ?side1 ?side2 A8.out).mono ?_); (case side1 => exact (Kd.C_below HR0_1.out HB.out)); (case side2 => exact HC0_1.out); rintro e w22 ⟨v40004, rfl, ho0, hb⟩; have n0_ := Aside0.mk (Kd.R_lower ho0 (below_size (by repeat (first | exact HB.out | apply below_alloc | apply pw_below_drewN | apply below_drew1 | refine below_set ?_ GE40001.out)))); have n1_ := Aside0.mk (blk_below (g := gb40001) (o := .cells #[.int .i64 a0_0, .slice A0_1 l0_1.length c0_1, .int .i64 a0_2] 25 (0, 0)) (BK40001.out) hb); have n2_ := Aside0.mk (below_step (by repeat (first | exact HB.out | apply below_alloc | apply pw_below_drewN | apply below_drew1 | refine below_set ?_ GE40001.out)) hb); clear BK40001; clear HB; have HO40005 := n0_; have BK40001 := n1_; have HB := n2_; clear n0_ n1_ n2_; (try clear hb); (try clear hb2); (try clear hk); (try clear hi); (try clear ho0); have hcz23_0 : w22.cell? ⟨gb40001, 0, none⟩ = some (.int .i64 a0_0) := (blk_cell BK40001.out 0).trans rfl; have hcz23_1 : w22.cell? ⟨gb40001, 1, none⟩ = some (.slice A0_1 l0_1.length c0_1) := (blk_cell BK40001.out 1).trans rfl; have hcz23_2 : w22.cell? ⟨gb40001, 2, none⟩ = some (.int .i64 a0_2) := (blk_cell BK40001.out 2).trans rfl; have hfz23_0 := blk_frozen BK40001.out 0; have hfz23_1 := blk_frozen BK40001.out 1; have hfz23_2 := blk_frozen BK40001.out 2; obtain ⟨Ao24, co24, eo24⟩ := Kd.R_slice HO40005.out; subst eo24) | (go_at_call 56; (with_reducible refine (slices_Equal_api_Span_api_Span.calls kj1 _ _ t40002 _ _ l0_1 true _ ?side1 ?side2 ?side3 ?side4 A10.out).mono ?_); (case side1 => exact (Kd.R_reads' HO40005.out).2.2); (case side2 => exact (Kd.R_reads' HO40005.out).2.1); (case side3 => exact (Kd.C_below HR0_1.out HB.out)); (case side4 => exact HC0_1.out); rintro e w' ⟨rfl, ⟨nd, rfl⟩⟩; (try first | exact ⟨rfl, _, World.drewN_drewN _ _ _⟩ | exact ⟨rfl, _, Eq.trans (World.drewN_drewN _ _ _) (congrArg (World.drewN _) (Nat.add_assoc _ _ _))⟩); have p40007 : 0 ≤ ((ji13) : Int) := of_decide_eq_true (by assumption); have q40007 : (ji13) < (t40002.length : Int) := of_decide_eq_true (by assumption); obtain ⟨ad40007, e40007, hx40007_0, hx40007_1⟩ := at_T50 (Kd.R_reads' HO40005.out).2.2 (ji13) p40007 q40007; cases e40007; replace p40007 := eq_true p40007; replace q40007 := eq_true q40007)); try go_wp2_with (first | (go_at_call 55; (with_reducible refine (span_Norm.calls kj1 _ _ l0_1 t40002 t40003 _ ?side1 ?side2 A8.out).mono ?_); (case side1 => exact (Kd.C_below HR0_1.out HB.out)); (case side2 => exact HC0_1.out); rintro e w22 ⟨v40004, rfl, ho0, hb⟩; have n0_ := Aside0.mk (Kd.R_lower ho0 (below_size (by repeat (first | exact HB.out | apply below_alloc | apply pw_below_drewN | apply below_drew1 | refine below_set ?_ GE40001.out)))); have n1_ := Aside0.mk (blk_below (g := gb40001) (o := .cells #[.int .i64 a0_0, .slice A0_1 l0_1.length c0_1, .int .i64 a0_2] 25 (0, 0)) (BK40001.out) hb); have n2_ := Aside0.mk (below_step (by repeat (first | exact HB.out | apply below_alloc | apply pw_below_drewN | apply below_drew1 | refine below_set ?_ GE40001.out)) hb); clear BK40001; clear HB; have HO40005 := n0_; have BK40001 := n1_; have HB := n2_; clear n0_ n1_ n2_; (try clear hb); (try clear hb2); (try clear hk); (try clear hi); (try clear ho0); have hcz23_0 : w22.cell? ⟨gb40001, 0, none⟩ = some (.int .i64 a0_0) := (blk_cell BK40001.out 0).trans rfl; have hcz23_1 : w22.cell? ⟨gb40001, 1, none⟩ = some (.slice A0_1 l0_1.length c0_1) := (blk_cell BK40001.out 1).trans rfl; have hcz23_2 : w22.cell? ⟨gb40001, 2, none⟩ = some (.int .i64 a0_2) := (blk_cell BK40001.out 2).trans rfl; have hfz23_0 := blk_frozen BK40001.out 0; have hfz23_1 := blk_frozen BK40001.out 1; have hfz23_2 := blk_frozen BK40001.out 2; obtain ⟨Ao24, co24, eo24⟩ := Kd.R_slice HO40005.out; subst eo24) | (go_at_call 56; (with_reducible refine (slices_Equal_api_Span_api_Span.calls kj1 _ _ t40002 _ _ l0_1 true _ ?side1 ?side2 ?side3 ?side4 A10.out).mono ?_); (case side1 => exact (Kd.R_reads' HO40005.out).2.2); (case side2 => exact (Kd.R_reads' HO40005.out).2.1); (case side3 => exact (Kd.C_below HR0_1.out HB.out)); (case side4 => exact HC0_1.out); rintro e w' ⟨rfl, ⟨nd, rfl⟩⟩; (try first | exact ⟨rfl, _, World.drewN_drewN _ _ _⟩ | exact ⟨rfl, _, Eq.trans (World.drewN_drewN _ _ _) (congrArg (World.drewN _) (Nat.add_assoc _ _ _))⟩); have p40007 : 0 ≤ ((ji13) : Int) := of_decide_eq_true (by assumption); have q40007 : (ji13) < (t40002.length : Int) := of_decide_eq_true (by assumption); obtain ⟨ad40007, e40007, hx40007_0, hx40007_1⟩ := at_T50 (Kd.R_reads' HO40005.out).2.2 (ji13) p40007 q40007; cases e40007; replace p40007 := eq_true p40007; replace q40007 := eq_true q40007)))
          go_ret
          exact ⟨by first | rfl | (simp [errW_none, errW_some] <;> rfl) | (simp only [← hji13]; first | rfl | (simp [errW_none, errW_some] <;> rfl)) | (simp [*, errW_none, errW_some] <;> rfl), by repeat (first | exact HB.out | apply below_alloc | apply pw_below_drewN | apply below_drew1 | refine below_set ?_ GE40001.out)⟩
        ·rw [if_neg c15] at H
         exact absurd H (by simp)
       ·rw [if_neg c14] at H
        exact absurd H (by simp)
      ·rw [if_neg c12] at H
       have c12b0 : decide (0 < (t40002.length : Int)) = false := decide_eq_false c12
       have c12b1 : decide (0 < t40002.length) = false := decide_eq_false (by omega)
       clear c12
       obtain rfl := Option.some.inj H
       have hcz25_0 : wc.cell? ⟨gb40001, 0, none⟩ = some (.int .i64 a0_0) := (blk_cell BK40001.out 0).trans rfl
       have hcz25_1 : wc.cell? ⟨gb40001, 1, none⟩ = some (.slice A0_1 l0_1.length c0_1) := (blk_cell BK40001.out 1).trans rfl
       have hcz25_2 : wc.cell? ⟨gb40001, 2, none⟩ = some (.int .i64 a0_2) := (blk_cell BK40001.out 2).trans rfl
       have hfz25_0 := blk_frozen BK40001.out 0
       have hfz25_1 := blk_frozen BK40001.out 1
       have hfz25_2 := blk_frozen BK40001.out 2
       go_wp2_with (first | (go_at_call 55; (with_reducible refine (span_Norm.calls kj1 _ _ l0_1 t40002 t40003 _ ?side1 ?side2 A8.out).mono ?_); (case side1 => exact (Kd.C_below HR0_1.out HB.out)); (case side2 => exact HC0_1.out); rintro e w26 ⟨v40004, rfl, ho0, hb⟩; have n0_ := Aside0.mk (Kd.R_lower ho0 (below_size (by repeat (first | exact HB.out | apply below_alloc | apply pw_below_drewN | apply below_drew1 | refine below_set ?_ GE40001.out)))); have n1_ := Aside0.mk (blk_below (g := gb40001) (o := .cells #[.int .i64 a0_0, .slice A0_1 l0_1.length c0_1, .int .i64 a0_2] 25 (0, 0)) (BK40001.out) hb); have n2_ := Aside0.mk (below_step (by repeat (first | exact HB.out | apply below_alloc | apply pw_below_drewN | apply below_drew1 | refine below_set ?_ GE40001.out)) hb); clear BK40001; clear HB; have HO40005 := n0_; have BK40001 := n1_; have HB := n2_; clear n0_ n1_ n2_; (try clear hb); (try clear hb2); (try clear hk); (try clear hi); (try clear ho0); have hcz27_0 : w26.cell? ⟨gb40001, 0, none⟩ = some (.int .i64 a0_0) := (blk_cell BK40001.out 0).trans rfl; have hcz27_1 : w26.cell? ⟨gb40001, 1, none⟩ = some (.slice A0_1 l0_1.length c0_1) := (blk_cell BK40001.out 1).trans rfl; have hcz27_2 : w26.cell? ⟨gb40001, 2, none⟩ = some (.int .i64 a0_2) := (blk_cell BK40001.out 2).trans rfl; have hfz27_0 := blk_frozen BK40001.out 0; have hfz27_1 := blk_frozen BK40001.out 1; have hfz27_2 := blk_frozen BK40001.out 2; obtain ⟨Ao28, co28, eo28⟩ := Kd.R_slice HO40005.out; subst eo28) | (go_at_call 56; (with_reducible refine (slices_Equal_api_Span_api_Span.calls kj1 _ _ t40002 _ _ l0_1 true _ ?side1 ?side2 ?side3 ?side4 A10.out).mono ?_); (case side1 => exact (Kd.R_reads' HO40005.out).2.2); (case side2 => exact (Kd.R_reads' HO40005.out).2.1); (case side3 => exact (Kd.C_below HR0_1.out HB.out)); (case side4 => exact HC0_1.out); rintro e w' ⟨rfl, ⟨nd, rfl⟩⟩; (try first | exact ⟨rfl, _, World.drewN_drewN _ _ _⟩ | exact ⟨rfl, _, Eq.trans (World.drewN_drewN _ _ _) (congrArg (World.drewN _) (Nat.add_assoc _ _ _))⟩)))
       repeat (go_quiet (first | (go_at_call 55; (with_reducible refine (span_Norm.calls kj1 _ _ l0_1 t40002 t40003 _ ?side1 ?side2 A8.out).mono ?_); (case side1 => exact (Kd.C_below HR0_1.out HB.out)); (case side2 => exact HC0_1.out); rintro e w26 ⟨v40004, rfl, ho0, hb⟩; have n0_ := Aside0.mk (Kd.R_lower ho0 (below_size (by repeat (first | exact HB.out | apply below_alloc | apply pw_below_drewN | apply below_drew1 | refine below_set ?_ GE40001.out)))); have n1_ := Aside0.mk (blk_below (g := gb40001) (o := .cells #[.int .i64 a0_0, .slice A0_1 l0_1.length c0_1, .int .i64 a0_2] 25 (0, 0)) (BK40001.out) hb); have n2_ := Aside0.mk (below_step (by repeat (first | exact HB.out | apply below_alloc | apply pw_below_drewN | apply below_drew1 | refine below_set ?_ GE40001.out)) hb); clear BK40001; clear HB; have HO40005 := n0_; have BK40001 := n1_; have HB := n2_; clear n0_ n1_ n2_; (try clear hb); (try clear hb2); (try clear hk); (try clear hi); (try clear ho0); have hcz27_0 : w26.cell? ⟨gb40001, 0, none⟩ = some (.int .i64 a0_0) := (blk_cell BK40001.out 0).trans rfl; have hcz27_1 : w26.cell? ⟨gb40001, 1, none⟩ = some (.slice A0_1 l0_1.length c0_1) := (blk_cell BK40001.out 1).trans rfl; have hcz27_2 : w26.cell? ⟨gb40001, 2, none⟩ = some (.int .i64 a0_2) := (blk_cell BK40001.out 2).trans rfl; have hfz27_0 := blk_frozen BK40001.out 0; have hfz27_1 := blk_frozen BK40001.out 1; have hfz27_2 := blk_frozen BK40001.out 2; obtain ⟨Ao28, co28, eo28⟩ := Kd.R_slice HO40005.out; subst eo28) | (go_at_call 56; (with_reducible refine (slices_Equal_api_Span_api_Span.calls kj1 _ _ t40002 _ _ l0_1 true _ ?side1 ?side2 ?side3 ?side4 A10.out).mono ?_); (case side1 => exact (Kd.R_reads' HO40005.out).2.2); (case side2 => exact (Kd.R_reads' HO40005.out).2.1); (case side3 => exact (Kd.C_below HR0_1.out HB.out)); (case side4 => exact HC0_1.out); rintro e w' ⟨rfl, ⟨nd, rfl⟩⟩; (try first | exact ⟨rfl, _, World.drewN_drewN _ _ _⟩ | exact ⟨rfl, _, Eq.trans (World.drewN_drewN _ _ _) (congrArg (World.drewN _) (Nat.add_assoc _ _ _))⟩))); try go_wp2_with (first | (go_at_call 55; (with_reducible refine (span_Norm.calls kj1 _ _ l0_1 t40002 t40003 _ ?side1 ?side2 A8.out).mono ?_); (case side1 => exact (Kd.C_below HR0_1.out HB.out)); (case side2 => exact HC0_1.out); rintro e w26 ⟨v40004, rfl, ho0, hb⟩; have n0_ := Aside0.mk (Kd.R_lower ho0 (below_size (by repeat (first | exact HB.out | apply below_alloc | apply pw_below_drewN | apply below_drew1 | refine below_set ?_ GE40001.out)))); have n1_ := Aside0.mk (blk_below (g := gb40001) (o := .cells #[.int .i64 a0_0, .slice A0_1 l0_1.length c0_1, .int .i64 a0_2] 25 (0, 0)) (BK40001.out) hb); have n2_ := Aside0.mk (below_step (by repeat (first | exact HB.out | apply below_alloc | apply pw_below_drewN | apply below_drew1 | refine below_set ?_ GE40001.out)) hb); clear BK40001; clear HB; have HO40005 := n0_; have BK40001 := n1_; have HB := n2_; clear n0_ n1_ n2_; (try clear hb); (try clear hb2); (try clear hk); (try clear hi); (try clear ho0); have hcz27_0 : w26.cell? ⟨gb40001, 0, none⟩ = some (.int .i64 a0_0) := (blk_cell BK40001.out 0).trans rfl; have hcz27_1 : w26.cell? ⟨gb40001, 1, none⟩ = some (.slice A0_1 l0_1.length c0_1) := (blk_cell BK40001.out 1).trans rfl; have hcz27_2 : w26.cell? ⟨gb40001, 2, none⟩ = some (.int .i64 a0_2) := (blk_cell BK40001.out 2).trans rfl; have hfz27_0 := blk_frozen BK40001.out 0; have hfz27_1 := blk_frozen BK40001.out 1; have hfz27_2 := blk_frozen BK40001.out 2; obtain ⟨Ao28, co28, eo28⟩ := Kd.R_slice HO40005.out; subst eo28) | (go_at_call 56; (with_reducible refine (slices_Equal_api_Span_api_Span.calls kj1 _ _ t40002 _ _ l0_1 true _ ?side1 ?side2 ?side3 ?side4 A10.out).mono ?_); (case side1 => exact (Kd.R_reads' HO40005.out).2.2); (case side2 => exact (Kd.R_reads' HO40005.out).2.1); (case side3 => exact (Kd.C_below HR0_1.out HB.out)); (case side4 => exact HC0_1.out); rintro e w' ⟨rfl, ⟨nd, rfl⟩⟩; (try first | exact ⟨rfl, _, World.drewN_drewN _ _ _⟩ | exact ⟨rfl, _, Eq.trans (World.drewN_drewN _ _ _) (congrArg (World.drewN _) (Nat.add_assoc _ _ _))⟩))))
       go_ret
       exact ⟨by first | rfl | (simp [errW_none, errW_some] <;> rfl) | (simp [*, errW_none, errW_some] <;> rfl), by repeat (first | exact HB.out | apply below_alloc | apply pw_below_drewN | apply below_drew1 | refine below_set ?_ GE40001.out)⟩
     ·replace c11 := Bool.eq_false_iff.mpr c11
      subst c11
      have H1 : (some 9) = some r := by rw [if_neg (show ¬ (false = true) by decide)] at H; exact H
      clear H
      have H := H1
      clear H1
      obtain rfl := Option.some.inj H
      have hcz29_0 : wc.cell? ⟨gb40001, 0, none⟩ = some (.int .i64 a0_0) := (blk_cell BK40001.out 0).trans rfl
      have hcz29_1 : wc.cell? ⟨gb40001, 1, none⟩ = some (.slice A0_1 l0_1.length c0_1) := (blk_cell BK40001.out 1).trans rfl
      have hcz29_2 : wc.cell? ⟨gb40001, 2, none⟩ = some (.int .i64 a0_2) := (blk_cell BK40001.out 2).trans rfl
      have hfz29_0 := blk_frozen BK40001.out 0
      have hfz29_1 := blk_frozen BK40001.out 1
      have hfz29_2 := blk_frozen BK40001.out 2
      go_wp2_with (first | (go_at_call 55; (with_reducible refine (span_Norm.calls kj1 _ _ l0_1 t40002 t40003 _ ?side1 ?side2 A8.out).mono ?_); (case side1 => exact (Kd.C_below HR0_1.out HB.out)); (case side2 => exact HC0_1.out); rintro e w30 ⟨v40004, rfl, ho0, hb⟩; have n0_ := Aside0.mk (Kd.R_lower ho0 (below_size (by repeat (first | exact HB.out | apply below_alloc | apply pw_below_drewN | apply below_drew1 | refine below_set ?_ GE40001.out)))); have n1_ := Aside0.mk (blk_below (g := gb40001) (o := .cells #[.int .i64 a0_0, .slice A0_1 l0_1.length c0_1, .int .i64 a0_2] 25 (0, 0)) (BK40001.out) hb); have n2_ := Aside0.mk (below_step (by repeat (first | exact HB.out | apply below_alloc | apply pw_below_drewN | apply below_drew1 | refine below_set ?_ GE40001.out)) hb); clear BK40001; clear HB; have HO40005 := n0_; have BK40001 := n1_; have HB := n2_; clear n0_ n1_ n2_; (try clear hb); (try clear hb2); (try clear hk); (try clear hi); (try clear ho0); have hcz31_0 : w30.cell? ⟨gb40001, 0, none⟩ = some (.int .i64 a0_0) := (blk_cell BK40001.out 0).trans rfl; have hcz31_1 : w30.cell? ⟨gb40001, 1, none⟩ = some (.slice A0_1 l0_1.length c0_1) := (blk_cell BK40001.out 1).trans rfl; have hcz31_2 : w30.cell? ⟨gb40001, 2, none⟩ = some (.int .i64 a0_2) := (blk_cell BK40001.out 2).trans rfl; have hfz31_0 := blk_frozen BK40001.out 0; have hfz31_1 := blk_frozen BK40001.out 1; have hfz31_2 := blk_frozen BK40001.out 2; obtain ⟨Ao32, co32, eo32⟩ := Kd.R_slice HO40005.out; subst eo32) | (go_at_call 56; (with_reducible refine (slices_Equal_api_Span_api_Span.calls kj1 _ _ t40002 _ _ l0_1 false _ ?side1 ?side2 ?side3 ?side4 A10.out).mono ?_); (case side1 => exact (Kd.R_reads' HO40005.out).2.2); (case side2 => exact (Kd.R_reads' HO40005.out).2.1); (case side3 => exact (Kd.C_below HR0_1.out HB.out)); (case side4 => exact HC0_1.out); rintro e w' ⟨rfl, ⟨nd, rfl⟩⟩; (try first | exact ⟨rfl, _, World.drewN_drewN _ _ _⟩ | exact ⟨rfl, _, Eq.trans (World.drewN_drewN _ _ _) (congrArg (World.drewN _) (Nat.add_assoc _ _ _))⟩)))
      repeat (go_quiet (first | (go_at_call 55; (with_reducible refine (span_Norm.calls kj1 _ _ l0_1 t40002 t40003 _ ?side1 ?side2 A8.out).mono ?_); (case side1 => exact (Kd.C_below HR0_1.out HB.out)); (case side2 => exact HC0_1.out); rintro e w30 ⟨v40004, rfl, ho0, hb⟩; have n0_ := Aside0.mk (Kd.R_lower ho0 (below_size (by repeat (first | exact HB.out | apply below_alloc | apply pw_below_drewN | apply below_drew1 | refine below_set ?_ GE40001.out)))); have n1_ := Aside0.mk (blk_below (g := gb40001) (o := .cells #[.int .i64 a0_0, .slice A0_1 l0_1.length c0_1, .int .i64 a0_2] 25 (0, 0)) (BK40001.out) hb); have n2_ := Aside0.mk (below_step (by repeat (first | exact HB.out | apply below_alloc | apply pw_below_drewN | apply below_drew1 | refine below_set ?_ GE40001.out)) hb); clear BK40001; clear HB; have HO40005 := n0_; have BK40001 := n1_; have HB := n2_; clear n0_ n1_ n2_; (try clear hb); (try clear hb2); (try clear hk); (try clear hi); (try clear ho0); have hcz31_0 : w30.cell? ⟨gb40001, 0, none⟩ = some (.int .i64 a0_0) := (blk_cell BK40001.out 0).trans rfl; have hcz31_1 : w30.cell? ⟨gb40001, 1, none⟩ = some (.slice A0_1 l0_1.length c0_1) := (blk_cell BK40001.out 1).trans rfl; have hcz31_2 : w30.cell? ⟨gb40001, 2, none⟩ = some (.int .i64 a0_2) := (blk_cell BK40001.out 2).trans rfl; have hfz31_0 := blk_frozen BK40001.out 0; have hfz31_1 := blk_frozen BK40001.out 1; have hfz31_2 := blk_frozen BK40001.out 2; obtain ⟨Ao32, co32, eo32⟩ := Kd.R_slice HO40005.out; subst eo32) | (go_at_call 56; (with_reducible refine (slices_Equal_api_Span_api_Span.calls kj1 _ _ t40002 _ _ l0_1 false _ ?side1 ?side2 ?side3 ?side4 A10.out).mono ?_); (case side1 => exact (Kd.R_reads' HO40005.out).2.2); (case side2 => exact (Kd.R_reads' HO40005.out).2.1); (case side3 => exact (Kd.C_below HR0_1.out HB.out)); (case side4 => exact HC0_1.out); rintro e w' ⟨rfl, ⟨nd, rfl⟩⟩; (try first | exact ⟨rfl, _, World.drewN_drewN _ _ _⟩ | exact ⟨rfl, _, Eq.trans (World.drewN_drewN _ _ _) (congrArg (World.drewN _) (Nat.add_assoc _ _ _))⟩))); try go_wp2_with (first | (go_at_call 55; (with_reducible refine (span_Norm.calls kj1 _ _ l0_1 t40002 t40003 _ ?side1 ?side2 A8.out).mono ?_); (case side1 => exact (Kd.C_below HR0_1.out HB.out)); (case side2 => exact HC0_1.out); rintro e w30 ⟨v40004, rfl, ho0, hb⟩; have n0_ := Aside0.mk (Kd.R_lower ho0 (below_size (by repeat (first | exact HB.out | apply below_alloc | apply pw_below_drewN | apply below_drew1 | refine below_set ?_ GE40001.out)))); have n1_ := Aside0.mk (blk_below (g := gb40001) (o := .cells #[.int .i64 a0_0, .slice A0_1 l0_1.length c0_1, .int .i64 a0_2] 25 (0, 0)) (BK40001.out) hb); have n2_ := Aside0.mk (below_step (by repeat (first | exact HB.out | apply below_alloc | apply pw_below_drewN | apply below_drew1 | refine below_set ?_ GE40001.out)) hb); clear BK40001; clear HB; have HO40005 := n0_; have BK40001 := n1_; have HB := n2_; clear n0_ n1_ n2_; (try clear hb); (try clear hb2); (try clear hk); (try clear hi); (try clear ho0); have hcz31_0 : w30.cell? ⟨gb40001, 0, none⟩ = some (.int .i64 a0_0) := (blk_cell BK40001.out 0).trans rfl; have hcz31_1 : w30.cell? ⟨gb40001, 1, none⟩ = some (.slice A0_1 l0_1.length c0_1) := (blk_cell BK40001.out 1).trans rfl; have hcz31_2 : w30.cell? ⟨gb40001, 2, none⟩ = some (.int .i64 a0_2) := (blk_cell BK40001.out 2).trans rfl; have hfz31_0 := blk_frozen BK40001.out 0; have hfz31_1 := blk_frozen BK40001.out 1; have hfz31_2 := blk_frozen BK40001.out 2; obtain ⟨Ao32, co32, eo32⟩ := Kd.R_slice HO40005.out; subst eo32) | (go_at_call 56; (with_reducible refine (slices_Equal_api_Span_api_Span.calls kj1 _ _ t40002 _ _ l0_1 false _ ?side1 ?side2 ?side3 ?side4 A10.out).mono ?_); (case side1 => exact (Kd.R_reads' HO40005.out).2.2); (case side2 => exact (Kd.R_reads' HO40005.out).2.1); (case side3 => exact (Kd.C_below HR0_1.out HB.out)); (case side4 => exact HC0_1.out); rintro e w' ⟨rfl, ⟨nd, rfl⟩⟩; (try first | exact ⟨rfl, _, World.drewN_drewN _ _ _⟩ | exact ⟨rfl, _, Eq.trans (World.drewN_drewN _ _ _) (congrArg (World.drewN _) (Nat.add_assoc _ _ _))⟩))))
      go_ret
      exact ⟨by first | rfl | (simp [errW_none, errW_some] <;> rfl) | (simp [*, errW_none, errW_some] <;> rfl), by repeat (first | exact HB.out | apply below_alloc | apply pw_below_drewN | apply below_drew1 | refine below_set ?_ GE40001.out)⟩
    ·rw [if_neg c9] at H
     have c9b0 : (t40003 == 0) = false := beq_eq_false_iff_ne.mpr c9
     have c9b1 : (t40003 != 0) = true := bne_iff_ne.mpr c9
     obtain rfl := Option.some.inj H
     have hcz33_0 : wc.cell? ⟨gb40001, 0, none⟩ = some (.int .i64 a0_0) := (blk_cell BK40001.out 0).trans rfl
     have hcz33_1 : wc.cell? ⟨gb40001, 1, none⟩ = some (.slice A0_1 l0_1.length c0_1) := (blk_cell BK40001.out 1).trans rfl
     have hcz33_2 : wc.cell? ⟨gb40001, 2, none⟩ = some (.int .i64 a0_2) := (blk_cell BK40001.out 2).trans rfl
     have hfz33_0 := blk_frozen BK40001.out 0
     have hfz33_1 := blk_frozen BK40001.out 1
     have hfz33_2 := blk_frozen BK40001.out 2
     go_wp2_with (first | (go_at_call 55; (with_reducible refine (span_Norm.calls kj1 _ _ l0_1 t40002 t40003 _ ?side1 ?side2 A8.out).mono ?_); (case side1 => exact (Kd.C_below HR0_1.out HB.out)); (case side2 => exact HC0_1.out); rintro e w34 ⟨v40004, rfl, ho0, hb⟩; have n0_ := Aside0.mk (Kd.R_lower ho0 (below_size (by repeat (first | exact HB.out | apply below_alloc | apply pw_below_drewN | apply below_drew1 | refine below_set ?_ GE40001.out)))); have n1_ := Aside0.mk (blk_below (g := gb40001) (o := .cells #[.int .i64 a0_0, .slice A0_1 l0_1.length c0_1, .int .i64 a0_2] 25 (0, 0)) (BK40001.out) hb); have n2_ := Aside0.mk (below_step (by repeat (first | exact HB.out | apply below_alloc | apply pw_below_drewN | apply below_drew1 | refine below_set ?_ GE40001.out)) hb); clear BK40001; clear HB; have HO40005 := n0_; have BK40001 := n1_; have HB := n2_; clear n0_ n1_ n2_; (try clear hb); (try clear hb2); (try clear hk); (try clear hi); (try clear ho0)))
     repeat (go_quiet (first | (go_at_call 55; (with_reducible refine (span_Norm.calls kj1 _ _ l0_1 t40002 t40003 _ ?side1 ?side2 A8.out).mono ?_); (case side1 => exact (Kd.C_below HR0_1.out HB.out)); (case side2 => exact HC0_1.out); rintro e w34 ⟨v40004, rfl, ho0, hb⟩; have n0_ := Aside0.mk (Kd.R_lower ho0 (below_size (by repeat (first | exact HB.out | apply below_alloc | apply pw_below_drewN | apply below_drew1 | refine below_set ?_ GE40001.out)))); have n1_ := Aside0.mk (blk_below (g := gb40001) (o := .cells #[.int .i64 a0_0, .slice A0_1 l0_1.length c0_1, .int .i64 a0_2] 25 (0, 0)) (BK40001.out) hb); have n2_ := Aside0.mk (below_step (by repeat (first | exact HB.out | apply below_alloc | apply pw_below_drewN | apply below_drew1 | refine below_set ?_ GE40001.out)) hb); clear BK40001; clear HB; have HO40005 := n0_; have BK40001 := n1_; have HB := n2_; clear n0_ n1_ n2_; (try clear hb); (try clear hb2); (try clear hk); (try clear hi); (try clear ho0))); try go_wp2_with (first | (go_at_call 55; (with_reducible refine (span_Norm.calls kj1 _ _ l0_1 t40002 t40003 _ ?side1 ?side2 A8.out).mono ?_); (case side1 => exact (Kd.C_below HR0_1.out HB.out)); (case side2 => exact HC0_1.out); rintro e w34 ⟨v40004, rfl, ho0, hb⟩; have n0_ := Aside0.mk (Kd.R_lower ho0 (below_size (by repeat (first | exact HB.out | apply below_alloc | apply pw_below_drewN | apply below_drew1 | refine below_set ?_ GE40001.out)))); have n1_ := Aside0.mk (blk_below (g := gb40001) (o := .cells #[.int .i64 a0_0, .slice A0_1 l0_1.length c0_1, .int .i64 a0_2] 25 (0, 0)) (BK40001.out) hb); have n2_ := Aside0.mk (below_step (by repeat (first | exact HB.out | apply below_alloc | apply pw_below_drewN | apply below_drew1 | refine below_set ?_ GE40001.out)) hb); clear BK40001; clear HB; have HO40005 := n0_; have BK40001 := n1_; have HB := n2_; clear n0_ n1_ n2_; (try clear hb); (try clear hb2); (try clear hk); (try clear hi); (try clear ho0))))
     go_ret
     exact ⟨by first | rfl | (simp [errW_none, errW_some] <;> rfl) | (simp [*, errW_none, errW_some] <;> rfl), by repeat (first | exact HB.out | apply below_alloc | apply pw_below_drewN | apply below_drew1 | refine below_set ?_ GE40001.out)⟩

end Go.Proofs.Ytnfcpcgbdoiiiaa.G

namespace Go.Proofs.Ytnfcpcgbdoiiiaa.G
open Go.RowKit Go.Proofs.YtnfcpcgbdoiiiaaW.PrintWords Go.Proofs.YtnfcpcgbdoiiiaaW.PrintLast Go.Proofs.YtnfcpcgbdoiiiaaW.PrintMore
attribute [local go_sem] max2_int min2_int max_two min_two max_three min_three max_four min_four   -- for this text's walks alone
set_option linter.unusedVariables false
set_option linter.unusedSimpArgs false

def sheet_Good.f (k : Nat) (a0_0 : Int) (l0_1 : List (S50)) (a0_2 : Int) : Option (Int × Int) := (sheet_one.f k a0_0 l0_1 a0_2).bind fun t24002 => (if t24002 = 0 then ((span_Total.f k l0_1).bind fun bt24003 => (some (bt24003.1, bt24003.2))) else (some (0, t24002)))
theorem sheet_Good.mono : ∀ a0 a1 a2 k, LeO (sheet_Good.f k a0 a1 a2) (sheet_Good.f (k + 1) a0 a1 a2) := by
 intro a0 a1 a2 k
 unfold sheet_Good.f
 repeat' first
   | (with_reducible exact sheet_one.mono _ _ _ _)
   | (with_reducible exact span_Total.mono _ _)
   | (with_reducible exact LeO.refl _)
   | (with_reducible exact LeO.none _)
   | (with_reducible refine LeO.ite ?_ ?_)
   | (with_reducible refine LeO.bind ?_ (fun _ => ?_))
   | exact sheet_one.mono _ _ _ _
   | exact span_Total.mono _ _
   | exact LeO.none _
   | refine LeO.ite ?_ ?_
   | refine LeO.bind ?_ (fun _ => ?_)
set_option maxHeartbeats 8000000 in
set_option maxRecDepth 100000 in
theorem sheet_Good.calls (k : Nat) (a0_0 : Int) (A0_1 : Option Addr) (c0_1 : Nat) (l0_1 : List (S50)) (a0_2 : Int) (r1 : Int) (r2 : Int) (w : World) (hr0_1 : Kd.C k50 w A0_1 l0_1.length l0_1) (hc0_1 : l0_1.length ≤ c0_1) (h : sheet_Good.f k a0_0 l0_1 a0_2 = some (r1, r2)) :
  Calls Try.prog 23 #[.agg #[.int .i64 a0_0, .slice A0_1 l0_1.length c0_1, .int .i64 a0_2]] w fun e w' => e = .returned (.tuple #[.int .i64 r1, .int .i64 r2]) ∧ Below w.heap.size w w' := by
 have hu25 := Try.underlying25
 have HR0_1 := Aside0.mk hr0_1
 have HC0_1 := Aside0.mk hc0_1
 clear hr0_1 hc0_1
 have HB := Aside0.mk (Below.refl w.heap.size w)
 have H : ((sheet_one.f k a0_0 l0_1 a0_2).bind fun t24002 => (if t24002 = 0 then ((span_Total.f k l0_1).bind fun bt24003 => (some (bt24003.1, bt24003.2))) else (some (0, t24002)))) = some (r1, r2) := h
 clear h
 replace H := Option.bind_eq_some_iff.mp H
 obtain ⟨t24002, A20, H⟩ := H
 replace H : (if t24002 = 0 then ((span_Total.f k l0_1).bind fun bt24003 => (some (bt24003.1, bt24003.2))) else (some (0, t24002))) = some (r1, r2) := H
 have A2 := Aside0.mk A20
 clear A20
 by_cases c3 : t24002 = 0
 ·rw [if_pos c3] at H
  have c3b0 : (t24002 == 0) = true := beq_iff_eq.mpr c3
  have c3b1 : (t24002 != 0) = false := bne_eq_false_iff_eq.mpr c3
  clear c3
  replace H := Option.bind_eq_some_iff.mp H
  obtain ⟨⟨t24003, t24004⟩, A40, H⟩ := H
  replace H : (some (t24003, t24004)) = some (r1, r2) := H
  have A4 := Aside0.mk A40
  clear A40
  simp only [Option.some.injEq, Prod.mk.injEq] at H
  obtain ⟨rfl, rfl⟩ := H
  go_enter Try.func23, Try.ntmps23
  go_wp2_with (first | ((with_reducible refine gate_dst (N := 1) rfl ?_); refine box_event ?hg (N := 1) ?hd (cs := #[.int .i64 a0_0, .slice A0_1 l0_1.length c0_1, .int .i64 a0_2]) (t := 25) ?hr ?_; (case hd => rfl); (case hg => rfl); (case hr => first | (go_simp; done) | (go_simp; rfl)); intro gb24001 hg w5 hbox hb; have n0_ := Aside0.mk (below_step (by repeat (first | exact HB.out | apply below_alloc | apply pw_below_drewN | apply below_drew1)) hb); have n1_ := Aside0.mk (hbox); have n2_ := Aside0.mk ((by rw [hg]; exact (below_size (by repeat (first | exact HB.out | apply below_alloc | apply pw_below_drewN | apply below_drew1))) : w.heap.size ≤ gb24001)); have n3_ := Aside0.mk ((by rw [hg]; exact (below_size (by repeat (first | exact HB.out | apply below_alloc | apply pw_below_drewN | apply below_drew1))) : w.heap.size ≤ gb24001)); clear HB; have HB := n0_; have BK24001 := n1_; have GW24001 := n2_; have GE24001 := n3_; clear n0_ n1_ n2_ n3_; clear hb hbox hg; have hcz6_0 : w5.cell? ⟨gb24001, 0, none⟩ = some (.int .i64 a0_0) := (blk_cell BK24001.out 0).trans rfl; have hcz6_1 : w5.cell? ⟨gb24001, 1, none⟩ = some (.slice A0_1 l0_1.length c0_1) := (blk_cell BK24001.out 1).trans rfl; have hcz6_2 : w5.cell? ⟨gb24001, 2, none⟩ = some (.int .i64 a0_2) := (blk_cell BK24001.out 2).trans rfl; have hfz6_0 := blk_frozen BK24001.out 0; have hfz6_1 := blk_frozen BK24001.out 1; have hfz6_2 := blk_frozen BK24001.out 2) | ((with_reducible refine gate_callee (f := 39) rfl ?_); refine goesL_ (some 6) rfl rfl Try.func39 (by kernel_rfl) rfl #[.agg #[.int .i64 a0_0, .slice A0_1 l0_1.length c0_1, .int .i64 a0_2]] rfl (by (try simp only [List.map_toArray, List.map_cons, List.map_nil]); first | done | rfl | (simp only [List.length_drop, List.length_take]; rfl)) ?_; (with_reducible refine (sheet_one.calls k a0_0 _ _ l0_1 a0_2 t24002 _ ?side1 ?side2 A2.out).mono ?_); (case side1 => exact (Kd.C_below HR0_1.out HB.out)); (case side2 => exact HC0_1.out); rintro e w7 ⟨rfl, hb⟩; refine ⟨_, rfl, ?_⟩; have n0_ := Aside0.mk (blk_below (g := gb24001) (o := .cells #[.int .i64 a0_0, .slice A0_1 l0_1.length c0_1, .int .i64 a0_2] 25 (0, 0)) (BK24001.out) hb); have n1_ := Aside0.mk (below_step (by repeat (first | exact HB.out | apply below_alloc | apply pw_below_drewN | apply below_drew1 | refine below_set ?_ GE24001.out)) hb); clear BK24001; clear HB; have BK24001 := n0_; have HB := n1_; clear n0_ n1_; (try clear hb); (try clear hb2); (try clear hk); (try clear hi); have hcz8_0 : w7.cell? ⟨gb24001, 0, none⟩ = some (.int .i64 a0_0) := (blk_cell BK24001.out 0).trans rfl; have hcz8_1 : w7.cell? ⟨gb24001, 1, none⟩ = some (.slice A0_1 l0_1.length c0_1) := (blk_cell BK24001.out 1).trans rfl; have hcz8_2 : w7.cell? ⟨gb24001, 2, none⟩ = some (.int .i64 a0_2) := (blk_cell BK24001.out 2).trans rfl; have hfz8_0 := blk_frozen BK24001.out 0; have hfz8_1 := blk_frozen BK24001.out 1; have hfz8_2 := blk_frozen BK24001.out 2) | ((with_reducible refine gate_callee (f := 43) rfl ?_); refine goesL_ (some 12) rfl rfl Try.func43 (by kernel_rfl) rfl #[.slice A0_1 l0_1.length c0_1] rfl (by (try simp only [List.map_toArray, List.map_cons, List.map_nil]); first | done | rfl | (simp only [List.length_drop, List.length_take]; rfl)) ?_; (with_reducible refine (span_Total.calls k _ _ l0_1 t24003 t24004 _ ?side1 ?side2 A4.out).mono ?_); (case side1 => exact (Kd.C_below HR0_1.out HB.out)); (case side2 => exact HC0_1.out); rintro e w9 ⟨rfl, hb⟩; refine ⟨_, rfl, ?_⟩; have n0_ := Aside0.mk (blk_below (g := gb24001) (o := .cells #[.int .i64 a0_0, .slice A0_1 l0_1.length c0_1, .int .i64 a0_2] 25 (0, 0)) (BK24001.out) hb); have n1_ := Aside0.mk (below_step (by repeat (first | exact HB.out | apply below_alloc | apply pw_below_drewN | apply below_drew1 | refine below_set ?_ GE24001.out)) hb); clear BK24001; clear HB; have BK24001 := n0_; have HB := n1_; clear n0_ n1_; (try clear hb); (try clear hb2); (try clear hk); (try clear hi)))
  go_ret2
  exact ⟨by first | rfl | (simp [errW_none, errW_some] <;> rfl) | (simp [*, errW_none, errW_some] <;> rfl), by repeat (first | exact HB.out | apply below_alloc | apply pw_below_drewN | apply below_drew1 | refine below_set ?_ GE24001.out)⟩
 ·rw [if_neg c3] at H
  have c3b0 : (t24002 == 0) = false := beq_eq_false_iff_ne.mpr c3
  have c3b1 : (t24002 != 0) = true := bne_iff_ne.mpr c3
  simp only [Option.some.injEq, Prod.mk.injEq] at H
  obtain ⟨rfl, rfl⟩ := H
  go_enter Try.func23, Try.ntmps23
  go_wp2_with (first | ((with_reducible refine gate_dst (N := 1) rfl ?_); refine box_event ?hg (N := 1) ?hd (cs := #[.int .i64 a0_0, .slice A0_1 l0_1.length c0_1, .int .i64 a0_2]) (t := 25) ?hr ?_; (case hd => rfl); (case hg => rfl); (case hr => first | (go_simp; done) | (go_simp; rfl)); intro gb24001 hg w10 hbox hb; have n0_ := Aside0.mk (below_step (by repeat (first | exact HB.out | apply below_alloc | apply pw_below_drewN | apply below_drew1)) hb); have n1_ := Aside0.mk (hbox); have n2_ := Aside0.mk ((by rw [hg]; exact (below_size (by repeat (first | exact HB.out | apply below_alloc | apply pw_below_drewN | apply below_drew1))) : w.heap.size ≤ gb24001)); have n3_ := Aside0.mk ((by rw [hg]; exact (below_size (by repeat (first | exact HB.out | apply below_alloc | apply pw_below_drewN | apply below_drew1))) : w.heap.size ≤ gb24001)); clear HB; have HB := n0_; have BK24001 := n1_; have GW24001 := n2_; have GE24001 := n3_; clear n0_ n1_ n2_ n3_; clear hb hbox hg; have hcz11_0 : w10.cell? ⟨gb24001, 0, none⟩ = some (.int .i64 a0_0) := (blk_cell BK24001.out 0).trans rfl; have hcz11_1 : w10.cell? ⟨gb24001, 1, none⟩ = some (.slice A0_1 l0_1.length c0_1) := (blk_cell BK24001.out 1).trans rfl; have hcz11_2 : w10.cell? ⟨gb24001, 2, none⟩ = some (.int .i64 a0_2) := (blk_cell BK24001.out 2).trans rfl; have hfz11_0 := blk_frozen BK24001.out 0; have hfz11_1 := blk_frozen BK24001.out 1; have hfz11_2 := blk_frozen BK24001.out 2) | ((with_reducible refine gate_callee (f := 39) rfl ?_); refine goesL_ (some 6) rfl rfl Try.func39 (by kernel_rfl) rfl #[.agg #[.int .i64 a0_0, .slice A0_1 l0_1.length c0_1, .int .i64 a0_2]] rfl (by (try simp only [List.map_toArray, List.map_cons, List.map_nil]); first | done | rfl | (simp only [List.length_drop, List.length_take]; rfl)) ?_; (with_reducible refine (sheet_one.calls k a0_0 _ _ l0_1 a0_2 t24002 _ ?side1 ?side2 A2.out).mono ?_); (case side1 => exact (Kd.C_below HR0_1.out HB.out)); (case side2 => exact HC0_1.out); rintro e w12 ⟨rfl, hb⟩; refine ⟨_, rfl, ?_⟩; have n0_ := Aside0.mk (blk_below (g := gb24001) (o := .cells #[.int .i64 a0_0, .slice A0_1 l0_1.length c0_1, .int .i64 a0_2] 25 (0, 0)) (BK24001.out) hb); have n1_ := Aside0.mk (below_step (by repeat (first | exact HB.out | apply below_alloc | apply pw_below_drewN | apply below_drew1 | refine below_set ?_ GE24001.out)) hb); clear BK24001; clear HB; have BK24001 := n0_; have HB := n1_; clear n0_ n1_; (try clear hb); (try clear hb2); (try clear hk); (try clear hi)))
  go_ret2
  exact ⟨by first | rfl | (simp [errW_none, errW_some] <;> rfl) | (simp [*, errW_none, errW_some] <;> rfl), by repeat (first | exact HB.out | apply below_alloc | apply pw_below_drewN | apply below_drew1 | refine below_set ?_ GE24001.out)⟩

end Go.Proofs.Ytnfcpcgbdoiiiaa.G

namespace Go.Proofs.Ytnfcpcgbdoiiiaa.G
open Go.RowKit Go.Proofs.YtnfcpcgbdoiiiaaW.PrintWords Go.Proofs.YtnfcpcgbdoiiiaaW.PrintLast Go.Proofs.YtnfcpcgbdoiiiaaW.PrintMore
set_option linter.unusedVariables false
set_option linter.unusedSimpArgs false
def slices_Clone_api_Span_api_Span.f (l0 : List S50) : Option (List S50) := if l0.length ≤ 1000000 then some l0 else none
theorem slices_Clone_api_Span_api_Span.calls (A0 : Option Addr) (c0 : Nat) (l0 : List (S50)) (r : List (S50)) (w : World) (hr0 : Kd.C k50 w A0 l0.length l0) (hc0 : l0.length ≤ c0) (h : slices_Clone_api_Span_api_Span.f l0 = some r) :
    Calls Try.prog 40 #[.slice A0 l0.length c0] w fun e w' => ∃ v0_ : Value, e = .returned v0_ ∧ Kd.R k50 50 w' w.heap.size (fun _ => True) v0_ r ∧ Below w.heap.size w w' := by
  unfold slices_Clone_api_Span_api_Span.f at h
  split at h
  case isFalse => cases h
  rename_i hl
  obtain rfl := Option.some.inj h
  exact cloneSpans A0 c0 l0 w hr0 hc0 hl
end Go.Proofs.Ytnfcpcgbdoiiiaa.G
