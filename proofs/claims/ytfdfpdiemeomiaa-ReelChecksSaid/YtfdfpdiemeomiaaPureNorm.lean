import Derived.Test.YtfdfpdiemeomiaaGxpapermillref04both
import Derived.Test.YtfdfpdiemeomiaaPureBase
namespace Go.Proofs.Ytfdfpdiemeomiaa.G
open Go.RowKit Go.Proofs.YtfdfpdiemeomiaaW.PrintWords Go.Proofs.YtfdfpdiemeomiaaW.PrintLast Go.Proofs.YtfdfpdiemeomiaaW.PrintMore
set_option linter.unusedVariables false
set_option linter.unusedSimpArgs false
theorem rd36 (l : List S36) (i : Nat) (h : i < l.length) : rd_T36 l i = l[i] := by simp [rd_T36, List.getD_eq_getElem?_getD, List.getElem?_eq_getElem h]
theorem drop36 (l : List S36) (i : Nat) (h : i < l.length) : l.drop i = rd_T36 l i :: l.drop (i + 1) := by rw [rd36 l i h]; exact List.drop_eq_getElem_cons h
theorem dropI (l : List Int) (i : Nat) (h : i < l.length) : l.drop i = rd l i :: l.drop (i + 1) := by rw [rdI l i h]; exact List.drop_eq_getElem_cons h

/-! ### sets of spans -/
def Mem (l : List S36) (x : Int) : Prop := ∃ s ∈ l, s.f0 ≤ x ∧ x < s.f1
/-- In ascending order, none empty, none touching the next. -/
def sep : Int → List S36 → Prop
  | _, [] => True
  | e, x :: r => e < x.f0 ∧ x.f0 < x.f1 ∧ sep x.f1 r
theorem sep_mem : ∀ {l : List S36} {e x : Int}, sep e l → Mem l x → e < x
  | [], e, x, _, h => by obtain ⟨s, hs, _⟩ := h; simp at hs
  | y :: r, e, x, hl, ⟨s, hs, h1, h2⟩ => by
    rcases List.mem_cons.1 hs with rfl | hs
    · have := hl.1; omega
    · have := sep_mem hl.2.2 ⟨s, hs, h1, h2⟩
      have := hl.1; have := hl.2.1; omega
theorem sep_le {e e' : Int} (h : e' ≤ e) : ∀ {l : List S36}, sep e l → sep e' l
  | [], _ => trivial
  | x :: r, k => ⟨by have := k.1; omega, k.2⟩
theorem mem_cons {y : S36} {r : List S36} {x : Int} : Mem (y :: r) x ↔ (y.f0 ≤ x ∧ x < y.f1) ∨ Mem r x := by
  unfold Mem
  constructor
  · rintro ⟨s, hs, h⟩
    rcases List.mem_cons.1 hs with rfl | hs
    · exact .inl h
    · exact .inr ⟨s, hs, h⟩
  · rintro (h | ⟨s, hs, h⟩)
    · exact ⟨y, by simp, h⟩
    · exact ⟨s, by simp [hs], h⟩
theorem mem_nil (x : Int) : ¬ Mem [] x := by rintro ⟨s, hs, _⟩; simp at hs
theorem mem_append {a b : List S36} {x : Int} : Mem (a ++ b) x ↔ Mem a x ∨ Mem b x := by
  unfold Mem
  constructor
  · rintro ⟨s, hs, h⟩
    rcases List.mem_append.1 hs with hs | hs
    · exact .inl ⟨s, hs, h⟩
    · exact .inr ⟨s, hs, h⟩
  · rintro (⟨s, hs, h⟩ | ⟨s, hs, h⟩)
    · exact ⟨s, by simp [hs], h⟩
    · exact ⟨s, by simp [hs], h⟩
/-- One set has one such list. -/
theorem sep_unique : ∀ {a b : List S36} {e e' : Int}, sep e a → sep e' b → (∀ x, Mem a x ↔ Mem b x) → a = b
  | [], [], _, _, _, _, _ => rfl
  | [], y :: s, _, _, _, hb, h => absurd ((h y.f0).2 (mem_cons.2 (.inl ⟨Int.le_refl _, hb.2.1⟩))) (mem_nil _)
  | x :: r, [], _, _, ha, _, h => absurd ((h x.f0).1 (mem_cons.2 (.inl ⟨Int.le_refl _, ha.2.1⟩))) (mem_nil _)
  | x :: r, y :: s, _, _, ha, hb, h => by
    have lo : ∀ {p : S36} {q : List S36} {z : Int}, p.f0 < p.f1 → sep p.f1 q → Mem (p :: q) z → p.f0 ≤ z := by
      intro p q z h1 h2 h3
      rcases mem_cons.1 h3 with h3 | h3
      · exact h3.1
      · have := sep_mem h2 h3; omega
    have up : ∀ {p : S36} {q : List S36} {z : Int}, sep p.f1 q → Mem (p :: q) z → ¬ z = p.f1 := by
      intro p q z h2 h3 h4
      rcases mem_cons.1 h3 with h3 | h3
      · omega
      · have := sep_mem h2 h3; omega
    have e0 : x.f0 = y.f0 := by
      have h1 := lo hb.2.1 hb.2.2 ((h x.f0).1 (mem_cons.2 (.inl ⟨Int.le_refl _, ha.2.1⟩)))
      have h2 := lo ha.2.1 ha.2.2 ((h y.f0).2 (mem_cons.2 (.inl ⟨Int.le_refl _, hb.2.1⟩)))
      omega
    have hx := ha.2.1; have hy := hb.2.1
    have e1 : x.f1 = y.f1 := by
      rcases Int.lt_trichotomy x.f1 y.f1 with k | k | k
      · exact absurd rfl (up ha.2.2 ((h x.f1).2 (mem_cons.2 (.inl ⟨by omega, k⟩))))
      · exact k
      · exact absurd rfl (up hb.2.2 ((h y.f1).1 (mem_cons.2 (.inl ⟨by omega, k⟩))))
    have e2 : x = y := by cases x; cases y; simp_all
    subst e2
    rw [sep_unique ha.2.2 hb.2.2 (fun z => ?_)]
    constructor
    · intro k
      have := sep_mem ha.2.2 k
      rcases mem_cons.1 ((h z).1 (mem_cons.2 (.inr k))) with k | k
      · omega
      · exact k
    · intro k
      have := sep_mem hb.2.2 k
      rcases mem_cons.1 ((h z).2 (mem_cons.2 (.inr k))) with k | k
      · omega
      · exact k

/-! ### the reference's parts -/
def withOf : List Int → Int → List Int
  | [], n => [n]
  | x :: r, n => if x < n then x :: withOf r n else if x = n then x :: r else n :: x :: r
theorem withOf_len : ∀ (l : List Int) (n : Int), (withOf l n).length ≤ l.length + 1
  | [], n => by simp [withOf]
  | x :: r, n => by
    have := withOf_len r n
    unfold withOf
    split
    · simp; omega
    · split <;> simp
theorem withOf_mem : ∀ (l : List Int) (n x : Int), x ∈ withOf l n ↔ x = n ∨ x ∈ l
  | [], n, x => by simp [withOf]
  | y :: r, n, x => by
    have := withOf_mem r n x
    unfold withOf
    split
    · simp only [List.mem_cons, this]; constructor <;> (rintro (h | h | h) <;> simp [h])
    · split
      · rename_i h; subst h; simp
      · simp
theorem withOf_sorted : ∀ (l : List Int) (n : Int), l.Pairwise (· < ·) → (withOf l n).Pairwise (· < ·)
  | [], n, _ => by simp [withOf]
  | y :: r, n, h => by
    rw [List.pairwise_cons] at h
    unfold withOf
    split
    · rename_i k
      refine List.pairwise_cons.2 ⟨fun z hz => ?_, withOf_sorted r n h.2⟩
      rcases (withOf_mem r n z).1 hz with rfl | hz
      · exact k
      · exact h.1 z hz
    · split
      · exact List.pairwise_cons.2 h
      · refine List.pairwise_cons.2 ⟨fun z hz => ?_, List.pairwise_cons.2 h⟩
        rcases List.mem_cons.1 hz with rfl | hz
        · omega
        · have := h.1 z hz; omega
theorem with_l0 (l : List Int) (n : Int) (hl : l.length < 1000000) : ∀ (d i : Nat), l.length - i = d → i ≤ l.length → Ends (fun k => papermillref04_with.l0 k l n (i : Int)) (l.take i ++ withOf (l.drop i) n) := by
  intro d
  induction d with
  | zero =>
    intro i hd hi
    rw [List.drop_of_length_le (by omega)]
    refine Ends.succ ?_
    simp only [papermillref04_with.l0, Option.bind_some, Int.toNat_natCast, List.nil_append]
    refine Ends.neg (by omega) (Ends.pos (by omega) (Ends.pos (by omega) (Ends.pos (by simp only [List.length_nil, List.length_take]; omega) (Ends.pos (by simp only [List.length_append, List.length_take]; omega) (Ends.pos (by simp only [List.length_append, List.length_take, List.length_drop, List.length_cons, List.length_nil]; omega) ?_)))))
    rw [List.drop_of_length_le (l := l) (i := i) (by omega)]
    simpa [withOf] using Ends.ret _
  | succ d ih =>
    intro i hd hi
    have hlen := List.length_drop (i := i) (l := l)
    rw [dropI l i (by omega)] at hlen
    rw [dropI l i (by omega)]
    refine Ends.succ ?_
    simp only [papermillref04_with.l0, Option.bind_some, Int.toNat_natCast, List.nil_append, wrap_nat i (by omega)]
    refine Ends.pos (by omega) (Ends.pos (by omega) ?_)
    by_cases h1 : rd l i < n
    · refine Ends.pos h1 ?_
      have := ih (i + 1) (by omega) (by omega)
      rw [List.take_succ_eq_append_getElem (by omega), ← rdI l i (by omega)] at this
      simpa [withOf, h1] using this
    · refine Ends.neg h1 ?_
      by_cases h2 : rd l i = n
      · refine Ends.pos h2 ?_
        have e : l.take i ++ withOf (rd l i :: l.drop (i + 1)) n = l := by
          rw [withOf, if_neg h1, if_pos h2, ← dropI l i (by omega), List.take_append_drop]
        rw [e]; exact Ends.ret _
      · refine Ends.neg h2 (Ends.pos (by omega) (Ends.pos (by simp only [List.length_nil, List.length_take]; omega) (Ends.pos (by simp only [List.length_take]; omega) (Ends.pos (by simp only [List.length_append, List.length_take, List.length_drop, List.length_cons, List.length_nil]; omega) ?_))))
        rw [withOf, if_neg h1, if_neg h2, ← dropI l i (by omega)]
        simpa using Ends.ret _
theorem with_ends (l : List Int) (n : Int) (hl : l.length < 1000000) : Ends (fun k => papermillref04_with.f k l n) (withOf l n) := by
  simpa [papermillref04_with.f] using with_l0 l n hl l.length 0 rfl (Nat.zero_le _)
def endStep (o : List Int) (s : S36) : List Int := withOf (withOf o s.f0) s.f1
def endsOf (a b : List S36) : List Int := b.foldl endStep (a.foldl endStep [])
theorem endStep_len (o : List Int) (s : S36) : (endStep o s).length ≤ o.length + 2 := by
  have h1 := withOf_len o s.f0
  have h2 := withOf_len (withOf o s.f0) s.f1
  unfold endStep
  omega
theorem foldEnd_len : ∀ (a : List S36) (o : List Int), (a.foldl endStep o).length ≤ o.length + 2 * a.length
  | [], o => by simp
  | s :: a, o => by
    have h1 := foldEnd_len a (endStep o s)
    have h2 := endStep_len o s
    simp only [List.foldl_cons, List.length_cons]
    omega
theorem foldEnd_mem : ∀ (a : List S36) (o : List Int) (x : Int), x ∈ a.foldl endStep o ↔ x ∈ o ∨ ∃ s ∈ a, x = s.f0 ∨ x = s.f1
  | [], o, x => by simp
  | s :: a, o, x => by
    rw [List.foldl_cons, foldEnd_mem a]
    unfold endStep
    rw [withOf_mem, withOf_mem]
    simp only [List.mem_cons]
    constructor
    · rintro ((h | h | h) | ⟨t, ht, h⟩)
      · exact .inr ⟨s, .inl rfl, .inr h⟩
      · exact .inr ⟨s, .inl rfl, .inl h⟩
      · exact .inl h
      · exact .inr ⟨t, .inr ht, h⟩
    · rintro (h | ⟨t, rfl | ht, h⟩)
      · exact .inl (.inr (.inr h))
      · rcases h with h | h
        · exact .inl (.inr (.inl h))
        · exact .inl (.inl h)
      · exact .inr ⟨t, ht, h⟩
theorem foldEnd_sorted : ∀ (a : List S36) (o : List Int), o.Pairwise (· < ·) → (a.foldl endStep o).Pairwise (· < ·)
  | [], o, h => h
  | s :: a, o, h => by
    rw [List.foldl_cons]
    exact foldEnd_sorted a _ (withOf_sorted _ _ (withOf_sorted _ _ h))
theorem endsOf_mem (a b : List S36) (x : Int) : x ∈ endsOf a b ↔ (∃ s ∈ a, x = s.f0 ∨ x = s.f1) ∨ ∃ s ∈ b, x = s.f0 ∨ x = s.f1 := by
  unfold endsOf
  rw [foldEnd_mem, foldEnd_mem]
  simp
theorem endsOf_sorted (a b : List S36) : (endsOf a b).Pairwise (· < ·) := foldEnd_sorted b _ (foldEnd_sorted a _ List.Pairwise.nil)
theorem endsOf_len (a b : List S36) : (endsOf a b).length ≤ 2 * a.length + 2 * b.length := by
  have h1 := foldEnd_len a []
  have h2 := foldEnd_len b (a.foldl endStep [])
  unfold endsOf
  simp only [List.length_nil] at h1
  omega
theorem ends_l1 (b : List S36) (hb : b.length ≤ 256) : ∀ (d i : Nat) (o : List Int), b.length - i = d → i ≤ b.length → o.length + 2 * d < 1000000 → Ends (fun k => papermillref04_ends.l1 k b o (i : Int)) ((b.drop i).foldl endStep o) := by
  intro d
  induction d with
  | zero =>
    intro i o hd hi ho
    rw [List.drop_of_length_le (by omega)]
    refine Ends.succ ?_
    simp only [papermillref04_ends.l1]
    exact Ends.neg (by omega) (Ends.ret _)
  | succ d ih =>
    intro i o hd hi ho
    rw [drop36 b i (by omega), List.foldl_cons]
    refine Ends.succ ?_
    simp only [papermillref04_ends.l1, wrap_nat i (by omega)]
    have h1 := withOf_len o (rd_T36 b i).f0
    have h2 := endStep_len o (rd_T36 b i)
    exact Ends.pos (by omega) (Ends.pos (by omega) (Ends.bind (with_ends _ _ (by omega)) (Ends.bind (with_ends _ _ (by omega)) (ih (i + 1) _ (by omega) (by omega) (by show (endStep o (rd_T36 b i)).length + _ < _; omega)))))
theorem ends_l0 (a b : List S36) (ha : a.length ≤ 256) (hb : b.length ≤ 256) : ∀ (d i : Nat) (o : List Int), a.length - i = d → i ≤ a.length → o.length + 2 * d < 900000 → Ends (fun k => papermillref04_ends.l0 k a b o (i : Int)) (b.foldl endStep ((a.drop i).foldl endStep o)) := by
  intro d
  induction d with
  | zero =>
    intro i o hd hi ho
    rw [List.drop_of_length_le (by omega)]
    refine Ends.succ ?_
    simp only [papermillref04_ends.l0]
    exact Ends.neg (by omega) (by simpa using ends_l1 b hb b.length 0 o rfl (Nat.zero_le _) (by omega))
  | succ d ih =>
    intro i o hd hi ho
    rw [drop36 a i (by omega), List.foldl_cons]
    refine Ends.succ ?_
    simp only [papermillref04_ends.l0, wrap_nat i (by omega)]
    have h1 := withOf_len o (rd_T36 a i).f0
    have h2 := endStep_len o (rd_T36 a i)
    exact Ends.pos (by omega) (Ends.pos (by omega) (Ends.bind (with_ends _ _ (by omega)) (Ends.bind (with_ends _ _ (by omega)) (ih (i + 1) _ (by omega) (by omega) (by show (endStep o (rd_T36 a i)).length + _ < _; omega)))))
theorem ends_ends (a b : List S36) (ha : a.length ≤ 256) (hb : b.length ≤ 256) : Ends (fun k => papermillref04_ends.f k a b) (endsOf a b) := by
  simpa [papermillref04_ends.f, endsOf] using ends_l0 a b ha hb a.length 0 [] rfl (Nat.zero_le _) (by simp; omega)
def hasOf (l : List S36) (x : Int) : Bool := l.any fun s => decide (s.f0 ≤ x ∧ x < s.f1)
theorem hasOf_iff (l : List S36) (x : Int) : hasOf l x = true ↔ Mem l x := by simp [hasOf, Mem]
theorem has_l0 (l : List S36) (x : Int) (hl : l.length < 1000000) : ∀ (d i : Nat), l.length - i = d → i ≤ l.length → Ends (fun k => papermillref04_Has.l0 k l x (i : Int)) (hasOf (l.drop i) x) := by
  intro d
  induction d with
  | zero =>
    intro i hd hi
    rw [List.drop_of_length_le (by omega)]
    refine Ends.succ ?_
    simp only [papermillref04_Has.l0]
    exact Ends.neg (by omega) (Ends.ret _)
  | succ d ih =>
    intro i hd hi
    have := ih (i + 1) (by omega) (by omega)
    rw [drop36 l i (by omega)]
    refine Ends.succ ?_
    simp only [papermillref04_Has.l0, wrap_nat i (by omega)]
    refine Ends.pos (by omega) (Ends.pos (by omega) ?_)
    by_cases h1 : (rd_T36 l i).f0 ≤ x
    · refine Ends.pos h1 ?_
      by_cases h2 : x < (rd_T36 l i).f1
      · refine Ends.pos h2 ?_
        simpa [hasOf, h1, h2] using Ends.ret true
      · refine Ends.neg h2 ?_
        simpa [hasOf, h1, h2] using this
    · refine Ends.neg h1 ?_
      simpa [hasOf, h1] using this
theorem has_ends (l : List S36) (x : Int) (hl : l.length < 1000000) : Ends (fun k => papermillref04_Has.f k l x) (hasOf l x) := by
  simpa [papermillref04_Has.f] using has_l0 l x hl l.length 0 rfl (Nat.zero_le _)

/-! ### the combination -/
def skips (w : Int) (p q : Bool) : Bool := (w == 0 && !p && !q) || (w == 1 && !(p && q)) || (w == 2 && (!p || q))
def push (out : List S36) (c d : Int) : List S36 := match out.getLast? with
  | none => [⟨c, d⟩]
  | some s => if s.f1 = c then out.dropLast ++ [⟨s.f0, d⟩] else out ++ [⟨c, d⟩]
def combGo (a b : List S36) (w : Int) : List S36 → List Int → List S36
  | out, c :: d :: r => combGo a b w (if skips w (hasOf a c) (hasOf b c) = true then out else push out c d) (d :: r)
  | out, _ => out
def combOf (a b : List S36) (w : Int) : List S36 := combGo a b w [] (endsOf a b)
theorem push_len (out : List S36) (c d : Int) : (push out c d).length ≤ out.length + 1 := by
  unfold push
  split
  · simp
  · split
    · simp
    · simp
theorem getLast_rd (out : List S36) (h : out.length ≠ 0) : out.getLast? = some (rd_T36 out ((out.length - 1 : Nat) : Int)) := by
  rw [List.getLast?_eq_getElem?, rd36 _ _ (by omega), List.getElem?_eq_getElem (by omega)]
theorem dropLast_set (out : List S36) (h : out.length ≠ 0) (y : S36) : out.set (out.length - 1) y = out.dropLast ++ [y] := by
  obtain ⟨d, x, rfl⟩ : ∃ d x, out = d ++ [x] := ⟨out.dropLast, out.getLast (fun e => h (by rw [e]; rfl)), (List.dropLast_concat_getLast _).symm⟩
  rw [List.dropLast_concat, List.length_append]
  simp
theorem comb_j1 (a b : List S36) (w : Int) (cuts : List Int) (i : Nat) (out : List S36) (hi : i + 1 < cuts.length) (hc : cuts.length < 1000000) (ho : out.length < 1000000) (sk : Bool) (r : List S36)
    (h : Ends (fun k => papermillref04_combine.l0 k a b w cuts (if sk = true then out else push out (rd cuts i) (rd cuts (i + 1 : Nat))) ((i + 1 : Nat) : Int)) r) :
    Ends (fun k => papermillref04_combine.j1 k a b w cuts out (i : Int) sk) r := by
  refine Ends.succ ?_
  simp only [papermillref04_combine.j1, wrap_nat i (by omega)]
  cases sk with
  | true => exact Ends.pos rfl (by simpa using h)
  | false =>
    refine Ends.neg (by simp) ?_
    simp only [Bool.false_eq_true, if_false] at h
    by_cases h0 : out.length = 0
    · have e : out = [] := List.length_eq_zero_iff.1 h0
      subst e
      have e2 : push [] (rd cuts i) (rd cuts (i + 1 : Nat)) = [⟨rd cuts i, rd cuts (i + 1 : Nat)⟩] := rfl
      rw [e2] at h
      exact Ends.neg (by simp [wrap64]) (Ends.pos (by omega) (Ends.pos (by omega) (Ends.pos (by omega) (Ends.pos (by omega) (Ends.pos (by omega) h)))))
    · have hw : wrap64 ((out.length : Int) - 1) = ((out.length - 1 : Nat) : Int) := by unfold wrap64; omega
      have hl := getLast_rd out h0
      simp only [hw, Int.toNat_natCast]
      refine Ends.pos (by omega) (Ends.pos (by omega) (Ends.pos (by omega) (Ends.pos (by omega) (Ends.pos (by omega) ?_))))
      by_cases h1 : (rd_T36 out ((out.length - 1 : Nat) : Int)).f1 = rd cuts i
      · refine Ends.pos h1 (Ends.pos (by omega) (Ends.pos (by omega) ?_))
        rw [dropLast_set out h0]
        simpa [push, hl, h1] using h
      · refine Ends.neg h1 (Ends.pos (by omega) (Ends.pos (by omega) (Ends.pos (by omega) ?_)))
        simpa [push, hl, h1] using h
theorem comb_l0 (a b : List S36) (ha : a.length ≤ 256) (hb : b.length ≤ 256) (w : Int) (hw : w = 0 ∨ w = 1 ∨ w = 2) (cuts : List Int) (hc : cuts.length < 10000) : ∀ (d i : Nat) (out : List S36), cuts.length - i = d → i ≤ cuts.length → out.length + d < 900000 → Ends (fun k => papermillref04_combine.l0 k a b w cuts out (i : Int)) (combGo a b w out (cuts.drop i)) := by
  intro d
  induction d with
  | zero =>
    intro i out hd hi ho
    rw [List.drop_of_length_le (by omega)]
    refine Ends.succ ?_
    simp only [papermillref04_combine.l0, wrap_nat i (by omega)]
    exact Ends.neg (by omega) (Ends.ret _)
  | succ d ih =>
    intro i out hd hi ho
    by_cases h1 : i + 1 < cuts.length
    · rw [dropI cuts i (by omega), dropI cuts (i + 1) h1]
      refine Ends.succ ?_
      simp only [papermillref04_combine.l0, wrap_nat i (by omega)]
      refine Ends.pos (by omega) (Ends.pos (by omega) (Ends.pos (by omega) (Ends.bind (has_ends a _ (by omega)) (Ends.bind (has_ends b _ (by omega)) ?_))))
      have hp := push_len out (rd cuts i) (rd cuts (i + 1 : Nat))
      have hj := comb_j1 a b w cuts i out h1 (by omega) (by omega) (skips w (hasOf a (rd cuts i)) (hasOf b (rd cuts i))) _ (ih (i + 1) _ (by omega) (by omega) (by split <;> omega))
      rw [dropI cuts (i + 1) h1] at hj
      rw [combGo]
      revert hj
      generalize hasOf a (rd cuts i) = p
      generalize hasOf b (rd cuts i) = q
      intro hj
      rcases hw with rfl | rfl | rfl <;> cases p <;> cases q <;> simpa [skips] using hj
    · refine Ends.succ ?_
      simp only [papermillref04_combine.l0, wrap_nat i (by omega)]
      rw [dropI cuts i (by omega), List.drop_of_length_le (l := cuts) (i := i + 1) (by omega)]
      exact Ends.neg (by omega) (Ends.ret _)
theorem comb_ends (a b : List S36) (ha : a.length ≤ 256) (hb : b.length ≤ 256) (w : Int) (hw : w = 0 ∨ w = 1 ∨ w = 2) : Ends (fun k => papermillref04_combine.f k a b w) (combOf a b w) := by
  have h := endsOf_len a b
  unfold papermillref04_combine.f combOf
  exact Ends.bind (ends_ends a b ha hb) (by simpa using comb_l0 a b ha hb w hw (endsOf a b) (by omega) (endsOf a b).length 0 [] rfl (Nat.zero_le _) (by simp; omega))
/-- the members: those that the way keeps -/
def keeps (w : Int) (a b : List S36) (x : Int) : Prop := skips w (hasOf a x) (hasOf b x) = false
theorem sep_snoc : ∀ {l : List S36} {e : Int} {s : S36}, sep e l → (∀ t ∈ l, t.f1 < s.f0) → e < s.f0 → s.f0 < s.f1 → sep e (l ++ [s])
  | [], e, s, _, _, h1, h2 => ⟨h1, h2, trivial⟩
  | x :: r, e, s, h, ht, h1, h2 => ⟨h.1, h.2.1, sep_snoc h.2.2 (fun t k => ht t (by simp [k])) (ht x (by simp)) h2⟩
theorem sep_init : ∀ {l : List S36} {e : Int} {s : S36}, sep e (l ++ [s]) → sep e l ∧ (∀ t ∈ l, t.f1 < s.f0) ∧ e < s.f0 ∧ s.f0 < s.f1
  | [], e, s, h => ⟨trivial, by simp, h.1, h.2.1⟩
  | x :: r, e, s, h => by
    obtain ⟨h1, h2, h3, h4⟩ := sep_init (l := r) h.2.2
    have := h.2.1; have := h.1
    refine ⟨⟨h.1, h.2.1, h1⟩, fun t k => ?_, by omega, h4⟩
    rcases List.mem_cons.1 k with rfl | k
    · exact h3
    · exact h2 t k
theorem push_ok {out : List S36} {e c d : Int} (h : sep e out) (hc : ∀ t ∈ out, t.f1 ≤ c) (he : e < c) (hd : c < d) : sep e (push out c d) ∧ (∀ t ∈ push out c d, t.f1 ≤ d) ∧ ∀ x, Mem (push out c d) x ↔ Mem out x ∨ (c ≤ x ∧ x < d) := by
  by_cases h0 : out = []
  · subst h0
    refine ⟨⟨he, hd, trivial⟩, fun t ht => ?_, fun x => ?_⟩
    · rw [List.mem_singleton.1 ht]; exact Int.le_refl _
    · show Mem [⟨c, d⟩] x ↔ _
      rw [mem_cons]
      constructor
      · rintro (h | h)
        · exact .inr h
        · exact absurd h (mem_nil x)
      · rintro (h | h)
        · exact absurd h (mem_nil x)
        · exact .inl h
  · obtain ⟨i, s, rfl⟩ : ∃ i s, out = i ++ [s] := ⟨out.dropLast, out.getLast h0, (List.dropLast_concat_getLast _).symm⟩
    obtain ⟨h1, h2, h3, h4⟩ := sep_init h
    have hs := hc s (by simp)
    by_cases h5 : s.f1 = c
    · have e1 : push (i ++ [s]) c d = i ++ [⟨s.f0, d⟩] := by simp [push, h5]
      rw [e1]
      refine ⟨sep_snoc h1 h2 h3 (by show s.f0 < d; omega), fun t ht => ?_, fun x => ?_⟩
      · rcases List.mem_append.1 ht with ht | ht
        · have := hc t (by simp [ht]); omega
        · rw [List.mem_singleton.1 ht]; exact Int.le_refl _
      · rw [mem_append, mem_append, mem_cons, mem_cons]
        have n := mem_nil x
        simp only [n, or_false]
        constructor
        · rintro (k | k)
          · exact .inl (.inl k)
          · have k1 : s.f0 ≤ x := k.1
            have k2 : x < d := k.2
            by_cases k3 : x < s.f1
            · exact .inl (.inr ⟨k1, k3⟩)
            · exact .inr ⟨by omega, k2⟩
        · rintro ((k | k) | k)
          · exact .inl k
          · exact .inr ⟨k.1, by show x < d; omega⟩
          · exact .inr ⟨by show s.f0 ≤ x; omega, k.2⟩
    · have e1 : push (i ++ [s]) c d = i ++ [s] ++ [⟨c, d⟩] := by simp [push, h5]
      rw [e1]
      refine ⟨sep_snoc h (fun t ht => ?_) he hd, fun t ht => ?_, fun x => ?_⟩
      · rcases List.mem_append.1 ht with ht | ht
        · have := h2 t ht; show t.f1 < c; omega
        · rw [List.mem_singleton.1 ht]; show s.f1 < c; omega
      · rcases List.mem_append.1 ht with ht | ht
        · have := hc t ht; omega
        · rw [List.mem_singleton.1 ht]; exact Int.le_refl _
      · rw [mem_append, mem_cons]
        have n := mem_nil x
        simp only [n, or_false]
theorem combGo_ok (a b : List S36) (w : Int) (e : Int) : ∀ (cuts : List Int) (out : List S36) (c : Int), (c :: cuts).Pairwise (· < ·) → sep e out → (∀ t ∈ out, t.f1 ≤ c) → e < c →
    (∀ s, s ∈ a ∨ s ∈ b → (s.f0 ≤ c ∨ s.f0 ∈ cuts) ∧ (s.f1 ≤ c ∨ s.f1 ∈ cuts)) →
    (∀ x, x < c → (Mem out x ↔ keeps w a b x)) → skips w false false = true →
    sep e (combGo a b w out (c :: cuts)) ∧ ∀ x, Mem (combGo a b w out (c :: cuts)) x ↔ keeps w a b x
  | [], out, c, _, h, hc, he, hab, hm, hff => by
    refine ⟨h, fun x => ?_⟩
    by_cases hx : x < c
    · exact hm x hx
    · have na : ∀ l : List S36, (∀ s ∈ l, s.f1 ≤ c) → hasOf l x = false := by
        intro l hl
        cases hh : hasOf l x with
        | false => rfl
        | true =>
          obtain ⟨s, hs, k1, k2⟩ := (hasOf_iff l x).1 hh
          have := hl s hs; omega
      have h1 := na a (fun s hs => by have := (hab s (.inl hs)).2; simpa using this)
      have h2 := na b (fun s hs => by have := (hab s (.inr hs)).2; simpa using this)
      constructor
      · rintro ⟨s, hs, k1, k2⟩
        have := hc s hs; omega
      · intro k
        unfold keeps at k
        rw [h1, h2, hff] at k
        cases k
  | d :: cuts, out, c, hs, h, hc, he, hab, hm, hff => by
    rw [List.pairwise_cons] at hs
    have hcd := hs.1 d (by simp)
    have hsame : ∀ l : List S36, (∀ s ∈ l, s ∈ a ∨ s ∈ b) → ∀ x, c ≤ x → x < d → hasOf l x = hasOf l c := by
      intro l hl x h1 h2
      have : ∀ s ∈ l, (s.f0 ≤ x ∧ x < s.f1) ↔ (s.f0 ≤ c ∧ c < s.f1) := by
        intro s hs'
        obtain ⟨k1, k2⟩ := hab s (hl s hs')
        have g : ∀ z ∈ d :: cuts, d ≤ z := by
          intro z hz
          rcases List.mem_cons.1 hz with rfl | hz
          · omega
          · have := (List.pairwise_cons.1 hs.2).1 z hz; omega
        have k1' : s.f0 ≤ c ∨ d ≤ s.f0 := k1.imp id (g _)
        have k2' : s.f1 ≤ c ∨ d ≤ s.f1 := k2.imp id (g _)
        omega
      rw [Bool.eq_iff_iff, hasOf_iff, hasOf_iff]
      constructor
      · rintro ⟨s, hs', k⟩; exact ⟨s, hs', (this s hs').1 k⟩
      · rintro ⟨s, hs', k⟩; exact ⟨s, hs', (this s hs').2 k⟩
    have ka : ∀ x, c ≤ x → x < d → (keeps w a b x ↔ keeps w a b c) := by
      intro x h1 h2
      unfold keeps
      rw [hsame a (fun s k => .inl k) x h1 h2, hsame b (fun s k => .inr k) x h1 h2]
    have hab' : ∀ s, s ∈ a ∨ s ∈ b → (s.f0 ≤ d ∨ s.f0 ∈ cuts) ∧ (s.f1 ≤ d ∨ s.f1 ∈ cuts) := by
      intro s hs'
      obtain ⟨k1, k2⟩ := hab s hs'
      constructor
      · rcases k1 with k | k
        · exact .inl (by omega)
        · rcases List.mem_cons.1 k with k | k
          · exact .inl (by omega)
          · exact .inr k
      · rcases k2 with k | k
        · exact .inl (by omega)
        · rcases List.mem_cons.1 k with k | k
          · exact .inl (by omega)
          · exact .inr k
    rw [combGo]
    by_cases hk : skips w (hasOf a c) (hasOf b c) = true
    · rw [if_pos hk]
      refine combGo_ok a b w e cuts out d hs.2 h (fun t ht => by have := hc t ht; omega) (by omega) hab' (fun x hx => ?_) hff
      by_cases hxc : x < c
      · exact hm x hxc
      · rw [ka x (by omega) hx]
        constructor
        · rintro ⟨s, hs', k1, k2⟩
          have := hc s hs'; omega
        · intro k; unfold keeps at k; rw [hk] at k; cases k
    · rw [if_neg hk]
      obtain ⟨p1, p2, p3⟩ := push_ok h hc he hcd
      refine combGo_ok a b w e cuts _ d hs.2 p1 p2 (by omega) hab' (fun x hx => ?_) hff
      rw [p3]
      by_cases hxc : x < c
      · rw [hm x hxc]
        constructor
        · rintro (k | k)
          · exact k
          · omega
        · exact .inl
      · rw [ka x (by omega) hx]
        constructor
        · intro _; unfold keeps; simpa using hk
        · intro _; exact .inr ⟨by omega, hx⟩
theorem skips_ff (w : Int) (hw : w = 0 ∨ w = 1 ∨ w = 2) : skips w false false = true := by rcases hw with rfl | rfl | rfl <;> rfl
/-- The combination is the one list of what the way keeps. -/
theorem comb_ok (a b : List S36) (w : Int) (hw : w = 0 ∨ w = 1 ∨ w = 2) (e : Int) (he : ∀ s, s ∈ a ∨ s ∈ b → e < s.f0 ∧ s.f0 ≤ s.f1) : sep e (combOf a b w) ∧ ∀ x, Mem (combOf a b w) x ↔ keeps w a b x := by
  have hm := endsOf_mem a b
  have hs := endsOf_sorted a b
  unfold combOf
  cases hc : endsOf a b with
  | nil =>
    refine ⟨trivial, fun x => ?_⟩
    have na : ∀ l : List S36, (∀ s ∈ l, s ∈ a ∨ s ∈ b) → l = [] := by
      intro l hl
      cases l with
      | nil => rfl
      | cons s r =>
        exfalso
        have : s.f0 ∈ endsOf a b := by
          rw [hm]
          rcases hl s (by simp) with k | k
          · exact .inl ⟨s, k, .inl rfl⟩
          · exact .inr ⟨s, k, .inl rfl⟩
        rw [hc] at this; simp at this
    have ea := na a (fun s k => .inl k)
    have eb := na b (fun s k => .inr k)
    subst ea; subst eb
    constructor
    · intro h; exact absurd h (mem_nil x)
    · intro h
      have : skips w false false = false := h
      rw [skips_ff w hw] at this; cases this
  | cons c cuts =>
    rw [hc] at hs hm
    have hc0 : ∀ z, z ∈ c :: cuts → c ≤ z := by
      intro z hz
      rcases List.mem_cons.1 hz with rfl | hz
      · omega
      · have := (List.pairwise_cons.1 hs).1 z hz; omega
    have hin : ∀ s, s ∈ a ∨ s ∈ b → s.f0 ∈ c :: cuts ∧ s.f1 ∈ c :: cuts := by
      intro s hs'
      rw [hm, hm]
      rcases hs' with k | k
      · exact ⟨.inl ⟨s, k, .inl rfl⟩, .inl ⟨s, k, .inr rfl⟩⟩
      · exact ⟨.inr ⟨s, k, .inl rfl⟩, .inr ⟨s, k, .inr rfl⟩⟩
    have hec : e < c := by
      rcases (hm c).1 (by simp) with ⟨s, k, h | h⟩ | ⟨s, k, h | h⟩
      · have := he s (.inl k); omega
      · have := he s (.inl k); omega
      · have := he s (.inr k); omega
      · have := he s (.inr k); omega
    refine combGo_ok a b w e cuts [] c hs trivial (by simp) hec (fun s k => ?_) (fun x hx => ?_) (skips_ff w hw)
    · obtain ⟨k1, k2⟩ := hin s k
      constructor
      · rcases List.mem_cons.1 k1 with k | k
        · exact .inl (by omega)
        · exact .inr k
      · rcases List.mem_cons.1 k2 with k | k
        · exact .inl (by omega)
        · exact .inr k
    · have na : ∀ l : List S36, (∀ s ∈ l, s ∈ a ∨ s ∈ b) → hasOf l x = false := by
        intro l hl
        cases hh : hasOf l x with
        | false => rfl
        | true =>
          obtain ⟨s, hs', k1, k2⟩ := (hasOf_iff l x).1 hh
          have := hc0 _ (hin s (hl s hs')).1; omega
      constructor
      · intro h; exact absurd h (mem_nil x)
      · intro h
        unfold keeps at h
        rw [na a (fun s k => .inl k), na b (fun s k => .inr k), skips_ff w hw] at h
        cases h

/-! ### Check and the rest -/
def badS (s : S36) : Prop := s.f0 < 0 ∨ s.f0 > s.f1 ∨ s.f1 > 17179869184
instance (s : S36) : Decidable (badS s) := by unfold badS; infer_instance
def check04 (l : List S36) : Int := if l.length > 256 then 8 else if ∃ s ∈ l, badS s then 1 else 0
theorem check_l0 (l : List S36) (hl : l.length ≤ 256) : ∀ (d i : Nat), l.length - i = d → i ≤ l.length → Ends (fun k => papermillref04_Check.l0 k l (i : Int)) (if ∃ s ∈ l.drop i, badS s then 1 else 0) := by
  intro d
  induction d with
  | zero =>
    intro i hd hi
    rw [List.drop_of_length_le (by omega)]
    refine Ends.succ ?_
    simp only [papermillref04_Check.l0]
    exact Ends.neg (by omega) (by simpa using Ends.ret (0 : Int))
  | succ d ih =>
    intro i hd hi
    have := ih (i + 1) (by omega) (by omega)
    rw [drop36 l i (by omega)]
    refine Ends.succ ?_
    simp only [papermillref04_Check.l0, wrap_nat i (by omega)]
    refine Ends.pos (by omega) (Ends.pos (by omega) ?_)
    by_cases hb : badS (rd_T36 l i)
    · rw [if_pos ⟨_, by simp, hb⟩]
      unfold badS at hb
      by_cases h1 : (rd_T36 l i).f0 < 0
      · exact Ends.pos h1 (Ends.ret _)
      · refine Ends.neg h1 ?_
        by_cases h2 : (rd_T36 l i).f0 > (rd_T36 l i).f1
        · exact Ends.pos h2 (Ends.ret _)
        · exact Ends.neg h2 (Ends.pos (by omega) (Ends.ret _))
    · have e : (∃ s ∈ rd_T36 l i :: l.drop (i + 1), badS s) ↔ ∃ s ∈ l.drop (i + 1), badS s := by
        constructor
        · rintro ⟨s, hs, k⟩
          rcases List.mem_cons.1 hs with rfl | hs
          · exact absurd k hb
          · exact ⟨s, hs, k⟩
        · rintro ⟨s, hs, k⟩; exact ⟨s, by simp [hs], k⟩
      simp only [e]
      unfold badS at hb
      exact Ends.neg (by omega) (Ends.neg (by omega) (Ends.neg (by omega) this))
theorem check04_ends (l : List S36) : Ends (fun k => papermillref04_Check.f k l) (check04 l) := by
  simp only [papermillref04_Check.f, check04]
  by_cases h : l.length > 256
  · rw [if_pos h]; exact Ends.pos (by omega) (Ends.ret _)
  · rw [if_neg h]; exact Ends.neg (by omega) (by simpa using check_l0 l (by omega) l.length 0 rfl (Nat.zero_le _))
theorem check04_zero {l : List S36} (h : check04 l = 0) : l.length ≤ 256 ∧ ∀ s ∈ l, ¬ badS s := by
  unfold check04 at h
  split at h
  · cases h
  · split at h
    · cases h
    · rename_i h1 h2; exact ⟨by omega, fun s hs k => h2 ⟨s, hs, k⟩⟩
def bothOf (a b : List S36) (w : Int) : List S36 × Int := if check04 a = 0 then (if check04 b = 0 then (if (combOf a b w).length > 256 then ([], 8) else (combOf a b w, 0)) else ([], check04 b)) else ([], check04 a)
theorem both_ends (a b : List S36) (w : Int) (hw : w = 0 ∨ w = 1 ∨ w = 2) : Ends (fun k => papermillref04_both.f k a b w) (bothOf a b w) := by
  unfold papermillref04_both.f bothOf
  refine Ends.bind (check04_ends a) ?_
  by_cases h1 : check04 a = 0
  · rw [if_pos h1]; refine Ends.pos h1 (Ends.bind (check04_ends b) ?_)
    by_cases h2 : check04 b = 0
    · rw [if_pos h2]; refine Ends.pos h2 (Ends.bind (comb_ends a b (check04_zero h1).1 (check04_zero h2).1 w hw) ?_)
      by_cases h3 : (combOf a b w).length > 256
      · rw [if_pos h3]; exact Ends.pos (by omega) (Ends.ret _)
      · rw [if_neg h3]; exact Ends.neg (by omega) (Ends.ret _)
    · rw [if_neg h2]; exact Ends.neg h2 (Ends.ret _)
  · rw [if_neg h1]; exact Ends.neg h1 (Ends.ret _)
end Go.Proofs.Ytfdfpdiemeomiaa.G
