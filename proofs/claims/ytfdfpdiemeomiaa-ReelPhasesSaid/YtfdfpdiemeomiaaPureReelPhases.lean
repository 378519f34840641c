import Derived.Test.YtfdfpdiemeomiaaGxpapermilllaw34ReelPhases
import Derived.Test.YtfdfpdiemeomiaaGxpapermillref34turnups
import Derived.Test.YtfdfpdiemeomiaaGhOpen
import Derived.Test.YtfdfpdiemeomiaaPureBase
namespace Go.Proofs.Ytfdfpdiemeomiaa.G
open Go.RowKit Go.Proofs.YtfdfpdiemeomiaaW.PrintWords Go.Proofs.YtfdfpdiemeomiaaW.PrintLast Go.Proofs.YtfdfpdiemeomiaaW.PrintMore
set_option linter.unusedVariables false
set_option linter.unusedSimpArgs false
theorem rd36 (l : List S36) (i : Nat) (h : i < l.length) : rd_T36 l i = l[i] := by simp [rd_T36, List.getD_eq_getElem?_getD, List.getElem?_eq_getElem h]
theorem drop36 (l : List S36) (i : Nat) (h : i < l.length) : l.drop i = rd_T36 l i :: l.drop (i + 1) := by rw [rd36 l i h]; exact List.drop_eq_getElem_cons h
theorem dropI (l : List Int) (i : Nat) (h : i < l.length) : l.drop i = rd l i :: l.drop (i + 1) := by rw [rdI l i h]; exact List.drop_eq_getElem_cons h
theorem Ends.conv {α : Type} {g g' : Nat → Option α} {r : α} (e : ∀ k, g k = g' k) (h : Ends g' r) : Ends g r := by have : g = g' := funext e; rw [this]; exact h

/-! ### the turn-ups -/
def rngErr : List Int → Bool
  | [] => false
  | x :: r => if x < 0 then true else if x > 17179869184 then true else rngErr r
def incErr : Int → List Int → Int
  | _, [] => 0
  | p, x :: r => if x ≤ p then 9 else incErr x r
def incOf : List Int → Int
  | [] => 0
  | x :: r => incErr x r
def turnsOf (l : List Int) : Int := if l.length > 512 then 8 else if rngErr l = true then 1 else incOf l
theorem turns_inc (l : List Int) (hl : l.length ≤ 512) : ∀ (d i : Nat), l.length - i = d → 1 ≤ i → i ≤ l.length → Ends (fun k => reel_checkTurns.l1 k l (l.length : Int) (i : Int)) (incErr (rd l (i - 1 : Nat)) (l.drop i)) ∧ Ends (fun k => papermillref34_turnups.l1 k l (i : Int)) (incErr (rd l (i - 1 : Nat)) (l.drop i)) := by
  intro d
  induction d with
  | zero =>
    intro i hd h1 hi
    rw [List.drop_of_length_le (by omega)]
    constructor
    · refine Ends.succ ?_
      simp only [reel_checkTurns.l1]
      exact Ends.neg (by omega) (Ends.ret _)
    · refine Ends.succ ?_
      simp only [papermillref34_turnups.l1]
      exact Ends.neg (by omega) (Ends.ret _)
  | succ d ih =>
    intro i hd h1 hi
    rw [dropI l i (by omega)]
    obtain ⟨ih1, ih2⟩ := ih (i + 1) (by omega) (by omega) (by omega)
    rw [show (i + 1 - 1) = i from by omega] at ih1 ih2
    simp only [incErr]
    by_cases h2 : rd l i ≤ rd l (i - 1 : Nat)
    · rw [if_pos h2]
      constructor
      · refine Ends.succ ?_
        simp only [reel_checkTurns.l1, wrap_pred i (by omega) h1]
        exact Ends.pos (by omega) (Ends.pos (by omega) (Ends.pos (by omega) (Ends.pos (by omega) (Ends.pos (by omega) (Ends.pos (by omega) (Ends.pos h2 (Ends.ret _)))))))
      · refine Ends.succ ?_
        simp only [papermillref34_turnups.l1, wrap_pred i (by omega) h1]
        exact Ends.pos (by omega) (Ends.pos (by omega) (Ends.pos (by omega) (Ends.pos (by omega) (Ends.pos h2 (Ends.ret _)))))
    · rw [if_neg h2]
      constructor
      · refine Ends.succ ?_
        simp only [reel_checkTurns.l1, wrap_pred i (by omega) h1, wrap_nat i (by omega)]
        exact Ends.pos (by omega) (Ends.pos (by omega) (Ends.pos (by omega) (Ends.pos (by omega) (Ends.pos (by omega) (Ends.pos (by omega) (Ends.neg h2 ih1))))))
      · refine Ends.succ ?_
        simp only [papermillref34_turnups.l1, wrap_pred i (by omega) h1, wrap_nat i (by omega)]
        exact Ends.pos (by omega) (Ends.pos (by omega) (Ends.pos (by omega) (Ends.pos (by omega) (Ends.neg h2 ih2))))
theorem turns_inc0 (l : List Int) (hl : l.length ≤ 512) : Ends (fun k => reel_checkTurns.l1 k l (l.length : Int) 0) (incOf l) ∧ Ends (fun k => papermillref34_turnups.l1 k l 1) (incOf l) := by
  match l, hl with
  | [], _ =>
    constructor
    · refine Ends.succ ?_
      simp only [reel_checkTurns.l1]
      exact Ends.neg (by simp) (Ends.ret _)
    · refine Ends.succ ?_
      simp only [papermillref34_turnups.l1]
      exact Ends.neg (by simp) (Ends.ret _)
  | x :: r, hl =>
    obtain ⟨h1, h2⟩ := turns_inc (x :: r) hl r.length 1 (by simp) (Nat.le_refl _) (by simp)
    refine ⟨?_, h2⟩
    refine Ends.succ ?_
    simp only [reel_checkTurns.l1]
    exact Ends.pos (by simp) (Ends.neg (by omega) (by rw [show wrap64 (0 + 1) = ((1 : Nat) : Int) from by unfold wrap64; omega]; exact h1))
theorem turns_rng (l : List Int) (hl : l.length ≤ 512) : ∀ (d i : Nat), l.length - i = d → i ≤ l.length → Ends (fun k => reel_checkTurns.l0 k l l (l.length : Int) (i : Int)) (if rngErr (l.drop i) = true then 1 else incOf l) ∧ Ends (fun k => papermillref34_turnups.l0 k l (i : Int)) (if rngErr (l.drop i) = true then 1 else incOf l) := by
  intro d
  induction d with
  | zero =>
    intro i hd hi
    rw [List.drop_of_length_le (by omega)]
    obtain ⟨h1, h2⟩ := turns_inc0 l hl
    constructor
    · refine Ends.succ ?_
      simp only [reel_checkTurns.l0]
      exact Ends.neg (by omega) (by simpa [rngErr] using h1)
    · refine Ends.succ ?_
      simp only [papermillref34_turnups.l0]
      exact Ends.neg (by omega) (by simpa [rngErr] using h2)
  | succ d ih =>
    intro i hd hi
    obtain ⟨ih1, ih2⟩ := ih (i + 1) (by omega) (by omega)
    rw [dropI l i (by omega)]
    simp only [rngErr]
    by_cases h1 : rd l i < 0
    · simp only [if_pos h1]
      constructor
      · refine Ends.succ ?_
        simp only [reel_checkTurns.l0]
        exact Ends.pos (by omega) (Ends.pos (by omega) (Ends.pos (by omega) (Ends.pos h1 (Ends.ret _))))
      · refine Ends.succ ?_
        simp only [papermillref34_turnups.l0]
        exact Ends.pos (by omega) (Ends.pos (by omega) (Ends.pos h1 (Ends.ret _)))
    · simp only [if_neg h1]
      by_cases h2 : rd l i > 17179869184
      · simp only [if_pos h2]
        constructor
        · refine Ends.succ ?_
          simp only [reel_checkTurns.l0]
          exact Ends.pos (by omega) (Ends.pos (by omega) (Ends.pos (by omega) (Ends.neg h1 (Ends.pos h2 (Ends.ret _)))))
        · refine Ends.succ ?_
          simp only [papermillref34_turnups.l0]
          exact Ends.pos (by omega) (Ends.pos (by omega) (Ends.neg h1 (Ends.pos h2 (Ends.ret _))))
      · simp only [if_neg h2]
        constructor
        · refine Ends.succ ?_
          simp only [reel_checkTurns.l0, wrap_nat i (by omega)]
          exact Ends.pos (by omega) (Ends.pos (by omega) (Ends.pos (by omega) (Ends.neg h1 (Ends.neg h2 ih1))))
        · refine Ends.succ ?_
          simp only [papermillref34_turnups.l0, wrap_nat i (by omega)]
          exact Ends.pos (by omega) (Ends.pos (by omega) (Ends.neg h1 (Ends.neg h2 ih2)))
theorem turns_ends (l : List Int) : Ends (fun k => reel_checkTurns.f k l) (turnsOf l) := by
  simp only [reel_checkTurns.f, turnsOf]
  by_cases h : l.length > 512
  · rw [if_pos h]; exact Ends.pos (by omega) (Ends.ret _)
  · rw [if_neg h]; exact Ends.neg (by omega) (by simpa using (turns_rng l (by omega) l.length 0 rfl (Nat.zero_le _)).1)
theorem turnups_ends (l : List Int) : Ends (fun k => papermillref34_turnups.f k l) (turnsOf l) := by
  simp only [papermillref34_turnups.f, turnsOf]
  by_cases h : l.length > 512
  · rw [if_pos h]; exact Ends.pos (by omega) (Ends.ret _)
  · rw [if_neg h]; exact Ends.neg (by omega) (by simpa using (turns_rng l (by omega) l.length 0 rfl (Nat.zero_le _)).2)

/-! ### the stretches -/
def st2 : Option (Int × Int × Int) → List S44 → List S36
  | none, [] => []
  | some (a, _, e), [] => [⟨a, e⟩]
  | none, x :: r => if x.f2 = 3 then st2 none r else st2 (some (x.f0, x.f4, x.f1)) r
  | some (a, p, e), x :: r => if x.f2 = 3 then ⟨a, e⟩ :: st2 none r else if x.f4 = p then st2 (some (a, p, x.f1)) r else ⟨a, e⟩ :: st2 (some (x.f0, x.f4, x.f1)) r
theorem st2_some (x : S44) (a : Int) : ∀ (r : List S44) (y : S44), st2 (some (a, x.f4, y.f1)) r = ⟨a, ((y :: r.takeWhile (reel_Cut.same x)).getLastD y).f1⟩ :: st2 none (r.dropWhile (reel_Cut.same x))
  | [], y => by simp [st2]
  | z :: r, y => by
    rw [st2]
    by_cases h1 : z.f2 = 3
    · have e : reel_Cut.same x z = false := by simp [reel_Cut.same, h1]
      rw [if_pos h1, List.takeWhile_cons, List.dropWhile_cons, e]
      simp [st2, h1]
    · rw [if_neg h1]
      by_cases h2 : z.f4 = x.f4
      · have e : reel_Cut.same x z = true := by simp [reel_Cut.same, h1, h2]
        rw [if_pos h2, st2_some x a r z, List.takeWhile_cons, List.dropWhile_cons, e]
        simp only [if_true]
        congr 2
      · have e : reel_Cut.same x z = false := by simp [reel_Cut.same, h2]
        rw [if_neg h2, List.takeWhile_cons, List.dropWhile_cons, e]
        simp [st2, h1]
theorem strs_st2 : ∀ (n : Nat) (l : List S44), l.length ≤ n → reel_Cut.strs l = st2 none l
  | _, [], _ => by simp [reel_Cut.strs, st2]
  | n + 1, x :: r, h => by
    rw [reel_Cut.strs, st2]
    by_cases h1 : x.f2 = 3
    · rw [if_pos h1, if_pos h1]; exact strs_st2 n r (by simp at h; omega)
    · have h2 := (List.dropWhile_suffix (l := r) (reel_Cut.same x)).length_le
      rw [if_neg h1, if_neg h1, st2_some x x.f0 r x, strs_st2 n (r.dropWhile (reel_Cut.same x)) (by simp at h; omega)]
def StIn (l : List S44) (i : Nat) (acc done : List S36) (o : Option (Int × Int × Int)) : Prop :=
  (o = none ∧ (i = 0 ∨ (rd_T44 l (i - 1 : Nat)).f2 = 3) ∧ acc = done) ∨ (∃ a e, o = some (a, (rd_T44 l (i - 1 : Nat)).f4, e) ∧ 1 ≤ i ∧ (rd_T44 l (i - 1 : Nat)).f2 ≠ 3 ∧ acc = done ++ [⟨a, e⟩])
theorem set_last {α : Type} (d : List α) (x y : α) : (d ++ [x]).set d.length y = d ++ [y] := by
  rw [List.set_append_right _ _ (Nat.le_refl _)]; simp
/-! ### the pieces -/
def isIn (x : S36) (t : Int) : Bool := decide (x.f0 < t ∧ t < x.f1)
theorem at_filter (least : Int) (x : S36) : ∀ (ts : List Int) (st : Int × List S36 × List S36), ts.foldl (reel_Cut.at least x) st = (ts.filter (isIn x)).foldl (reel_Cut.piece least) st
  | [], st => rfl
  | t :: ts, st => by
    simp only [List.foldl_cons, List.filter_cons, isIn, decide_eq_true_eq, reel_Cut.at]
    by_cases h : x.f0 < t ∧ t < x.f1
    · simp only [if_pos h, List.foldl_cons]; exact at_filter least x ts _
    · simp only [if_neg h]; exact at_filter least x ts _
theorem one_fold (least : Int) (ts : List Int) (p : List S36 × List S36) (x : S36) : reel_Cut.one least ts p x = ((ts.filter (isIn x) ++ [x.f1]).foldl (reel_Cut.piece least) (x.f0, p.1, p.2)).2 := by
  unfold reel_Cut.one
  rw [at_filter, List.foldl_append]
  rfl
/-- what Cut answers -/
def cutOf (l : List S44) (ts : List Int) (a : Int) : List S36 × List S36 × Int :=
  if checkOf l = 0 then (if a < 1 then ([], [], 1) else if a > 17179869184 then ([], [], 1) else if turnsOf ts = 0 then ((reel_Cut.all a ts (reel_Cut.strs l)).1, (reel_Cut.all a ts (reel_Cut.strs l)).2, 0) else ([], [], turnsOf ts)) else ([], [], checkOf l)
theorem checkOf_len {l : List S44} (h : checkOf l = 0) : l.length ≤ 512 := by
  unfold checkOf at h
  split at h
  · cases h
  · omega
theorem turnsOf_len {l : List Int} (h : turnsOf l = 0) : l.length ≤ 512 := by
  unfold turnsOf at h
  split at h
  · cases h
  · omega
theorem cut_ends (l : List S44) (ts : List Int) (a : Int) : Ends (fun k => reel_Cut.f k l ts a) (cutOf l ts a) := by
  unfold reel_Cut.f cutOf
  refine Ends.bind (check_ends l) ?_
  by_cases h1 : checkOf l = 0
  · rw [if_pos h1]; refine Ends.pos h1 ?_
    by_cases h2 : a < 1
    · rw [if_pos h2]; exact Ends.pos h2 (Ends.ret _)
    · rw [if_neg h2]; refine Ends.neg h2 ?_
      by_cases h3 : a > 17179869184
      · rw [if_pos h3]; exact Ends.pos h3 (Ends.ret _)
      · rw [if_neg h3]; refine Ends.neg h3 (Ends.bind (turns_ends ts) ?_)
        by_cases h4 : turnsOf ts = 0
        · simp only [if_pos h4]; exact Ends.ret _
        · simp only [if_neg h4]; exact Ends.ret _
  · rw [if_neg h1]; exact Ends.neg h1 (Ends.ret _)
theorem endOf_le {l : List S44} (h : checkOf l = 0) : endOf l ≤ 17179869184 := by
  unfold endOf
  split
  · omega
  · rename_i h0
    have hf : firstErr l = 0 := by
      unfold checkOf at h
      split at h
      · cases h
      · split at h
        · assumption
        · contradiction
    have hm : rd_T44 l ((l.length - 1 : Nat) : Int) ∈ l := by rw [rd44 l _ (by omega)]; exact List.getElem_mem _
    have := first_all hf _ hm
    unfold secErr at this
    split at this
    · cases this
    · omega
/-- what Parts answers -/
def partsAns (l : List S44) (a b : Int) : List S44 × Int := if checkOf l = 0 then (if a < 0 ∨ a > b ∨ b > endOf l then ([], 1) else (partsOf a b l, 0)) else ([], checkOf l)
theorem parts_ends (l : List S44) (a b : Int) : Ends (fun k => reel_Parts.f k l a b) (partsAns l a b) := by
  unfold reel_Parts.f partsAns
  refine Ends.bind (check_ends l) ?_
  by_cases h1 : checkOf l = 0
  · simp only [if_pos h1]
    by_cases h2 : a < 0 ∨ a > b ∨ b > endOf l
    · simp only [if_pos h2]; exact Ends.ret _
    · simp only [if_neg h2]; exact Ends.ret _
  · simp only [if_neg h1]; exact Ends.ret _
theorem partsAns_len (l : List S44) (a b : Int) : (partsAns l a b).1.length ≤ 512 := by
  unfold partsAns
  split
  · rename_i h
    have := partsOf_len a b l
    have hl : l.length ≤ 512 := by
      unfold checkOf at h
      split at h
      · cases h
      · omega
    split
    · simp
    · show (partsOf a b l).length ≤ 512; omega
  · simp
/-! ### what Cut's answer keeps -/
theorem len_two {α : Type} (p q r : α → Bool) (hp : ∀ x, p x = true → r x = true) (hq : ∀ x, q x = true → r x = true) (hd : ∀ x, p x = true → q x = true → False) : ∀ l : List α, (l.filter p).length + (l.filter q).length ≤ (l.filter r).length
  | [] => by simp
  | x :: l => by
    have := len_two p q r hp hq hd l
    have h1 := hp x; have h2 := hq x; have h3 := hd x
    simp only [List.filter_cons]
    cases e1 : p x <;> cases e2 : q x <;> cases e3 : r x <;> simp_all <;> omega
def chain : Int → List S44 → Prop
  | _, [] => True
  | e, x :: r => x.f0 = e ∧ e < x.f1 ∧ chain x.f1 r
def fin44 : Int → List S44 → Int
  | e, [] => e
  | _, x :: r => fin44 x.f1 r
theorem chain_le : ∀ {l : List S44} {e : Int}, chain e l → e ≤ fin44 e l ∧ ∀ x ∈ l, e ≤ x.f0 ∧ x.f0 < x.f1
  | [], e, _ => ⟨Int.le_refl _, by simp⟩
  | x :: r, e, h => by
    obtain ⟨h1, h2, h3⟩ := h
    obtain ⟨i1, i2⟩ := chain_le h3
    refine ⟨by show e ≤ fin44 x.f1 r; omega, fun y hy => ?_⟩
    rcases List.mem_cons.1 hy with rfl | hy
    · omega
    · have := i2 y hy; omega
theorem chain_of : ∀ {l : List S44} {e p : Int}, firstErr l = 0 → ordErr e p l = 0 → chain e l
  | [], _, _, _, _ => trivial
  | x :: r, e, p, h1, h2 => by
    have hx := first_all h1 x (by simp)
    have hb : x.f0 < x.f1 := by
      unfold secErr at hx
      split at hx
      · cases hx
      · omega
    have hr : firstErr r = 0 := by
      unfold firstErr at h1
      rw [if_pos hx] at h1
      exact h1
    unfold ordErr at h2
    split at h2
    · rename_i h3
      exact ⟨h3.1, by omega, chain_of hr h2⟩
    · cases h2
def Cov (p : Int) (s : S36) (l : List S44) : Prop := ∀ x ∈ l, x.f0 < s.f1 → s.f0 < x.f1 → x.f2 ≠ 3 ∧ x.f4 = p
theorem st2_cov : ∀ (l : List S44) (e : Int), chain e l →
    (∀ s ∈ st2 none l, e ≤ s.f0 ∧ s.f0 < s.f1 ∧ s.f1 ≤ fin44 e l ∧ ∃ p, Cov p s l) ∧
    (∀ a p, a < e → ∀ s ∈ st2 (some (a, p, e)) l, a ≤ s.f0 ∧ s.f0 < s.f1 ∧ s.f1 ≤ fin44 e l ∧ ((s.f0 = a ∧ Cov p s l) ∨ (e ≤ s.f0 ∧ ∃ p', Cov p' s l)))
  | [], e, _ => by
    constructor
    · intro s hs; simp [st2] at hs
    · intro a p ha s hs
      simp [st2] at hs
      subst hs
      exact ⟨Int.le_refl _, ha, Int.le_refl _, .inl ⟨rfl, fun x hx => by simp at hx⟩⟩
  | x :: r, e, h => by
    obtain ⟨h1, h2, h3⟩ := h
    obtain ⟨i1, i2⟩ := st2_cov r x.f1 h3
    obtain ⟨c1, c2⟩ := chain_le h3
    have hN : ∀ s ∈ st2 none r, e ≤ s.f0 ∧ s.f0 < s.f1 ∧ s.f1 ≤ fin44 e (x :: r) ∧ ∃ p, Cov p s (x :: r) := by
      intro s hs
      obtain ⟨j1, j2, j3, p, j4⟩ := i1 s hs
      refine ⟨by omega, j2, j3, p, fun y hy k1 k2 => ?_⟩
      rcases List.mem_cons.1 hy with rfl | hy
      · omega
      · exact j4 y hy k1 k2
    have hS : x.f2 ≠ 3 → ∀ s ∈ st2 (some (x.f0, x.f4, x.f1)) r, e ≤ s.f0 ∧ s.f0 < s.f1 ∧ s.f1 ≤ fin44 e (x :: r) ∧ ∃ p, Cov p s (x :: r) := by
      intro hk s hs
      obtain ⟨j1, j2, j3, j4⟩ := i2 x.f0 x.f4 (by omega) s hs
      refine ⟨by omega, j2, j3, ?_⟩
      rcases j4 with ⟨j4, j5⟩ | ⟨j4, p, j5⟩
      · refine ⟨x.f4, fun y hy k1 k2 => ?_⟩
        rcases List.mem_cons.1 hy with rfl | hy
        · exact ⟨hk, rfl⟩
        · exact j5 y hy k1 k2
      · refine ⟨p, fun y hy k1 k2 => ?_⟩
        rcases List.mem_cons.1 hy with rfl | hy
        · omega
        · exact j5 y hy k1 k2
    have hE : ∀ a p, a < e → ∀ s : S36, s = ⟨a, e⟩ → a ≤ s.f0 ∧ s.f0 < s.f1 ∧ s.f1 ≤ fin44 e (x :: r) ∧ ((s.f0 = a ∧ Cov p s (x :: r)) ∨ (e ≤ s.f0 ∧ ∃ p', Cov p' s (x :: r))) := by
      intro a p ha s hs
      subst hs
      refine ⟨Int.le_refl _, ha, by show e ≤ fin44 x.f1 r; omega, .inl ⟨rfl, fun y hy k1 k2 => ?_⟩⟩
      rcases List.mem_cons.1 hy with rfl | hy
      · exfalso; have : y.f0 < e := k1; omega
      · exfalso; have : y.f0 < e := k1; have := c2 y hy; omega
    constructor
    · rw [st2]
      split
      · exact hN
      · rename_i hk; exact hS hk
    · intro a p ha s hs
      rw [st2] at hs
      split at hs
      · rcases List.mem_cons.1 hs with hs | hs
        · exact hE a p ha s hs
        · obtain ⟨j1, j2, j3, j4⟩ := hN s hs
          exact ⟨by omega, j2, j3, .inr ⟨j1, j4⟩⟩
      · rename_i hk
        split at hs
        · rename_i hp
          obtain ⟨j1, j2, j3, j4⟩ := i2 a p (by omega) s hs
          refine ⟨j1, j2, j3, ?_⟩
          rcases j4 with ⟨j4, j5⟩ | ⟨j4, p', j5⟩
          · refine .inl ⟨j4, fun y hy k1 k2 => ?_⟩
            rcases List.mem_cons.1 hy with rfl | hy
            · exact ⟨hk, hp⟩
            · exact j5 y hy k1 k2
          · refine .inr ⟨by omega, p', fun y hy k1 k2 => ?_⟩
            rcases List.mem_cons.1 hy with rfl | hy
            · omega
            · exact j5 y hy k1 k2
        · rcases List.mem_cons.1 hs with hs | hs
          · exact hE a p ha s hs
          · obtain ⟨j1, j2, j3, j4⟩ := hS hk s hs
            exact ⟨by omega, j2, j3, .inr ⟨j1, j4⟩⟩
def apart : Int → List S36 → Prop
  | _, [] => True
  | e, x :: r => e ≤ x.f0 ∧ x.f0 ≤ x.f1 ∧ apart x.f1 r
theorem apart_le {e e' : Int} (h : e' ≤ e) : ∀ {l : List S36}, apart e l → apart e' l
  | [], _ => trivial
  | x :: r, h' => ⟨by have := h'.1; omega, h'.2⟩
theorem st2_apart : ∀ (l : List S44) (e : Int), chain e l → apart e (st2 none l) ∧ ∀ a p, a < e → apart a (st2 (some (a, p, e)) l)
  | [], e, _ => ⟨trivial, fun a p ha => ⟨Int.le_refl _, by show a ≤ e; omega, trivial⟩⟩
  | x :: r, e, h => by
    obtain ⟨h1, h2, h3⟩ := h
    obtain ⟨i1, i2⟩ := st2_apart r x.f1 h3
    have i3 := i2 x.f0 x.f4 (by omega)
    constructor
    · rw [st2]
      split
      · exact apart_le (by omega) i1
      · exact apart_le (by omega) i3
    · intro a p ha
      rw [st2]
      split
      · exact ⟨Int.le_refl _, by show a ≤ e; omega, apart_le (by show e ≤ x.f1; omega) i1⟩
      · split
        · exact i2 a p (by omega)
        · exact ⟨Int.le_refl _, by show a ≤ e; omega, apart_le (by show e ≤ x.f0; omega) i3⟩
def inAll (ts : List Int) (xs : List S36) : Nat := (xs.map fun x => (ts.filter (isIn x)).length).sum
theorem inAll_le (ts : List Int) : ∀ (xs : List S36) (e : Int), apart e xs → inAll ts xs ≤ (ts.filter (fun t => decide (e < t))).length
  | [], e, _ => by simp [inAll]
  | x :: r, e, h => by
    have ih := inAll_le ts r x.f1 h.2.2
    have h1 := h.1
    have h2 := h.2.1
    have := len_two (isIn x) (fun t => decide (x.f1 < t)) (fun t => decide (e < t)) (by simp [isIn]; intros; omega) (by simp; intros; omega) (by simp [isIn]; intros; omega) ts
    simp only [inAll, List.map_cons, List.sum_cons] at ih ⊢
    omega
theorem piece_lens (least : Int) : ∀ (cs : List Int) (st : Int × List S36 × List S36), (cs.foldl (reel_Cut.piece least) st).2.1.length + (cs.foldl (reel_Cut.piece least) st).2.2.length = st.2.1.length + st.2.2.length + cs.length
  | [], st => by simp
  | c :: r, st => by
    have h1 := piece_lens least r (reel_Cut.piece least st c)
    have h2 := piece_len least st c
    simp only [List.foldl_cons, List.length_cons]
    omega
theorem all_sum (least : Int) (ts : List Int) : ∀ (xs : List S36) (p : List S36 × List S36), (xs.foldl (reel_Cut.one least ts) p).1.length + (xs.foldl (reel_Cut.one least ts) p).2.length = p.1.length + p.2.length + inAll ts xs + xs.length
  | [], p => by simp [inAll]
  | x :: r, p => by
    have ih := all_sum least ts r (reel_Cut.one least ts p x)
    have h1 : (reel_Cut.one least ts p x).1.length + (reel_Cut.one least ts p x).2.length = p.1.length + p.2.length + (ts.filter (isIn x)).length + 1 := by
      rw [one_fold, piece_lens]; simp; omega
    simp only [List.foldl_cons, inAll, List.map_cons, List.sum_cons, List.length_cons] at ih ⊢
    omega

def pieces : Int → List Int → List S36
  | _, [] => []
  | a, c :: r => ⟨a, c⟩ :: pieces c r
theorem piece_mem (least : Int) : ∀ (cs : List Int) (st : Int × List S36 × List S36) (s : S36), s ∈ (cs.foldl (reel_Cut.piece least) st).2.1 ++ (cs.foldl (reel_Cut.piece least) st).2.2 → s ∈ st.2.1 ++ st.2.2 ∨ s ∈ pieces st.1 cs
  | [], st, s, h => .inl h
  | c :: r, st, s, h => by
    rw [List.foldl_cons] at h
    have := piece_mem least r _ s h
    unfold reel_Cut.piece at this
    split at this
    · simp only [List.mem_append, List.mem_singleton, pieces, List.mem_cons] at this ⊢
      rcases this with ((h | h) | h) | h
      · exact .inl (.inl h)
      · exact .inr (.inl (by simpa using h))
      · exact .inl (.inr h)
      · exact .inr (.inr h)
    · simp only [List.mem_append, List.mem_singleton, pieces, List.mem_cons] at this ⊢
      rcases this with (h | h | h) | h
      · exact .inl (.inl h)
      · exact .inl (.inr h)
      · exact .inr (.inl (by simpa using h))
      · exact .inr (.inr h)
theorem pieces_of : ∀ (cs : List Int) (a : Int), cs.Pairwise (· < ·) → (∀ c ∈ cs, a < c) → ∀ s ∈ pieces a cs, a ≤ s.f0 ∧ s.f0 < s.f1 ∧ s.f1 ∈ cs ∧ ∀ c ∈ cs, ¬ (s.f0 < c ∧ c < s.f1)
  | [], a, _, _, s, h => by simp [pieces] at h
  | c :: r, a, hs, ha, s, h => by
    rw [List.pairwise_cons] at hs
    have hc := ha c (by simp)
    rcases List.mem_cons.1 h with h | h
    · subst h
      refine ⟨Int.le_refl _, hc, by simp, fun d hd => ?_⟩
      rcases List.mem_cons.1 hd with rfl | hd
      · show ¬ (a < d ∧ d < d); omega
      · have := hs.1 d hd; show ¬ (a < d ∧ d < c); omega
    · obtain ⟨i1, i2, i3, i4⟩ := pieces_of r c hs.2 hs.1 s h
      refine ⟨by omega, i2, by simp [i3], fun d hd => ?_⟩
      rcases List.mem_cons.1 hd with rfl | hd
      · omega
      · exact i4 d hd
theorem inc_sorted : ∀ (l : List Int) (p : Int), incErr p l = 0 → l.Pairwise (· < ·) ∧ ∀ x ∈ l, p < x
  | [], p, _ => by simp
  | x :: r, p, h => by
    unfold incErr at h
    split at h
    · cases h
    · obtain ⟨i1, i2⟩ := inc_sorted r x h
      refine ⟨List.pairwise_cons.2 ⟨i2, i1⟩, fun y hy => ?_⟩
      rcases List.mem_cons.1 hy with rfl | hy
      · omega
      · have := i2 y hy; omega
theorem turns_sorted {l : List Int} (h : turnsOf l = 0) : l.Pairwise (· < ·) := by
  unfold turnsOf at h
  split at h
  · cases h
  · split at h
    · cases h
    · match l, h with
      | [], _ => exact List.Pairwise.nil
      | x :: r, h =>
        obtain ⟨i1, i2⟩ := inc_sorted r x h
        exact List.pairwise_cons.2 ⟨i2, i1⟩
def GoodS (ts : List Int) (xs : List S36) (s : S36) : Prop := s.f0 < s.f1 ∧ (∃ x ∈ xs, x.f0 ≤ s.f0 ∧ s.f1 ≤ x.f1) ∧ ∀ t ∈ ts, ¬ (s.f0 < t ∧ t < s.f1)
theorem one_good (least : Int) (ts : List Int) (hts : ts.Pairwise (· < ·)) (x : S36) (hx : x.f0 < x.f1) (p : List S36 × List S36) (s : S36) (h : s ∈ (reel_Cut.one least ts p x).1 ++ (reel_Cut.one least ts p x).2) : s ∈ p.1 ++ p.2 ∨ GoodS ts [x] s := by
  rw [one_fold] at h
  rcases piece_mem least _ _ s h with h | h
  · exact .inl h
  · right
    have hs : (ts.filter (isIn x) ++ [x.f1]).Pairwise (· < ·) := by
      rw [List.pairwise_append]
      refine ⟨hts.filter _, by simp, fun a ha b hb => ?_⟩
      rw [List.mem_singleton.1 hb]
      have := (List.mem_filter.1 ha).2
      simp [isIn] at this
      exact this.2
    have ha : ∀ c ∈ ts.filter (isIn x) ++ [x.f1], x.f0 < c ∧ c ≤ x.f1 := by
      intro c hc
      rcases List.mem_append.1 hc with hc | hc
      · have := (List.mem_filter.1 hc).2
        simp [isIn] at this
        omega
      · rw [List.mem_singleton.1 hc]; omega
    obtain ⟨i1, i2, i3, i4⟩ := pieces_of _ x.f0 hs (fun c hc => (ha c hc).1) s h
    have h5 := ha _ i3
    refine ⟨i2, ⟨x, by simp, i1, h5.2⟩, fun t ht hh => ?_⟩
    refine i4 t ?_ hh
    refine List.mem_append.2 (.inl (List.mem_filter.2 ⟨ht, ?_⟩))
    simp [isIn]; omega
theorem all_good (least : Int) (ts : List Int) (hts : ts.Pairwise (· < ·)) : ∀ (xs : List S36) (p : List S36 × List S36), (∀ x ∈ xs, x.f0 < x.f1) → ∀ s, s ∈ (xs.foldl (reel_Cut.one least ts) p).1 ++ (xs.foldl (reel_Cut.one least ts) p).2 → s ∈ p.1 ++ p.2 ∨ GoodS ts xs s
  | [], p, _, s, h => .inl h
  | x :: r, p, hx, s, h => by
    rcases all_good least ts hts r _ (fun y hy => hx y (by simp [hy])) s h with h | ⟨h1, ⟨y, hy, h2⟩, h3⟩
    · rcases one_good least ts hts x (hx x (by simp)) p s h with h | ⟨h1, ⟨y, hy, h2⟩, h3⟩
      · exact .inl h
      · rw [List.mem_singleton.1 hy] at h2
        exact .inr ⟨h1, ⟨x, by simp, h2⟩, h3⟩
    · exact .inr ⟨h1, ⟨y, by simp [hy], h2⟩, h3⟩
theorem fin44_end : ∀ (l : List S44) (e : Int), l ≠ [] → fin44 e l = (rd_T44 l ((l.length - 1 : Nat) : Int)).f1
  | [], _, h => absurd rfl h
  | [x], e, _ => rfl
  | x :: y :: r, e, _ => by
    have := fin44_end (y :: r) x.f1 (by simp)
    rw [fin44, this]
    rw [rd44 _ _ (by simp), rd44 _ _ (by simp)]
    simp
theorem endOf_fin (l : List S44) : endOf l = fin44 0 l := by
  unfold endOf
  split
  · rename_i h; rw [List.length_eq_zero_iff.1 h]; rfl
  · rename_i h; rw [fin44_end l 0 (fun e => h (by rw [e]; rfl))]
theorem checkOf_zero {l : List S44} (h : checkOf l = 0) : l.length ≤ 512 ∧ firstErr l = 0 ∧ chain 0 l := by
  unfold checkOf at h
  split at h
  · cases h
  · split at h
    · rename_i h1 h2
      exact ⟨by omega, h2, chain_of h2 h⟩
    · contradiction
theorem sec_bounds {x : S44} (h : secErr x = 0) : 0 ≤ x.f0 ∧ x.f0 < x.f1 ∧ x.f1 ≤ 17179869184 := by
  unfold secErr at h
  split at h
  · cases h
  · omega
theorem chain_at : ∀ (l : List S44) (e a : Int), chain e l → e ≤ a → a < fin44 e l → ∃ x ∈ l, x.f0 ≤ a ∧ a < x.f1
  | [], e, a, _, h1, h2 => by simp [fin44] at h2; omega
  | x :: r, e, a, h, h1, h2 => by
    by_cases h3 : a < x.f1
    · exact ⟨x, by simp, by have := h.1; omega, h3⟩
    · obtain ⟨y, hy, h4⟩ := chain_at r x.f1 a h.2.2 (by omega) h2
      exact ⟨y, by simp [hy], h4⟩
theorem sec_cut {x : S44} {a b : Int} (hx : secErr x = 0) (ha : 0 ≤ a) (hb : b ≤ 17179869184) (hab : a ≤ b) : (cutSec a b x).f0 = mx x.f0 a - a ∧ (cutSec a b x).f1 = mn x.f1 b - a ∧ ((cutSec a b x).f0 < (cutSec a b x).f1 ↔ (a < b ∧ x.f0 < b ∧ a < x.f1)) := by
  obtain ⟨h1, h2, h3⟩ := sec_bounds hx
  have e1 : (cutSec a b x).f0 = mx x.f0 a - a := by
    show wrap64 (mx x.f0 a - a) = _
    unfold mx wrap64; split <;> omega
  have e2 : (cutSec a b x).f1 = mn x.f1 b - a := by
    show wrap64 (mn x.f1 b - a) = _
    unfold mn wrap64; split <;> omega
  refine ⟨e1, e2, ?_⟩
  rw [e1, e2]
  unfold mx mn
  split <;> split <;> omega
/-- A piece inside a stretch: not empty, of one phase, nothing lost. -/
theorem parts_good {l : List S44} {ts : List Int} {s : S36} (h : checkOf l = 0) (hs : GoodS ts (reel_Cut.strs l) s) : partsAns l s.f0 s.f1 = (partsOf s.f0 s.f1 l, 0) ∧ partsOf s.f0 s.f1 l ≠ [] ∧ ∃ p, ∀ y ∈ partsOf s.f0 s.f1 l, y.f2 ≠ 3 ∧ y.f4 = p := by
  obtain ⟨hl, hf, hc⟩ := checkOf_zero h
  obtain ⟨h1, ⟨x, hx, h2, h3⟩, _⟩ := hs
  rw [strs_st2 l.length l (Nat.le_refl _)] at hx
  obtain ⟨i1, i2, i3, p, i4⟩ := (st2_cov l 0 hc).1 x hx
  have he := endOf_fin l
  have hle := endOf_le h
  have ha : ¬ (s.f0 < 0 ∨ s.f0 > s.f1 ∨ s.f1 > endOf l) := by omega
  refine ⟨by unfold partsAns; rw [if_pos h, if_neg ha], ?_, p, fun y hy => ?_⟩
  · obtain ⟨z, hz, k1, k2⟩ := chain_at l 0 s.f0 hc (by omega) (by omega)
    have hz' := (sec_cut (a := s.f0) (b := s.f1) (first_all hf z hz) (by omega) (by omega) (by omega)).2.2
    intro hn
    have : cutSec s.f0 s.f1 z ∈ partsOf s.f0 s.f1 l := List.mem_filter.2 ⟨List.mem_map.2 ⟨z, hz, rfl⟩, by rw [decide_eq_true_eq]; exact hz'.2 ⟨h1, by omega, k2⟩⟩
    rw [hn] at this
    simp at this
  · obtain ⟨hy1, hy2⟩ := List.mem_filter.1 hy
    obtain ⟨z, hz, rfl⟩ := List.mem_map.1 hy1
    have hz' := (sec_cut (a := s.f0) (b := s.f1) (first_all hf z hz) (by omega) (by omega) (by omega)).2.2
    rw [decide_eq_true_eq] at hy2
    obtain ⟨k1, k2, k3⟩ := hz'.1 hy2
    exact i4 z hz (by omega) (by omega)
theorem cut_good {l : List S44} {ts : List Int} {least : Int} (h : checkOf l = 0) (ht : turnsOf ts = 0) (s : S36) (hs : s ∈ (reel_Cut.all least ts (reel_Cut.strs l)).1 ++ (reel_Cut.all least ts (reel_Cut.strs l)).2) : GoodS ts (reel_Cut.strs l) s := by
  obtain ⟨hl, hf, hc⟩ := checkOf_zero h
  rcases all_good least ts (turns_sorted ht) (reel_Cut.strs l) ([], []) (fun x hx => by
    rw [strs_st2 l.length l (Nat.le_refl _)] at hx
    exact ((st2_cov l 0 hc).1 x hx).2.1) s hs with h | h
  · simp at h
  · exact h
theorem cut_count {l : List S44} {ts : List Int} {least : Int} (h : checkOf l = 0) : (reel_Cut.all least ts (reel_Cut.strs l)).1.length + (reel_Cut.all least ts (reel_Cut.strs l)).2.length ≤ ts.length + l.length := by
  obtain ⟨hl, hf, hc⟩ := checkOf_zero h
  have h1 := all_sum least ts (reel_Cut.strs l) ([], [])
  have h2 := strs_len l.length l (Nat.le_refl _)
  have h3 := inAll_le ts (reel_Cut.strs l) 0 (by rw [strs_st2 l.length l (Nat.le_refl _)]; exact (st2_apart l 0 hc).1)
  have h4 := List.length_filter_le (fun t => decide (0 < t)) ts
  unfold reel_Cut.all
  simp only [List.length_nil] at h1
  omega
section
variable (l : List S44) (ts : List Int) (all : List S36) (hts : ts.length ≤ 512) (hall : all.length ≤ 400)
include hts hall
theorem ph_l2 (i : Nat) (hi : i < all.length) (hg : ∀ t ∈ ts, ¬ ((rd_T36 all i).f0 < t ∧ t < (rd_T36 all i).f1)) (h : Ends (fun k => papermilllaw34_ReelPhases.l0 k l ts all ((i + 1 : Nat) : Int)) true) : ∀ (d j : Nat), ts.length - j = d → j ≤ ts.length → Ends (fun k => papermilllaw34_ReelPhases.l2 k l ts all (i : Int) (j : Int)) true := by
  intro d
  induction d with
  | zero =>
    intro j hd hj
    refine Ends.succ ?_
    simp only [papermilllaw34_ReelPhases.l2, wrap_nat i (by omega)]
    exact Ends.neg (by omega) h
  | succ d ih =>
    intro j hd hj
    refine Ends.succ ?_
    have hm : rd ts j ∈ ts := by rw [rdI ts j (by omega)]; exact List.getElem_mem _
    have hn := hg _ hm
    have := ih (j + 1) (by omega) (by omega)
    simp only [papermilllaw34_ReelPhases.l2, wrap_nat j (by omega)]
    refine Ends.pos (by omega) (Ends.pos (by omega) (Ends.pos (by omega) (Ends.pos (by omega) ?_)))
    by_cases h1 : rd ts j > (rd_T36 all i).f0
    · exact Ends.pos h1 (Ends.neg (by omega) this)
    · exact Ends.neg h1 this
omit hts hall in
theorem ph_l1 (i : Nat) (p : List S44) (hp : p.length ≤ 512) (q : Int) (hq : ∀ y ∈ p, y.f2 ≠ 3 ∧ y.f4 = q) (h : Ends (fun k => papermilllaw34_ReelPhases.l2 k l ts all (i : Int) 0) true) : ∀ (d j : Nat), p.length - j = d → j ≤ p.length → Ends (fun k => papermilllaw34_ReelPhases.l1 k l ts all (i : Int) p (j : Int)) true := by
  intro d
  induction d with
  | zero =>
    intro j hd hj
    refine Ends.succ ?_
    simp only [papermilllaw34_ReelPhases.l1]
    exact Ends.neg (by omega) h
  | succ d ih =>
    intro j hd hj
    refine Ends.succ ?_
    have hm : rd_T44 p j ∈ p := by rw [rd44 p j (by omega)]; exact List.getElem_mem _
    have hm0 : rd_T44 p 0 ∈ p := by rw [show (0 : Int) = ((0 : Nat) : Int) from rfl, rd44 p 0 (by omega)]; exact List.getElem_mem _
    simp only [papermilllaw34_ReelPhases.l1, wrap_nat j (by omega)]
    exact Ends.pos (by omega) (Ends.pos (by omega) (Ends.neg (hq _ hm).1 (Ends.pos (by omega) (Ends.pos (by rw [(hq _ hm).2, (hq _ hm0).2]) (ih (j + 1) (by omega) (by omega))))))
theorem ph_l0 (hc : checkOf l = 0) (xs : List S36) (hxs : xs = reel_Cut.strs l) (hg : ∀ s ∈ all, GoodS ts xs s) : ∀ (d i : Nat), all.length - i = d → i ≤ all.length → Ends (fun k => papermilllaw34_ReelPhases.l0 k l ts all (i : Int)) true := by
  intro d
  induction d with
  | zero =>
    intro i hd hi
    refine Ends.succ ?_
    simp only [papermilllaw34_ReelPhases.l0]
    exact Ends.neg (by omega) (Ends.ret _)
  | succ d ih =>
    intro i hd hi
    have hm : rd_T36 all i ∈ all := by rw [rd36 all i (by omega)]; exact List.getElem_mem _
    have hgi := hg _ hm
    rw [hxs] at hgi
    obtain ⟨g1, g2, q, g3⟩ := parts_good hc hgi
    have hlen := partsAns_len l (rd_T36 all i).f0 (rd_T36 all i).f1
    have hz : (partsAns l (rd_T36 all i).f0 (rd_T36 all i).f1).2 = 0 := by rw [g1]
    refine Ends.succ ?_
    simp only [papermilllaw34_ReelPhases.l0]
    refine Ends.pos (by omega) (Ends.pos (by omega) (Ends.bind (parts_ends _ _ _) (Ends.pos hz (Ends.succ ?_))))
    rw [g1] at hlen ⊢
    have hb : ((((partsOf (rd_T36 all i).f0 (rd_T36 all i).f1 l).length : Int) == 0) = false) := by
      have : (partsOf (rd_T36 all i).f0 (rd_T36 all i).f1 l).length ≠ 0 := fun e => g2 (List.length_eq_zero_iff.1 e)
      exact beq_eq_false_iff_ne.mpr (by omega)
    simp only [papermilllaw34_ReelPhases.j2]
    refine Ends.neg (by rw [hb]; simp) ?_
    have h2 := ph_l2 l ts all hts hall i (by omega) hgi.2.2 (ih (i + 1) (by omega) (by omega)) ts.length 0 rfl (Nat.zero_le _)
    exact ph_l1 l ts all i _ hlen q g3 h2 _ 0 rfl (Nat.zero_le _)
end
theorem ReelPhases : ∀ (l0 : List (S44)) (l1 : List (Int)) (a2 : Int), (l0.length ≤ maxLen ∧ ∀ x ∈ l0, wf_44 x) → (l1.length ≤ maxLen ∧ ∀ x ∈ l1, (Lit.int .i64 x).wf = true) → (Lit.int .i64 a2).wf = true → ∃ k, papermilllaw34_ReelPhases.f k l0 l1 a2 = some true := by
  intro l0 l1 a2 _ _ _
  refine Ends.get ?_
  unfold papermilllaw34_ReelPhases.f
  by_cases h : (l0.length : Int) > 100
  · refine Ends.pos h (Ends.succ ?_)
    simp only [papermilllaw34_ReelPhases.j0]
    exact Ends.pos (by trivial) (Ends.ret _)
  · refine Ends.neg h (Ends.succ ?_)
    simp only [papermilllaw34_ReelPhases.j0, decide_eq_true_eq]
    by_cases h1 : (l1.length : Int) > 100
    · exact Ends.pos h1 (Ends.ret _)
    · refine Ends.neg h1 (Ends.bind (cut_ends l0 l1 a2) ?_)
      by_cases h2 : (cutOf l0 l1 a2).2.2 = 0
      · have hE : cutOf l0 l1 a2 = ((reel_Cut.all a2 l1 (reel_Cut.strs l0)).1, (reel_Cut.all a2 l1 (reel_Cut.strs l0)).2, 0) ∧ checkOf l0 = 0 ∧ turnsOf l1 = 0 := by
          unfold cutOf at h2 ⊢
          split at h2
          · rename_i k1
            split at h2
            · cases h2
            · rename_i k2
              split at h2
              · cases h2
              · rename_i k3
                split at h2
                · rename_i k4
                  exact ⟨by rw [if_pos k1, if_neg k2, if_neg k3, if_pos k4], k1, k4⟩
                · rename_i k4
                  exact absurd h2 k4
          · rename_i k1
            exact absurd h2 k1
        obtain ⟨e1, e2, e3⟩ := hE
        have hcnt := cut_count (least := a2) (ts := l1) e2
        rw [e1]
        refine Ends.pos (by trivial) (Ends.bind (Ends.ret _) (Ends.pos (by simp only [List.length_nil]; omega) (Ends.bind (Ends.ret _) (Ends.pos (by simp only [List.nil_append]; omega) (Ends.bind (Ends.ret _) ?_)))))
        simp only [List.nil_append]
        refine Ends.neg (by simp only [List.length_append]; omega) ?_
        exact ph_l0 l0 l1 _ (by omega) (by simp only [List.length_append]; omega) e2 _ rfl (fun s hs => cut_good e2 e3 s hs) _ 0 rfl (Nat.zero_le _)
      · exact Ends.neg h2 (Ends.ret _)
end Go.Proofs.Ytfdfpdiemeomiaa.G
