import Derived.Test.YtfdfpdiemeomiaaGxpapermilllaw34ReelCovers
import Derived.Test.YtfdfpdiemeomiaaGxpapermillref34turnups
import Derived.Test.YtfdfpdiemeomiaaGhOpen
import Derived.Test.YtfdfpdiemeomiaaPureBase
namespace Go.Proofs.Ytfdfpdiemeomiaa.G
open Go.RowKit Go.Proofs.YtfdfpdiemeomiaaW.PrintWords Go.Proofs.YtfdfpdiemeomiaaW.PrintLast Go.Proofs.YtfdfpdiemeomiaaW.PrintMore
set_option linter.unusedVariables false
set_option linter.unusedSimpArgs false
theorem rd36 (l : List S36) (i : Nat) (h : i < l.length) : rd_T36 l i = l[i] := by simp [rd_T36, List.getD_eq_getElem?_getD, List.getElem?_eq_getElem h]
theorem drop36 (l : List S36) (i : Nat) (h : i < l.length) : l.drop i = rd_T36 l i :: l.drop (i + 1) := by rw [rd36 l i h]; exact List.drop_eq_getElem_cons h
theorem dropI (l : List Int) (i : Nat) (h : i < l.length) : l.drop i = rd l i :: l.drop (i + 1) := by rw [rdI l i h]; exact List.drop_eq_getElem_cons h
theorem Ends.conv {α : Type} {g g' : Nat → Option α} {r : α} (e : ∀ k, g k = g' k) (h : Ends g' r) : Ends g r := by have : g = g' := funext e; rw [this]; exact h

/-! ### the turn-ups -/
def rngErr : List Int → Bool
  | [] => false
  | x :: r => if x < 0 then true else if x > 17179869184 then true else rngErr r
def incErr : Int → List Int → Int
  | _, [] => 0
  | p, x :: r => if x ≤ p then 9 else incErr x r
def incOf : List Int → Int
  | [] => 0
  | x :: r => incErr x r
def turnsOf (l : List Int) : Int := if l.length > 512 then 8 else if rngErr l = true then 1 else incOf l
theorem turns_inc (l : List Int) (hl : l.length ≤ 512) : ∀ (d i : Nat), l.length - i = d → 1 ≤ i → i ≤ l.length → Ends (fun k => reel_checkTurns.l1 k l (l.length : Int) (i : Int)) (incErr (rd l (i - 1 : Nat)) (l.drop i)) ∧ Ends (fun k => papermillref34_turnups.l1 k l (i : Int)) (incErr (rd l (i - 1 : Nat)) (l.drop i)) := by
  intro d
  induction d with
  | zero =>
    intro i hd h1 hi
    rw [List.drop_of_length_le (by omega)]
    constructor
    · refine Ends.succ ?_
      simp only [reel_checkTurns.l1]
      exact Ends.neg (by omega) (Ends.ret _)
    · refine Ends.succ ?_
      simp only [papermillref34_turnups.l1]
      exact Ends.neg (by omega) (Ends.ret _)
  | succ d ih =>
    intro i hd h1 hi
    rw [dropI l i (by omega)]
    obtain ⟨ih1, ih2⟩ := ih (i + 1) (by omega) (by omega) (by omega)
    rw [show (i + 1 - 1) = i from by omega] at ih1 ih2
    simp only [incErr]
    by_cases h2 : rd l i ≤ rd l (i - 1 : Nat)
    · rw [if_pos h2]
      constructor
      · refine Ends.succ ?_
        simp only [reel_checkTurns.l1, wrap_pred i (by omega) h1]
        exact Ends.pos (by omega) (Ends.pos (by omega) (Ends.pos (by omega) (Ends.pos (by omega) (Ends.pos (by omega) (Ends.pos (by omega) (Ends.pos h2 (Ends.ret _)))))))
      · refine Ends.succ ?_
        simp only [papermillref34_turnups.l1, wrap_pred i (by omega) h1]
        exact Ends.pos (by omega) (Ends.pos (by omega) (Ends.pos (by omega) (Ends.pos (by omega) (Ends.pos h2 (Ends.ret _)))))
    · rw [if_neg h2]
      constructor
      · refine Ends.succ ?_
        simp only [reel_checkTurns.l1, wrap_pred i (by omega) h1, wrap_nat i (by omega)]
        exact Ends.pos (by omega) (Ends.pos (by omega) (Ends.pos (by omega) (Ends.pos (by omega) (Ends.pos (by omega) (Ends.pos (by omega) (Ends.neg h2 ih1))))))
      · refine Ends.succ ?_
        simp only [papermillref34_turnups.l1, wrap_pred i (by omega) h1, wrap_nat i (by omega)]
        exact Ends.pos (by omega) (Ends.pos (by omega) (Ends.pos (by omega) (Ends.pos (by omega) (Ends.neg h2 ih2))))
theorem turns_inc0 (l : List Int) (hl : l.length ≤ 512) : Ends (fun k => reel_checkTurns.l1 k l (l.length : Int) 0) (incOf l) ∧ Ends (fun k => papermillref34_turnups.l1 k l 1) (incOf l) := by
  match l, hl with
  | [], _ =>
    constructor
    · refine Ends.succ ?_
      simp only [reel_checkTurns.l1]
      exact Ends.neg (by simp) (Ends.ret _)
    · refine Ends.succ ?_
      simp only [papermillref34_turnups.l1]
      exact Ends.neg (by simp) (Ends.ret _)
  | x :: r, hl =>
    obtain ⟨h1, h2⟩ := turns_inc (x :: r) hl r.length 1 (by simp) (Nat.le_refl _) (by simp)
    refine ⟨?_, h2⟩
    refine Ends.succ ?_
    simp only [reel_checkTurns.l1]
    exact Ends.pos (by simp) (Ends.neg (by omega) (by rw [show wrap64 (0 + 1) = ((1 : Nat) : Int) from by unfold wrap64; omega]; exact h1))
theorem turns_rng (l : List Int) (hl : l.length ≤ 512) : ∀ (d i : Nat), l.length - i = d → i ≤ l.length → Ends (fun k => reel_checkTurns.l0 k l l (l.length : Int) (i : Int)) (if rngErr (l.drop i) = true then 1 else incOf l) ∧ Ends (fun k => papermillref34_turnups.l0 k l (i : Int)) (if rngErr (l.drop i) = true then 1 else incOf l) := by
  intro d
  induction d with
  | zero =>
    intro i hd hi
    rw [List.drop_of_length_le (by omega)]
    obtain ⟨h1, h2⟩ := turns_inc0 l hl
    constructor
    · refine Ends.succ ?_
      simp only [reel_checkTurns.l0]
      exact Ends.neg (by omega) (by simpa [rngErr] using h1)
    · refine Ends.succ ?_
      simp only [papermillref34_turnups.l0]
      exact Ends.neg (by omega) (by simpa [rngErr] using h2)
  | succ d ih =>
    intro i hd hi
    obtain ⟨ih1, ih2⟩ := ih (i + 1) (by omega) (by omega)
    rw [dropI l i (by omega)]
    simp only [rngErr]
    by_cases h1 : rd l i < 0
    · simp only [if_pos h1]
      constructor
      · refine Ends.succ ?_
        simp only [reel_checkTurns.l0]
        exact Ends.pos (by omega) (Ends.pos (by omega) (Ends.pos (by omega) (Ends.pos h1 (Ends.ret _))))
      · refine Ends.succ ?_
        simp only [papermillref34_turnups.l0]
        exact Ends.pos (by omega) (Ends.pos (by omega) (Ends.pos h1 (Ends.ret _)))
    · simp only [if_neg h1]
      by_cases h2 : rd l i > 17179869184
      · simp only [if_pos h2]
        constructor
        · refine Ends.succ ?_
          simp only [reel_checkTurns.l0]
          exact Ends.pos (by omega) (Ends.pos (by omega) (Ends.pos (by omega) (Ends.neg h1 (Ends.pos h2 (Ends.ret _)))))
        · refine Ends.succ ?_
          simp only [papermillref34_turnups.l0]
          exact Ends.pos (by omega) (Ends.pos (by omega) (Ends.neg h1 (Ends.pos h2 (Ends.ret _))))
      · simp only [if_neg h2]
        constructor
        · refine Ends.succ ?_
          simp only [reel_checkTurns.l0, wrap_nat i (by omega)]
          exact Ends.pos (by omega) (Ends.pos (by omega) (Ends.pos (by omega) (Ends.neg h1 (Ends.neg h2 ih1))))
        · refine Ends.succ ?_
          simp only [papermillref34_turnups.l0, wrap_nat i (by omega)]
          exact Ends.pos (by omega) (Ends.pos (by omega) (Ends.neg h1 (Ends.neg h2 ih2)))
theorem turns_ends (l : List Int) : Ends (fun k => reel_checkTurns.f k l) (turnsOf l) := by
  simp only [reel_checkTurns.f, turnsOf]
  by_cases h : l.length > 512
  · rw [if_pos h]; exact Ends.pos (by omega) (Ends.ret _)
  · rw [if_neg h]; exact Ends.neg (by omega) (by simpa using (turns_rng l (by omega) l.length 0 rfl (Nat.zero_le _)).1)
theorem turnups_ends (l : List Int) : Ends (fun k => papermillref34_turnups.f k l) (turnsOf l) := by
  simp only [papermillref34_turnups.f, turnsOf]
  by_cases h : l.length > 512
  · rw [if_pos h]; exact Ends.pos (by omega) (Ends.ret _)
  · rw [if_neg h]; exact Ends.neg (by omega) (by simpa using (turns_rng l (by omega) l.length 0 rfl (Nat.zero_le _)).2)

/-! ### the stretches -/
def st2 : Option (Int × Int × Int) → List S44 → List S36
  | none, [] => []
  | some (a, _, e), [] => [⟨a, e⟩]
  | none, x :: r => if x.f2 = 3 then st2 none r else st2 (some (x.f0, x.f4, x.f1)) r
  | some (a, p, e), x :: r => if x.f2 = 3 then ⟨a, e⟩ :: st2 none r else if x.f4 = p then st2 (some (a, p, x.f1)) r else ⟨a, e⟩ :: st2 (some (x.f0, x.f4, x.f1)) r
theorem st2_some (x : S44) (a : Int) : ∀ (r : List S44) (y : S44), st2 (some (a, x.f4, y.f1)) r = ⟨a, ((y :: r.takeWhile (reel_Cut.same x)).getLastD y).f1⟩ :: st2 none (r.dropWhile (reel_Cut.same x))
  | [], y => by simp [st2]
  | z :: r, y => by
    rw [st2]
    by_cases h1 : z.f2 = 3
    · have e : reel_Cut.same x z = false := by simp [reel_Cut.same, h1]
      rw [if_pos h1, List.takeWhile_cons, List.dropWhile_cons, e]
      simp [st2, h1]
    · rw [if_neg h1]
      by_cases h2 : z.f4 = x.f4
      · have e : reel_Cut.same x z = true := by simp [reel_Cut.same, h1, h2]
        rw [if_pos h2, st2_some x a r z, List.takeWhile_cons, List.dropWhile_cons, e]
        simp only [if_true]
        congr 2
      · have e : reel_Cut.same x z = false := by simp [reel_Cut.same, h2]
        rw [if_neg h2, List.takeWhile_cons, List.dropWhile_cons, e]
        simp [st2, h1]
theorem strs_st2 : ∀ (n : Nat) (l : List S44), l.length ≤ n → reel_Cut.strs l = st2 none l
  | _, [], _ => by simp [reel_Cut.strs, st2]
  | n + 1, x :: r, h => by
    rw [reel_Cut.strs, st2]
    by_cases h1 : x.f2 = 3
    · rw [if_pos h1, if_pos h1]; exact strs_st2 n r (by simp at h; omega)
    · have h2 := (List.dropWhile_suffix (l := r) (reel_Cut.same x)).length_le
      rw [if_neg h1, if_neg h1, st2_some x x.f0 r x, strs_st2 n (r.dropWhile (reel_Cut.same x)) (by simp at h; omega)]
def StIn (l : List S44) (i : Nat) (acc done : List S36) (o : Option (Int × Int × Int)) : Prop :=
  (o = none ∧ (i = 0 ∨ (rd_T44 l (i - 1 : Nat)).f2 = 3) ∧ acc = done) ∨ (∃ a e, o = some (a, (rd_T44 l (i - 1 : Nat)).f4, e) ∧ 1 ≤ i ∧ (rd_T44 l (i - 1 : Nat)).f2 ≠ 3 ∧ acc = done ++ [⟨a, e⟩])
theorem set_last {α : Type} (d : List α) (x y : α) : (d ++ [x]).set d.length y = d ++ [y] := by
  rw [List.set_append_right _ _ (Nat.le_refl _)]; simp
/-! ### the pieces -/
def isIn (x : S36) (t : Int) : Bool := decide (x.f0 < t ∧ t < x.f1)
theorem at_filter (least : Int) (x : S36) : ∀ (ts : List Int) (st : Int × List S36 × List S36), ts.foldl (reel_Cut.at least x) st = (ts.filter (isIn x)).foldl (reel_Cut.piece least) st
  | [], st => rfl
  | t :: ts, st => by
    simp only [List.foldl_cons, List.filter_cons, isIn, decide_eq_true_eq, reel_Cut.at]
    by_cases h : x.f0 < t ∧ t < x.f1
    · simp only [if_pos h, List.foldl_cons]; exact at_filter least x ts _
    · simp only [if_neg h]; exact at_filter least x ts _
theorem one_fold (least : Int) (ts : List Int) (p : List S36 × List S36) (x : S36) : reel_Cut.one least ts p x = ((ts.filter (isIn x) ++ [x.f1]).foldl (reel_Cut.piece least) (x.f0, p.1, p.2)).2 := by
  unfold reel_Cut.one
  rw [at_filter, List.foldl_append]
  rfl
/-- what Cut answers -/
def cutOf (l : List S44) (ts : List Int) (a : Int) : List S36 × List S36 × Int :=
  if checkOf l = 0 then (if a < 1 then ([], [], 1) else if a > 17179869184 then ([], [], 1) else if turnsOf ts = 0 then ((reel_Cut.all a ts (reel_Cut.strs l)).1, (reel_Cut.all a ts (reel_Cut.strs l)).2, 0) else ([], [], turnsOf ts)) else ([], [], checkOf l)
theorem checkOf_len {l : List S44} (h : checkOf l = 0) : l.length ≤ 512 := by
  unfold checkOf at h
  split at h
  · cases h
  · omega
theorem turnsOf_len {l : List Int} (h : turnsOf l = 0) : l.length ≤ 512 := by
  unfold turnsOf at h
  split at h
  · cases h
  · omega
theorem cut_ends (l : List S44) (ts : List Int) (a : Int) : Ends (fun k => reel_Cut.f k l ts a) (cutOf l ts a) := by
  unfold reel_Cut.f cutOf
  refine Ends.bind (check_ends l) ?_
  by_cases h1 : checkOf l = 0
  · rw [if_pos h1]; refine Ends.pos h1 ?_
    by_cases h2 : a < 1
    · rw [if_pos h2]; exact Ends.pos h2 (Ends.ret _)
    · rw [if_neg h2]; refine Ends.neg h2 ?_
      by_cases h3 : a > 17179869184
      · rw [if_pos h3]; exact Ends.pos h3 (Ends.ret _)
      · rw [if_neg h3]; refine Ends.neg h3 (Ends.bind (turns_ends ts) ?_)
        by_cases h4 : turnsOf ts = 0
        · simp only [if_pos h4]; exact Ends.ret _
        · simp only [if_neg h4]; exact Ends.ret _
  · rw [if_neg h1]; exact Ends.neg h1 (Ends.ret _)
theorem endOf_le {l : List S44} (h : checkOf l = 0) : endOf l ≤ 17179869184 := by
  unfold endOf
  split
  · omega
  · rename_i h0
    have hf : firstErr l = 0 := by
      unfold checkOf at h
      split at h
      · cases h
      · split at h
        · assumption
        · contradiction
    have hm : rd_T44 l ((l.length - 1 : Nat) : Int) ∈ l := by rw [rd44 l _ (by omega)]; exact List.getElem_mem _
    have := first_all hf _ hm
    unfold secErr at this
    split at this
    · cases this
    · omega
/-- what Parts answers -/
def partsAns (l : List S44) (a b : Int) : List S44 × Int := if checkOf l = 0 then (if a < 0 ∨ a > b ∨ b > endOf l then ([], 1) else (partsOf a b l, 0)) else ([], checkOf l)
theorem parts_ends (l : List S44) (a b : Int) : Ends (fun k => reel_Parts.f k l a b) (partsAns l a b) := by
  unfold reel_Parts.f partsAns
  refine Ends.bind (check_ends l) ?_
  by_cases h1 : checkOf l = 0
  · simp only [if_pos h1]
    by_cases h2 : a < 0 ∨ a > b ∨ b > endOf l
    · simp only [if_pos h2]; exact Ends.ret _
    · simp only [if_neg h2]; exact Ends.ret _
  · simp only [if_neg h1]; exact Ends.ret _
theorem partsAns_len (l : List S44) (a b : Int) : (partsAns l a b).1.length ≤ 512 := by
  unfold partsAns
  split
  · rename_i h
    have := partsOf_len a b l
    have hl : l.length ≤ 512 := by
      unfold checkOf at h
      split at h
      · cases h
      · omega
    split
    · simp
    · show (partsOf a b l).length ≤ 512; omega
  · simp
/-! ### what Cut's answer keeps -/
theorem len_two {α : Type} (p q r : α → Bool) (hp : ∀ x, p x = true → r x = true) (hq : ∀ x, q x = true → r x = true) (hd : ∀ x, p x = true → q x = true → False) : ∀ l : List α, (l.filter p).length + (l.filter q).length ≤ (l.filter r).length
  | [] => by simp
  | x :: l => by
    have := len_two p q r hp hq hd l
    have h1 := hp x; have h2 := hq x; have h3 := hd x
    simp only [List.filter_cons]
    cases e1 : p x <;> cases e2 : q x <;> cases e3 : r x <;> simp_all <;> omega
def chain : Int → List S44 → Prop
  | _, [] => True
  | e, x :: r => x.f0 = e ∧ e < x.f1 ∧ chain x.f1 r
def fin44 : Int → List S44 → Int
  | e, [] => e
  | _, x :: r => fin44 x.f1 r
theorem chain_le : ∀ {l : List S44} {e : Int}, chain e l → e ≤ fin44 e l ∧ ∀ x ∈ l, e ≤ x.f0 ∧ x.f0 < x.f1
  | [], e, _ => ⟨Int.le_refl _, by simp⟩
  | x :: r, e, h => by
    obtain ⟨h1, h2, h3⟩ := h
    obtain ⟨i1, i2⟩ := chain_le h3
    refine ⟨by show e ≤ fin44 x.f1 r; omega, fun y hy => ?_⟩
    rcases List.mem_cons.1 hy with rfl | hy
    · omega
    · have := i2 y hy; omega
theorem chain_of : ∀ {l : List S44} {e p : Int}, firstErr l = 0 → ordErr e p l = 0 → chain e l
  | [], _, _, _, _ => trivial
  | x :: r, e, p, h1, h2 => by
    have hx := first_all h1 x (by simp)
    have hb : x.f0 < x.f1 := by
      unfold secErr at hx
      split at hx
      · cases hx
      · omega
    have hr : firstErr r = 0 := by
      unfold firstErr at h1
      rw [if_pos hx] at h1
      exact h1
    unfold ordErr at h2
    split at h2
    · rename_i h3
      exact ⟨h3.1, by omega, chain_of hr h2⟩
    · cases h2
def Cov (p : Int) (s : S36) (l : List S44) : Prop := ∀ x ∈ l, x.f0 < s.f1 → s.f0 < x.f1 → x.f2 ≠ 3 ∧ x.f4 = p
theorem st2_cov : ∀ (l : List S44) (e : Int), chain e l →
    (∀ s ∈ st2 none l, e ≤ s.f0 ∧ s.f0 < s.f1 ∧ s.f1 ≤ fin44 e l ∧ ∃ p, Cov p s l) ∧
    (∀ a p, a < e → ∀ s ∈ st2 (some (a, p, e)) l, a ≤ s.f0 ∧ s.f0 < s.f1 ∧ s.f1 ≤ fin44 e l ∧ ((s.f0 = a ∧ Cov p s l) ∨ (e ≤ s.f0 ∧ ∃ p', Cov p' s l)))
  | [], e, _ => by
    constructor
    · intro s hs; simp [st2] at hs
    · intro a p ha s hs
      simp [st2] at hs
      subst hs
      exact ⟨Int.le_refl _, ha, Int.le_refl _, .inl ⟨rfl, fun x hx => by simp at hx⟩⟩
  | x :: r, e, h => by
    obtain ⟨h1, h2, h3⟩ := h
    obtain ⟨i1, i2⟩ := st2_cov r x.f1 h3
    obtain ⟨c1, c2⟩ := chain_le h3
    have hN : ∀ s ∈ st2 none r, e ≤ s.f0 ∧ s.f0 < s.f1 ∧ s.f1 ≤ fin44 e (x :: r) ∧ ∃ p, Cov p s (x :: r) := by
      intro s hs
      obtain ⟨j1, j2, j3, p, j4⟩ := i1 s hs
      refine ⟨by omega, j2, j3, p, fun y hy k1 k2 => ?_⟩
      rcases List.mem_cons.1 hy with rfl | hy
      · omega
      · exact j4 y hy k1 k2
    have hS : x.f2 ≠ 3 → ∀ s ∈ st2 (some (x.f0, x.f4, x.f1)) r, e ≤ s.f0 ∧ s.f0 < s.f1 ∧ s.f1 ≤ fin44 e (x :: r) ∧ ∃ p, Cov p s (x :: r) := by
      intro hk s hs
      obtain ⟨j1, j2, j3, j4⟩ := i2 x.f0 x.f4 (by omega) s hs
      refine ⟨by omega, j2, j3, ?_⟩
      rcases j4 with ⟨j4, j5⟩ | ⟨j4, p, j5⟩
      · refine ⟨x.f4, fun y hy k1 k2 => ?_⟩
        rcases List.mem_cons.1 hy with rfl | hy
        · exact ⟨hk, rfl⟩
        · exact j5 y hy k1 k2
      · refine ⟨p, fun y hy k1 k2 => ?_⟩
        rcases List.mem_cons.1 hy with rfl | hy
        · omega
        · exact j5 y hy k1 k2
    have hE : ∀ a p, a < e → ∀ s : S36, s = ⟨a, e⟩ → a ≤ s.f0 ∧ s.f0 < s.f1 ∧ s.f1 ≤ fin44 e (x :: r) ∧ ((s.f0 = a ∧ Cov p s (x :: r)) ∨ (e ≤ s.f0 ∧ ∃ p', Cov p' s (x :: r))) := by
      intro a p ha s hs
      subst hs
      refine ⟨Int.le_refl _, ha, by show e ≤ fin44 x.f1 r; omega, .inl ⟨rfl, fun y hy k1 k2 => ?_⟩⟩
      rcases List.mem_cons.1 hy with rfl | hy
      · exfalso; have : y.f0 < e := k1; omega
      · exfalso; have : y.f0 < e := k1; have := c2 y hy; omega
    constructor
    · rw [st2]
      split
      · exact hN
      · rename_i hk; exact hS hk
    · intro a p ha s hs
      rw [st2] at hs
      split at hs
      · rcases List.mem_cons.1 hs with hs | hs
        · exact hE a p ha s hs
        · obtain ⟨j1, j2, j3, j4⟩ := hN s hs
          exact ⟨by omega, j2, j3, .inr ⟨j1, j4⟩⟩
      · rename_i hk
        split at hs
        · rename_i hp
          obtain ⟨j1, j2, j3, j4⟩ := i2 a p (by omega) s hs
          refine ⟨j1, j2, j3, ?_⟩
          rcases j4 with ⟨j4, j5⟩ | ⟨j4, p', j5⟩
          · refine .inl ⟨j4, fun y hy k1 k2 => ?_⟩
            rcases List.mem_cons.1 hy with rfl | hy
            · exact ⟨hk, hp⟩
            · exact j5 y hy k1 k2
          · refine .inr ⟨by omega, p', fun y hy k1 k2 => ?_⟩
            rcases List.mem_cons.1 hy with rfl | hy
            · omega
            · exact j5 y hy k1 k2
        · rcases List.mem_cons.1 hs with hs | hs
          · exact hE a p ha s hs
          · obtain ⟨j1, j2, j3, j4⟩ := hS hk s hs
            exact ⟨by omega, j2, j3, .inr ⟨j1, j4⟩⟩
def apart : Int → List S36 → Prop
  | _, [] => True
  | e, x :: r => e ≤ x.f0 ∧ x.f0 ≤ x.f1 ∧ apart x.f1 r
theorem apart_le {e e' : Int} (h : e' ≤ e) : ∀ {l : List S36}, apart e l → apart e' l
  | [], _ => trivial
  | x :: r, h' => ⟨by have := h'.1; omega, h'.2⟩
theorem st2_apart : ∀ (l : List S44) (e : Int), chain e l → apart e (st2 none l) ∧ ∀ a p, a < e → apart a (st2 (some (a, p, e)) l)
  | [], e, _ => ⟨trivial, fun a p ha => ⟨Int.le_refl _, by show a ≤ e; omega, trivial⟩⟩
  | x :: r, e, h => by
    obtain ⟨h1, h2, h3⟩ := h
    obtain ⟨i1, i2⟩ := st2_apart r x.f1 h3
    have i3 := i2 x.f0 x.f4 (by omega)
    constructor
    · rw [st2]
      split
      · exact apart_le (by omega) i1
      · exact apart_le (by omega) i3
    · intro a p ha
      rw [st2]
      split
      · exact ⟨Int.le_refl _, by show a ≤ e; omega, apart_le (by show e ≤ x.f1; omega) i1⟩
      · split
        · exact i2 a p (by omega)
        · exact ⟨Int.le_refl _, by show a ≤ e; omega, apart_le (by show e ≤ x.f0; omega) i3⟩
def inAll (ts : List Int) (xs : List S36) : Nat := (xs.map fun x => (ts.filter (isIn x)).length).sum
theorem inAll_le (ts : List Int) : ∀ (xs : List S36) (e : Int), apart e xs → inAll ts xs ≤ (ts.filter (fun t => decide (e < t))).length
  | [], e, _ => by simp [inAll]
  | x :: r, e, h => by
    have ih := inAll_le ts r x.f1 h.2.2
    have h1 := h.1
    have h2 := h.2.1
    have := len_two (isIn x) (fun t => decide (x.f1 < t)) (fun t => decide (e < t)) (by simp [isIn]; intros; omega) (by simp; intros; omega) (by simp [isIn]; intros; omega) ts
    simp only [inAll, List.map_cons, List.sum_cons] at ih ⊢
    omega
theorem piece_lens (least : Int) : ∀ (cs : List Int) (st : Int × List S36 × List S36), (cs.foldl (reel_Cut.piece least) st).2.1.length + (cs.foldl (reel_Cut.piece least) st).2.2.length = st.2.1.length + st.2.2.length + cs.length
  | [], st => by simp
  | c :: r, st => by
    have h1 := piece_lens least r (reel_Cut.piece least st c)
    have h2 := piece_len least st c
    simp only [List.foldl_cons, List.length_cons]
    omega
theorem all_sum (least : Int) (ts : List Int) : ∀ (xs : List S36) (p : List S36 × List S36), (xs.foldl (reel_Cut.one least ts) p).1.length + (xs.foldl (reel_Cut.one least ts) p).2.length = p.1.length + p.2.length + inAll ts xs + xs.length
  | [], p => by simp [inAll]
  | x :: r, p => by
    have ih := all_sum least ts r (reel_Cut.one least ts p x)
    have h1 : (reel_Cut.one least ts p x).1.length + (reel_Cut.one least ts p x).2.length = p.1.length + p.2.length + (ts.filter (isIn x)).length + 1 := by
      rw [one_fold, piece_lens]; simp; omega
    simp only [List.foldl_cons, inAll, List.map_cons, List.sum_cons, List.length_cons] at ih ⊢
    omega

def pieces : Int → List Int → List S36
  | _, [] => []
  | a, c :: r => ⟨a, c⟩ :: pieces c r
theorem piece_mem (least : Int) : ∀ (cs : List Int) (st : Int × List S36 × List S36) (s : S36), s ∈ (cs.foldl (reel_Cut.piece least) st).2.1 ++ (cs.foldl (reel_Cut.piece least) st).2.2 → s ∈ st.2.1 ++ st.2.2 ∨ s ∈ pieces st.1 cs
  | [], st, s, h => .inl h
  | c :: r, st, s, h => by
    rw [List.foldl_cons] at h
    have := piece_mem least r _ s h
    unfold reel_Cut.piece at this
    split at this
    · simp only [List.mem_append, List.mem_singleton, pieces, List.mem_cons] at this ⊢
      rcases this with ((h | h) | h) | h
      · exact .inl (.inl h)
      · exact .inr (.inl (by simpa using h))
      · exact .inl (.inr h)
      · exact .inr (.inr h)
    · simp only [List.mem_append, List.mem_singleton, pieces, List.mem_cons] at this ⊢
      rcases this with (h | h | h) | h
      · exact .inl (.inl h)
      · exact .inl (.inr h)
      · exact .inr (.inl (by simpa using h))
      · exact .inr (.inr h)
theorem pieces_of : ∀ (cs : List Int) (a : Int), cs.Pairwise (· < ·) → (∀ c ∈ cs, a < c) → ∀ s ∈ pieces a cs, a ≤ s.f0 ∧ s.f0 < s.f1 ∧ s.f1 ∈ cs ∧ ∀ c ∈ cs, ¬ (s.f0 < c ∧ c < s.f1)
  | [], a, _, _, s, h => by simp [pieces] at h
  | c :: r, a, hs, ha, s, h => by
    rw [List.pairwise_cons] at hs
    have hc := ha c (by simp)
    rcases List.mem_cons.1 h with h | h
    · subst h
      refine ⟨Int.le_refl _, hc, by simp, fun d hd => ?_⟩
      rcases List.mem_cons.1 hd with rfl | hd
      · show ¬ (a < d ∧ d < d); omega
      · have := hs.1 d hd; show ¬ (a < d ∧ d < c); omega
    · obtain ⟨i1, i2, i3, i4⟩ := pieces_of r c hs.2 hs.1 s h
      refine ⟨by omega, i2, by simp [i3], fun d hd => ?_⟩
      rcases List.mem_cons.1 hd with rfl | hd
      · omega
      · exact i4 d hd
theorem inc_sorted : ∀ (l : List Int) (p : Int), incErr p l = 0 → l.Pairwise (· < ·) ∧ ∀ x ∈ l, p < x
  | [], p, _ => by simp
  | x :: r, p, h => by
    unfold incErr at h
    split at h
    · cases h
    · obtain ⟨i1, i2⟩ := inc_sorted r x h
      refine ⟨List.pairwise_cons.2 ⟨i2, i1⟩, fun y hy => ?_⟩
      rcases List.mem_cons.1 hy with rfl | hy
      · omega
      · have := i2 y hy; omega
theorem turns_sorted {l : List Int} (h : turnsOf l = 0) : l.Pairwise (· < ·) := by
  unfold turnsOf at h
  split at h
  · cases h
  · split at h
    · cases h
    · match l, h with
      | [], _ => exact List.Pairwise.nil
      | x :: r, h =>
        obtain ⟨i1, i2⟩ := inc_sorted r x h
        exact List.pairwise_cons.2 ⟨i2, i1⟩
def GoodS (ts : List Int) (xs : List S36) (s : S36) : Prop := s.f0 < s.f1 ∧ (∃ x ∈ xs, x.f0 ≤ s.f0 ∧ s.f1 ≤ x.f1) ∧ ∀ t ∈ ts, ¬ (s.f0 < t ∧ t < s.f1)
theorem one_good (least : Int) (ts : List Int) (hts : ts.Pairwise (· < ·)) (x : S36) (hx : x.f0 < x.f1) (p : List S36 × List S36) (s : S36) (h : s ∈ (reel_Cut.one least ts p x).1 ++ (reel_Cut.one least ts p x).2) : s ∈ p.1 ++ p.2 ∨ GoodS ts [x] s := by
  rw [one_fold] at h
  rcases piece_mem least _ _ s h with h | h
  · exact .inl h
  · right
    have hs : (ts.filter (isIn x) ++ [x.f1]).Pairwise (· < ·) := by
      rw [List.pairwise_append]
      refine ⟨hts.filter _, by simp, fun a ha b hb => ?_⟩
      rw [List.mem_singleton.1 hb]
      have := (List.mem_filter.1 ha).2
      simp [isIn] at this
      exact this.2
    have ha : ∀ c ∈ ts.filter (isIn x) ++ [x.f1], x.f0 < c ∧ c ≤ x.f1 := by
      intro c hc
      rcases List.mem_append.1 hc with hc | hc
      · have := (List.mem_filter.1 hc).2
        simp [isIn] at this
        omega
      · rw [List.mem_singleton.1 hc]; omega
    obtain ⟨i1, i2, i3, i4⟩ := pieces_of _ x.f0 hs (fun c hc => (ha c hc).1) s h
    have h5 := ha _ i3
    refine ⟨i2, ⟨x, by simp, i1, h5.2⟩, fun t ht hh => ?_⟩
    refine i4 t ?_ hh
    refine List.mem_append.2 (.inl (List.mem_filter.2 ⟨ht, ?_⟩))
    simp [isIn]; omega
theorem all_good (least : Int) (ts : List Int) (hts : ts.Pairwise (· < ·)) : ∀ (xs : List S36) (p : List S36 × List S36), (∀ x ∈ xs, x.f0 < x.f1) → ∀ s, s ∈ (xs.foldl (reel_Cut.one least ts) p).1 ++ (xs.foldl (reel_Cut.one least ts) p).2 → s ∈ p.1 ++ p.2 ∨ GoodS ts xs s
  | [], p, _, s, h => .inl h
  | x :: r, p, hx, s, h => by
    rcases all_good least ts hts r _ (fun y hy => hx y (by simp [hy])) s h with h | ⟨h1, ⟨y, hy, h2⟩, h3⟩
    · rcases one_good least ts hts x (hx x (by simp)) p s h with h | ⟨h1, ⟨y, hy, h2⟩, h3⟩
      · exact .inl h
      · rw [List.mem_singleton.1 hy] at h2
        exact .inr ⟨h1, ⟨x, by simp, h2⟩, h3⟩
    · exact .inr ⟨h1, ⟨y, by simp [hy], h2⟩, h3⟩
theorem fin44_end : ∀ (l : List S44) (e : Int), l ≠ [] → fin44 e l = (rd_T44 l ((l.length - 1 : Nat) : Int)).f1
  | [], _, h => absurd rfl h
  | [x], e, _ => rfl
  | x :: y :: r, e, _ => by
    have := fin44_end (y :: r) x.f1 (by simp)
    rw [fin44, this]
    rw [rd44 _ _ (by simp), rd44 _ _ (by simp)]
    simp
theorem endOf_fin (l : List S44) : endOf l = fin44 0 l := by
  unfold endOf
  split
  · rename_i h; rw [List.length_eq_zero_iff.1 h]; rfl
  · rename_i h; rw [fin44_end l 0 (fun e => h (by rw [e]; rfl))]
theorem checkOf_zero {l : List S44} (h : checkOf l = 0) : l.length ≤ 512 ∧ firstErr l = 0 ∧ chain 0 l := by
  unfold checkOf at h
  split at h
  · cases h
  · split at h
    · rename_i h1 h2
      exact ⟨by omega, h2, chain_of h2 h⟩
    · contradiction
theorem sec_bounds {x : S44} (h : secErr x = 0) : 0 ≤ x.f0 ∧ x.f0 < x.f1 ∧ x.f1 ≤ 17179869184 := by
  unfold secErr at h
  split at h
  · cases h
  · omega
theorem chain_at : ∀ (l : List S44) (e a : Int), chain e l → e ≤ a → a < fin44 e l → ∃ x ∈ l, x.f0 ≤ a ∧ a < x.f1
  | [], e, a, _, h1, h2 => by simp [fin44] at h2; omega
  | x :: r, e, a, h, h1, h2 => by
    by_cases h3 : a < x.f1
    · exact ⟨x, by simp, by have := h.1; omega, h3⟩
    · obtain ⟨y, hy, h4⟩ := chain_at r x.f1 a h.2.2 (by omega) h2
      exact ⟨y, by simp [hy], h4⟩
theorem sec_cut {x : S44} {a b : Int} (hx : secErr x = 0) (ha : 0 ≤ a) (hb : b ≤ 17179869184) (hab : a ≤ b) : (cutSec a b x).f0 = mx x.f0 a - a ∧ (cutSec a b x).f1 = mn x.f1 b - a ∧ ((cutSec a b x).f0 < (cutSec a b x).f1 ↔ (a < b ∧ x.f0 < b ∧ a < x.f1)) := by
  obtain ⟨h1, h2, h3⟩ := sec_bounds hx
  have e1 : (cutSec a b x).f0 = mx x.f0 a - a := by
    show wrap64 (mx x.f0 a - a) = _
    unfold mx wrap64; split <;> omega
  have e2 : (cutSec a b x).f1 = mn x.f1 b - a := by
    show wrap64 (mn x.f1 b - a) = _
    unfold mn wrap64; split <;> omega
  refine ⟨e1, e2, ?_⟩
  rw [e1, e2]
  unfold mx mn
  split <;> split <;> omega
/-- A piece inside a stretch: not empty, of one phase, nothing lost. -/
theorem parts_good {l : List S44} {ts : List Int} {s : S36} (h : checkOf l = 0) (hs : GoodS ts (reel_Cut.strs l) s) : partsAns l s.f0 s.f1 = (partsOf s.f0 s.f1 l, 0) ∧ partsOf s.f0 s.f1 l ≠ [] ∧ ∃ p, ∀ y ∈ partsOf s.f0 s.f1 l, y.f2 ≠ 3 ∧ y.f4 = p := by
  obtain ⟨hl, hf, hc⟩ := checkOf_zero h
  obtain ⟨h1, ⟨x, hx, h2, h3⟩, _⟩ := hs
  rw [strs_st2 l.length l (Nat.le_refl _)] at hx
  obtain ⟨i1, i2, i3, p, i4⟩ := (st2_cov l 0 hc).1 x hx
  have he := endOf_fin l
  have hle := endOf_le h
  have ha : ¬ (s.f0 < 0 ∨ s.f0 > s.f1 ∨ s.f1 > endOf l) := by omega
  refine ⟨by unfold partsAns; rw [if_pos h, if_neg ha], ?_, p, fun y hy => ?_⟩
  · obtain ⟨z, hz, k1, k2⟩ := chain_at l 0 s.f0 hc (by omega) (by omega)
    have hz' := (sec_cut (a := s.f0) (b := s.f1) (first_all hf z hz) (by omega) (by omega) (by omega)).2.2
    intro hn
    have : cutSec s.f0 s.f1 z ∈ partsOf s.f0 s.f1 l := List.mem_filter.2 ⟨List.mem_map.2 ⟨z, hz, rfl⟩, by rw [decide_eq_true_eq]; exact hz'.2 ⟨h1, by omega, k2⟩⟩
    rw [hn] at this
    simp at this
  · obtain ⟨hy1, hy2⟩ := List.mem_filter.1 hy
    obtain ⟨z, hz, rfl⟩ := List.mem_map.1 hy1
    have hz' := (sec_cut (a := s.f0) (b := s.f1) (first_all hf z hz) (by omega) (by omega) (by omega)).2.2
    rw [decide_eq_true_eq] at hy2
    obtain ⟨k1, k2, k3⟩ := hz'.1 hy2
    exact i4 z hz (by omega) (by omega)
theorem cut_good {l : List S44} {ts : List Int} {least : Int} (h : checkOf l = 0) (ht : turnsOf ts = 0) (s : S36) (hs : s ∈ (reel_Cut.all least ts (reel_Cut.strs l)).1 ++ (reel_Cut.all least ts (reel_Cut.strs l)).2) : GoodS ts (reel_Cut.strs l) s := by
  obtain ⟨hl, hf, hc⟩ := checkOf_zero h
  rcases all_good least ts (turns_sorted ht) (reel_Cut.strs l) ([], []) (fun x hx => by
    rw [strs_st2 l.length l (Nat.le_refl _)] at hx
    exact ((st2_cov l 0 hc).1 x hx).2.1) s hs with h | h
  · simp at h
  · exact h
theorem cut_count {l : List S44} {ts : List Int} {least : Int} (h : checkOf l = 0) : (reel_Cut.all least ts (reel_Cut.strs l)).1.length + (reel_Cut.all least ts (reel_Cut.strs l)).2.length ≤ ts.length + l.length := by
  obtain ⟨hl, hf, hc⟩ := checkOf_zero h
  have h1 := all_sum least ts (reel_Cut.strs l) ([], [])
  have h2 := strs_len l.length l (Nat.le_refl _)
  have h3 := inAll_le ts (reel_Cut.strs l) 0 (by rw [strs_st2 l.length l (Nat.le_refl _)]; exact (st2_apart l 0 hc).1)
  have h4 := List.length_filter_le (fun t => decide (0 < t)) ts
  unfold reel_Cut.all
  simp only [List.length_nil] at h1
  omega
def Mem (l : List S36) (x : Int) : Prop := ∃ s ∈ l, s.f0 ≤ x ∧ x < s.f1
def sep : Int → List S36 → Prop
  | _, [] => True
  | e, x :: r => e < x.f0 ∧ x.f0 < x.f1 ∧ sep x.f1 r
theorem mem_cons {y : S36} {r : List S36} {x : Int} : Mem (y :: r) x ↔ (y.f0 ≤ x ∧ x < y.f1) ∨ Mem r x := by
  unfold Mem
  constructor
  · rintro ⟨s, hs, h⟩
    rcases List.mem_cons.1 hs with rfl | hs
    · exact .inl h
    · exact .inr ⟨s, hs, h⟩
  · rintro (h | ⟨s, hs, h⟩)
    · exact ⟨y, by simp, h⟩
    · exact ⟨s, by simp [hs], h⟩
theorem mem_nil (x : Int) : ¬ Mem [] x := by rintro ⟨s, hs, _⟩; simp at hs
theorem mem_append {a b : List S36} {x : Int} : Mem (a ++ b) x ↔ Mem a x ∨ Mem b x := by
  unfold Mem
  constructor
  · rintro ⟨s, hs, h⟩
    rcases List.mem_append.1 hs with hs | hs
    · exact .inl ⟨s, hs, h⟩
    · exact .inr ⟨s, hs, h⟩
  · rintro (⟨s, hs, h⟩ | ⟨s, hs, h⟩)
    · exact ⟨s, by simp [hs], h⟩
    · exact ⟨s, by simp [hs], h⟩
def push (out : List S36) (c d : Int) : List S36 := match out.getLast? with
  | none => [⟨c, d⟩]
  | some s => if s.f1 = c then out.dropLast ++ [⟨s.f0, d⟩] else out ++ [⟨c, d⟩]
theorem push_len (out : List S36) (c d : Int) : (push out c d).length ≤ out.length + 1 := by
  unfold push
  split
  · simp
  · split
    · simp
    · simp
theorem getLast_rd (out : List S36) (h : out.length ≠ 0) : out.getLast? = some (rd_T36 out ((out.length - 1 : Nat) : Int)) := by
  rw [List.getLast?_eq_getElem?, rd36 _ _ (by omega), List.getElem?_eq_getElem (by omega)]
theorem dropLast_set (out : List S36) (h : out.length ≠ 0) (y : S36) : out.set (out.length - 1) y = out.dropLast ++ [y] := by
  obtain ⟨d, x, rfl⟩ : ∃ d x, out = d ++ [x] := ⟨out.dropLast, out.getLast (fun e => h (by rw [e]; rfl)), (List.dropLast_concat_getLast _).symm⟩
  rw [List.dropLast_concat, List.length_append]
  simp
theorem sep_snoc : ∀ {l : List S36} {e : Int} {s : S36}, sep e l → (∀ t ∈ l, t.f1 < s.f0) → e < s.f0 → s.f0 < s.f1 → sep e (l ++ [s])
  | [], e, s, _, _, h1, h2 => ⟨h1, h2, trivial⟩
  | x :: r, e, s, h, ht, h1, h2 => ⟨h.1, h.2.1, sep_snoc h.2.2 (fun t k => ht t (by simp [k])) (ht x (by simp)) h2⟩
theorem sep_init : ∀ {l : List S36} {e : Int} {s : S36}, sep e (l ++ [s]) → sep e l ∧ (∀ t ∈ l, t.f1 < s.f0) ∧ e < s.f0 ∧ s.f0 < s.f1
  | [], e, s, h => ⟨trivial, by simp, h.1, h.2.1⟩
  | x :: r, e, s, h => by
    obtain ⟨h1, h2, h3, h4⟩ := sep_init (l := r) h.2.2
    have := h.2.1; have := h.1
    refine ⟨⟨h.1, h.2.1, h1⟩, fun t k => ?_, by omega, h4⟩
    rcases List.mem_cons.1 k with rfl | k
    · exact h3
    · exact h2 t k
theorem push_ok {out : List S36} {e c d : Int} (h : sep e out) (hc : ∀ t ∈ out, t.f1 ≤ c) (he : e < c) (hd : c < d) : sep e (push out c d) ∧ (∀ t ∈ push out c d, t.f1 ≤ d) ∧ ∀ x, Mem (push out c d) x ↔ Mem out x ∨ (c ≤ x ∧ x < d) := by
  by_cases h0 : out = []
  · subst h0
    refine ⟨⟨he, hd, trivial⟩, fun t ht => ?_, fun x => ?_⟩
    · rw [List.mem_singleton.1 ht]; exact Int.le_refl _
    · show Mem [⟨c, d⟩] x ↔ _
      rw [mem_cons]
      constructor
      · rintro (h | h)
        · exact .inr h
        · exact absurd h (mem_nil x)
      · rintro (h | h)
        · exact absurd h (mem_nil x)
        · exact .inl h
  · obtain ⟨i, s, rfl⟩ : ∃ i s, out = i ++ [s] := ⟨out.dropLast, out.getLast h0, (List.dropLast_concat_getLast _).symm⟩
    obtain ⟨h1, h2, h3, h4⟩ := sep_init h
    have hs := hc s (by simp)
    by_cases h5 : s.f1 = c
    · have e1 : push (i ++ [s]) c d = i ++ [⟨s.f0, d⟩] := by simp [push, h5]
      rw [e1]
      refine ⟨sep_snoc h1 h2 h3 (by show s.f0 < d; omega), fun t ht => ?_, fun x => ?_⟩
      · rcases List.mem_append.1 ht with ht | ht
        · have := hc t (by simp [ht]); omega
        · rw [List.mem_singleton.1 ht]; exact Int.le_refl _
      · rw [mem_append, mem_append, mem_cons, mem_cons]
        have n := mem_nil x
        simp only [n, or_false]
        constructor
        · rintro (k | k)
          · exact .inl (.inl k)
          · have k1 : s.f0 ≤ x := k.1
            have k2 : x < d := k.2
            by_cases k3 : x < s.f1
            · exact .inl (.inr ⟨k1, k3⟩)
            · exact .inr ⟨by omega, k2⟩
        · rintro ((k | k) | k)
          · exact .inl k
          · exact .inr ⟨k.1, by show x < d; omega⟩
          · exact .inr ⟨by show s.f0 ≤ x; omega, k.2⟩
    · have e1 : push (i ++ [s]) c d = i ++ [s] ++ [⟨c, d⟩] := by simp [push, h5]
      rw [e1]
      refine ⟨sep_snoc h (fun t ht => ?_) he hd, fun t ht => ?_, fun x => ?_⟩
      · rcases List.mem_append.1 ht with ht | ht
        · have := h2 t ht; show t.f1 < c; omega
        · rw [List.mem_singleton.1 ht]; show s.f1 < c; omega
      · rcases List.mem_append.1 ht with ht | ht
        · have := hc t ht; omega
        · rw [List.mem_singleton.1 ht]; exact Int.le_refl _
      · rw [mem_append, mem_cons]
        have n := mem_nil x
        simp only [n, or_false]
def lostStep (out : List S36) (x : S44) : List S36 := if x.f2 = 3 then push out x.f0 x.f1 else out
def lostOf (l : List S44) : List S36 := l.foldl lostStep []
theorem lostStep_len (out : List S36) (x : S44) : (lostStep out x).length ≤ out.length + 1 := by
  unfold lostStep
  split
  · exact push_len _ _ _
  · omega
theorem last_eq (x5 : List S36) (h0 : x5.length ≠ 0) (c d : Int) : push x5 c d = if (rd_T36 x5 ((x5.length - 1 : Nat) : Int)).f1 = c then x5.set (x5.length - 1) ⟨(rd_T36 x5 ((x5.length - 1 : Nat) : Int)).f0, d⟩ else x5 ++ [⟨c, d⟩] := by
  unfold push
  rw [getLast_rd x5 h0]
  simp only [dropLast_set x5 h0]
theorem wrap_len (x5 : List S36) (h : x5.length < 4000000000000000000) (h0 : x5.length ≠ 0) : wrap64 ((x5.length : Int) - 1) = ((x5.length - 1 : Nat) : Int) := by unfold wrap64; omega
theorem lost_l0 (l : List S44) (hl : l.length ≤ 512) : ∀ (d i : Nat) (out : List S36), l.length - i = d → i ≤ l.length → out.length + d < 1000000 → Ends (fun k => reel_Lost.l0 k out l (l.length : Int) (i : Int)) ((l.drop i).foldl lostStep out, 0) := by
  intro d
  induction d with
  | zero =>
    intro i out hd hi ho
    rw [List.drop_of_length_le (by omega)]
    refine Ends.succ ?_
    simp only [reel_Lost.l0]
    exact Ends.neg (by omega) (Ends.ret _)
  | succ d ih =>
    intro i out hd hi ho
    rw [drop44 l i (by omega), List.foldl_cons]
    refine Ends.succ ?_
    have hs := lostStep_len out (rd_T44 l i)
    have := ih (i + 1) (lostStep out (rd_T44 l i)) (by omega) (by omega) (by omega)
    simp only [reel_Lost.l0, wrap_nat i (by omega)]
    refine Ends.pos (by omega) (Ends.pos (by omega) (Ends.pos (by omega) ?_))
    by_cases h3 : (rd_T44 l i).f2 = 3
    · refine Ends.pos h3 ?_
      rw [lostStep, if_pos h3] at this ⊢
      by_cases h0 : out.length = 0
      · have e : out = [] := List.length_eq_zero_iff.1 h0
        subst e
        exact Ends.neg (by simp) (Ends.pos (by simp) this)
      · refine Ends.pos (by omega) ?_
        rw [last_eq out h0] at this ⊢
        simp only [wrap_len out (by omega) h0, Int.toNat_natCast]
        refine Ends.pos (by omega) (Ends.pos (by omega) ?_)
        by_cases h4 : (rd_T36 out ((out.length - 1 : Nat) : Int)).f1 = (rd_T44 l i).f0
        · rw [if_pos h4] at this ⊢
          exact Ends.pos h4 this
        · rw [if_neg h4] at this ⊢
          exact Ends.neg h4 (Ends.pos (by omega) this)
    · refine Ends.neg h3 ?_
      rw [lostStep, if_neg h3] at this ⊢
      exact this
structure LostIn (e : Int) (i : Nat) (out : List S36) : Prop where
  s : sep (-1) out
  le : ∀ t ∈ out, t.f1 ≤ e
  two : 2 * out.length ≤ i + 1
  one : (∀ t ∈ out, t.f1 ≠ e) → 2 * out.length ≤ i
theorem push_two (out : List S36) (c d : Int) : (∃ t ∈ out, t.f1 = c) ∧ (push out c d).length = out.length ∨ (push out c d).length = out.length + 1 ∧ (out = [] ∨ ∃ i s, out = i ++ [s] ∧ s.f1 ≠ c) := by
  by_cases h0 : out = []
  · subst h0; exact .inr ⟨rfl, .inl rfl⟩
  · obtain ⟨i, s, rfl⟩ : ∃ i s, out = i ++ [s] := ⟨out.dropLast, out.getLast h0, (List.dropLast_concat_getLast _).symm⟩
    by_cases h5 : s.f1 = c
    · exact .inl ⟨⟨s, by simp, h5⟩, by simp [push, h5]⟩
    · exact .inr ⟨by simp [push, h5], .inr ⟨i, s, rfl, h5⟩⟩
theorem LostIn.step {e : Int} {i : Nat} {out : List S36} (h : LostIn e i out) (x : S44) (he : 0 ≤ e) (h0 : x.f0 = e) (h1 : e < x.f1) : LostIn x.f1 (i + 1) (lostStep out x) := by
  unfold lostStep
  split
  · obtain ⟨p1, p2, p3⟩ := push_ok (c := x.f0) (d := x.f1) h.s (fun t ht => by rw [h0]; exact h.le t ht) (by omega) (by omega)
    have ht := h.two
    refine ⟨p1, p2, ?_, fun hn => ?_⟩
    · rcases push_two out x.f0 x.f1 with ⟨_, k⟩ | ⟨k, k2⟩
      · omega
      · have : 2 * out.length ≤ i := by
          refine h.one (fun t ht' hte => ?_)
          rcases k2 with rfl | ⟨j, s, rfl, k3⟩
          · simp at ht'
          · obtain ⟨q1, q2, q3, q4⟩ := sep_init h.s
            rcases List.mem_append.1 ht' with ht' | ht'
            · have := q2 t ht'
              have := h.le s (by simp)
              omega
            · rw [List.mem_singleton.1 ht'] at hte
              exact k3 (by omega)
        omega
    · exfalso
      have hm : Mem (push out x.f0 x.f1) (x.f1 - 1) := (p3 _).2 (.inr ⟨by omega, by omega⟩)
      obtain ⟨t, ht', k1, k2⟩ := hm
      have := p2 t ht'
      exact hn t ht' (by omega)
  · have ht := h.two
    exact ⟨h.s, fun t ht' => by have := h.le t ht'; omega, by omega, fun _ => by omega⟩
theorem LostIn.all : ∀ (l : List S44) (e : Int) (i : Nat) (out : List S36), LostIn e i out → 0 ≤ e → chain e l → LostIn (fin44 e l) (i + l.length) (l.foldl lostStep out)
  | [], e, i, out, h, _, _ => h
  | x :: r, e, i, out, h, he, hc => by
    have := LostIn.all r x.f1 (i + 1) _ (h.step x he hc.1 hc.2.1) (by have := hc.2.1; omega) hc.2.2
    rw [List.foldl_cons]
    rw [show i + (x :: r).length = i + 1 + r.length from by simp; omega]
    exact this
theorem lost_in {l : List S44} (h : checkOf l = 0) : LostIn (fin44 0 l) l.length (lostOf l) := by
  have := LostIn.all l 0 0 [] ⟨trivial, by simp, by simp, by simp⟩ (Int.le_refl _) (checkOf_zero h).2.2
  simpa [lostOf] using this
theorem sep_each : ∀ {l : List S36} {e : Int}, sep e l → ∀ s ∈ l, e < s.f0 ∧ s.f0 < s.f1
  | [], e, _, s, h => by simp at h
  | x :: r, e, h, s, hs => by
    rcases List.mem_cons.1 hs with rfl | hs
    · exact ⟨h.1, h.2.1⟩
    · have := sep_each h.2.2 s hs
      have := h.1; have := h.2.1; omega
/-! ### the pieces, the lost stretches, and their sums -/
def sumS : List S36 → Int
  | [] => 0
  | s :: r => (s.f1 - s.f0) + sumS r
theorem sumS_append : ∀ (a b : List S36), sumS (a ++ b) = sumS a + sumS b
  | [], b => by show sumS b = 0 + sumS b; omega
  | s :: a, b => by
    have := sumS_append a b
    show (s.f1 - s.f0) + sumS (a ++ b) = (s.f1 - s.f0) + sumS a + sumS b
    omega
def isBig (least : Int) (s : S36) : Bool := decide (least ≤ wrap64 (s.f1 - s.f0))
theorem sumS_split (p : S36 → Bool) : ∀ (l : List S36), sumS (l.filter p) + sumS (l.filter fun s => !p s) = sumS l
  | [] => rfl
  | s :: l => by
    have := sumS_split p l
    simp only [List.filter_cons]
    cases p s <;> simp [sumS] <;> omega
theorem piece_split (least : Int) : ∀ (cs : List Int) (st : Int × List S36 × List S36), (cs.foldl (reel_Cut.piece least) st).2 = (st.2.1 ++ (pieces st.1 cs).filter (isBig least), st.2.2 ++ (pieces st.1 cs).filter fun s => !isBig least s)
  | [], st => by simp [pieces]
  | c :: r, st => by
    rw [List.foldl_cons, piece_split least r]
    unfold reel_Cut.piece
    by_cases h : least ≤ wrap64 (c - st.1)
    · rw [if_pos h]
      have e : isBig least ⟨st.1, c⟩ = true := by simp [isBig, h]
      simp [pieces, List.filter_cons, e]
    · rw [if_neg h]
      have e : isBig least ⟨st.1, c⟩ = false := by simp [isBig, h]
      simp [pieces, List.filter_cons, e]
def onePieces (ts : List Int) (x : S36) : List S36 := pieces x.f0 (ts.filter (isIn x) ++ [x.f1])
def allPieces (ts : List Int) : List S36 → List S36
  | [] => []
  | x :: r => onePieces ts x ++ allPieces ts r
theorem all_split (least : Int) (ts : List Int) : ∀ (xs : List S36) (p : List S36 × List S36), xs.foldl (reel_Cut.one least ts) p = (p.1 ++ (allPieces ts xs).filter (isBig least), p.2 ++ (allPieces ts xs).filter fun s => !isBig least s)
  | [], p => by simp [allPieces]
  | x :: r, p => by
    rw [List.foldl_cons, all_split least ts r, one_fold, piece_split]
    simp [allPieces, onePieces]
theorem sum_pieces : ∀ (cs : List Int) (a z : Int), sumS (pieces a (cs ++ [z])) = z - a
  | [], a, z => by simp [pieces, sumS]
  | c :: r, a, z => by
    have := sum_pieces r c z
    show (c - a) + sumS (pieces c (r ++ [z])) = z - a
    omega
theorem sum_all (ts : List Int) : ∀ (xs : List S36), sumS (allPieces ts xs) = sumS xs
  | [] => rfl
  | x :: r => by
    have := sum_all ts r
    rw [allPieces, sumS_append, onePieces, sum_pieces, this]
    rfl
theorem apart_app : ∀ {a b : List S36} {e m : Int}, apart e a → (∀ t ∈ a, t.f1 ≤ m) → e ≤ m → apart m b → apart e (a ++ b)
  | [], b, e, m, _, _, h, hb => apart_le h hb
  | x :: r, b, e, m, ha, ht, h, hb => ⟨ha.1, ha.2.1, apart_app ha.2.2 (fun t k => ht t (by simp [k])) (ht x (by simp)) hb⟩
theorem pieces_apart : ∀ (cs : List Int) (a z : Int), (∀ c ∈ cs, c ≤ z) → cs.Pairwise (· < ·) → (∀ c ∈ cs, a ≤ c) → a ≤ z → apart a (pieces a (cs ++ [z])) ∧ ∀ t ∈ pieces a (cs ++ [z]), t.f1 ≤ z
  | [], a, z, _, _, _, h => ⟨⟨Int.le_refl _, h, trivial⟩, fun t ht => by simp [pieces] at ht; subst ht; exact Int.le_refl _⟩
  | c :: r, a, z, h1, h2, h3, h => by
    rw [List.pairwise_cons] at h2
    have hc := h1 c (by simp)
    obtain ⟨i1, i2⟩ := pieces_apart r c z (fun d hd => h1 d (by simp [hd])) h2.2 (fun d hd => by have := h2.1 d hd; omega) hc
    refine ⟨⟨Int.le_refl _, h3 c (by simp), i1⟩, fun t ht => ?_⟩
    rcases List.mem_cons.1 ht with rfl | ht
    · exact hc
    · exact i2 t ht
theorem all_apart (ts : List Int) (hts : ts.Pairwise (· < ·)) : ∀ (xs : List S36) (e : Int), apart e xs → apart e (allPieces ts xs)
  | [], _, _ => trivial
  | x :: r, e, h => by
    have hin : ∀ c ∈ ts.filter (isIn x), x.f0 ≤ c ∧ c ≤ x.f1 := by
      intro c hc
      have := (List.mem_filter.1 hc).2
      simp [isIn] at this
      omega
    obtain ⟨i1, i2⟩ := pieces_apart (ts.filter (isIn x)) x.f0 x.f1 (fun c hc => (hin c hc).2) (hts.filter _) (fun c hc => (hin c hc).1) h.2.1
    exact apart_app (apart_le h.1 i1) i2 (by have := h.1; have := h.2.1; omega) (all_apart ts hts r x.f1 h.2.2)
theorem apart_filter (p : S36 → Bool) : ∀ {l : List S36} {e : Int}, apart e l → apart e (l.filter p)
  | [], _, _ => trivial
  | x :: r, e, h => by
    rw [List.filter_cons]
    split
    · exact ⟨h.1, h.2.1, apart_filter p h.2.2⟩
    · exact apart_le (by have := h.1; have := h.2.1; omega) (apart_filter p h.2.2)
theorem apart_lo : ∀ {l : List S36} {e : Int}, apart e l → ∀ t ∈ l, e ≤ t.f0
  | [], _, _, t, ht => by simp at ht
  | x :: r, e, h, t, ht => by
    rcases List.mem_cons.1 ht with rfl | ht
    · exact h.1
    · have := apart_lo h.2.2 t ht; have := h.1; have := h.2.1; omega
def Dis (s t : S36) : Prop := s.f1 ≤ t.f0 ∨ t.f1 ≤ s.f0
theorem apart_dis : ∀ {l : List S36} {e : Int}, apart e l → l.Pairwise Dis
  | [], _, _ => List.Pairwise.nil
  | x :: r, e, h => List.pairwise_cons.2 ⟨fun t ht => .inl (apart_lo h.2.2 t ht), apart_dis h.2.2⟩
theorem dis_or : ∀ {l : List S36}, l.Pairwise Dis → ∀ a ∈ l, ∀ b ∈ l, a = b ∨ Dis a b
  | [], _, a, ha, _, _ => by simp at ha
  | x :: r, h, a, ha, b, hb => by
    rw [List.pairwise_cons] at h
    rcases List.mem_cons.1 ha with rfl | ha
    · rcases List.mem_cons.1 hb with rfl | hb
      · exact .inl rfl
      · exact .inr (h.1 b hb)
    · rcases List.mem_cons.1 hb with hb | hb
      · rw [hb]; exact .inr ((h.1 a ha).symm)
      · exact dis_or h.2 a ha b hb
theorem apart_get : ∀ {l : List S36} {e : Int}, apart e l → ∀ (i : Nat), 1 ≤ i → (h : i < l.length) → (rd_T36 l ((i - 1 : Nat) : Int)).f1 ≤ (rd_T36 l (i : Int)).f0
  | [], _, _, i, _, h => by simp at h
  | [x], _, _, i, h1, h => by simp at h; omega
  | x :: y :: r, e, ha, i, h1, h => by
    by_cases h2 : i = 1
    · subst h2
      exact ha.2.2.1
    · have := apart_get ha.2.2 (i - 1) (by omega) (by simp at h ⊢; omega)
      rw [rd36 _ _ (by simp at h ⊢; omega), rd36 _ _ (by simp at h ⊢; omega)] at this
      rw [rd36 _ _ (by omega), rd36 _ _ h]
      obtain ⟨j, rfl⟩ : ∃ j, i = j + 2 := ⟨i - 2, by omega⟩
      simpa using this
def nlSum : List S44 → Int
  | [] => 0
  | x :: r => (if x.f2 = 3 then 0 else x.f1 - x.f0) + nlSum r
def lsSum : List S44 → Int
  | [] => 0
  | x :: r => (if x.f2 = 3 then x.f1 - x.f0 else 0) + lsSum r
theorem nl_ls : ∀ (l : List S44) (e : Int), chain e l → nlSum l + lsSum l = fin44 e l - e
  | [], e, _ => by simp [nlSum, lsSum, fin44]
  | x :: r, e, h => by
    have := nl_ls r x.f1 h.2.2
    have h1 := h.1
    simp only [nlSum, lsSum, fin44]
    split <;> omega
theorem st2_sum : ∀ (l : List S44) (e : Int), chain e l → sumS (st2 none l) = nlSum l ∧ ∀ a p, sumS (st2 (some (a, p, e)) l) = (e - a) + nlSum l
  | [], e, _ => ⟨rfl, fun a p => by simp [st2, sumS, nlSum]⟩
  | x :: r, e, h => by
    obtain ⟨i1, i2⟩ := st2_sum r x.f1 h.2.2
    have h1 := h.1
    constructor
    · rw [st2, nlSum]
      split
      · rw [i1]; omega
      · rw [i2]
    · intro a p
      rw [st2, nlSum]
      split
      · show (e - a) + sumS (st2 none r) = _
        rw [i1]; omega
      · split
        · rw [i2]; omega
        · show (e - a) + sumS (st2 (some (x.f0, x.f4, x.f1)) r) = _
          rw [i2]
theorem push_sum (out : List S36) (c d : Int) : sumS (push out c d) = sumS out + (d - c) := by
  by_cases h0 : out = []
  · subst h0; show (d - c) + sumS [] = sumS [] + (d - c); omega
  · obtain ⟨i, s, rfl⟩ : ∃ i s, out = i ++ [s] := ⟨out.dropLast, out.getLast h0, (List.dropLast_concat_getLast _).symm⟩
    by_cases h5 : s.f1 = c
    · have e1 : push (i ++ [s]) c d = i ++ [⟨s.f0, d⟩] := by simp [push, h5]
      rw [e1, sumS_append, sumS_append]
      simp only [sumS]
      omega
    · have e1 : push (i ++ [s]) c d = i ++ [s] ++ [⟨c, d⟩] := by simp [push, h5]
      rw [e1, sumS_append]
      simp only [sumS]
      omega
theorem lost_sum : ∀ (l : List S44) (out : List S36), sumS (l.foldl lostStep out) = sumS out + lsSum l
  | [], out => by simp [lsSum]
  | x :: r, out => by
    rw [List.foldl_cons, lost_sum r, lsSum]
    unfold lostStep
    split
    · rw [push_sum]; omega
    · omega
theorem push_from (out : List S36) (c d z : Int) (h : Mem (push out c d) z) : Mem out z ∨ (c ≤ z ∧ z < d) := by
  by_cases h0 : out = []
  · subst h0
    obtain ⟨t, ht, k⟩ := h
    rw [List.mem_singleton.1 ht] at k
    exact .inr k
  · obtain ⟨i, s, rfl⟩ : ∃ i s, out = i ++ [s] := ⟨out.dropLast, out.getLast h0, (List.dropLast_concat_getLast _).symm⟩
    by_cases h5 : s.f1 = c
    · have e1 : push (i ++ [s]) c d = i ++ [⟨s.f0, d⟩] := by simp [push, h5]
      rw [e1] at h
      obtain ⟨t, ht, k⟩ := h
      rcases List.mem_append.1 ht with ht | ht
      · exact .inl ⟨t, by simp [ht], k⟩
      · rw [List.mem_singleton.1 ht] at k
        have k1 : s.f0 ≤ z := k.1
        have k2 : z < d := k.2
        by_cases k3 : z < s.f1
        · exact .inl ⟨s, by simp, k1, k3⟩
        · exact .inr ⟨by omega, k2⟩
    · have e1 : push (i ++ [s]) c d = i ++ [s] ++ [⟨c, d⟩] := by simp [push, h5]
      rw [e1] at h
      obtain ⟨t, ht, k⟩ := h
      rcases List.mem_append.1 ht with ht | ht
      · exact .inl ⟨t, ht, k⟩
      · rw [List.mem_singleton.1 ht] at k
        exact .inr k
theorem lost_from : ∀ (l : List S44) (out : List S36) (z : Int), Mem (l.foldl lostStep out) z → Mem out z ∨ ∃ x ∈ l, x.f2 = 3 ∧ x.f0 ≤ z ∧ z < x.f1
  | [], out, z, h => .inl h
  | x :: r, out, z, h => by
    rw [List.foldl_cons] at h
    rcases lost_from r _ z h with h | ⟨y, hy, k⟩
    · unfold lostStep at h
      split at h
      · rename_i h3
        rcases push_from out _ _ z h with h | h
        · exact .inl h
        · exact .inr ⟨x, by simp, h3, h⟩
      · exact .inl h
    · exact .inr ⟨y, by simp [hy], k⟩
theorem sep_apart : ∀ {l : List S36} {e : Int}, sep e l → apart e l
  | [], _, _ => trivial
  | x :: r, e, h => ⟨by have := h.1; omega, by have := h.2.1; omega, sep_apart h.2.2⟩

/-! ### the law's loops -/
structure Fit (e : Int) (l : List S36) : Prop where
  each : ∀ t ∈ l, 0 ≤ t.f0 ∧ t.f0 < t.f1 ∧ t.f1 ≤ e
  he : e ≤ 17179869184
  len : l.length ≤ 1000
theorem sumS_nonneg {e : Int} : ∀ {l : List S36}, (∀ t ∈ l, 0 ≤ t.f0 ∧ t.f0 < t.f1 ∧ t.f1 ≤ e) → 0 ≤ sumS l
  | [], _ => Int.le_refl _
  | x :: r, h => by
    have := sumS_nonneg (l := r) (fun t ht => h t (by simp [ht]))
    have := h x (by simp)
    show 0 ≤ (x.f1 - x.f0) + sumS r
    omega
theorem step_sum {e s : Int} {x : S36} (h0 : 0 ≤ x.f0) (h1 : x.f0 < x.f1) (h2 : x.f1 ≤ e) (he : e ≤ 17179869184) (hs : 0 ≤ s) (hs2 : s ≤ 17179869184) : wrap64 (wrap64 (s + x.f1) - x.f0) = s + (x.f1 - x.f0) ∧ wrap64 (s + wrap64 (x.f1 - x.f0)) = s + (x.f1 - x.f0) ∧ wrap64 (x.f1 - x.f0) = x.f1 - x.f0 := by
  unfold wrap64
  omega
theorem cv_l4 (e x13 x19 : Int) (all : List S36) (hall : all.length ≤ 1000) (hd : all.Pairwise Dis) (i : Nat) (hi : i < all.length) (h : Ends (fun k => papermilllaw34_ReelCovers.l3 k e x13 all (wrap64 (wrap64 (x19 + (rd_T36 all i).f1) - (rd_T36 all i).f0)) (wrap64 ((i : Int) + 1))) true) : ∀ (d j : Nat), i - j = d → j ≤ i → Ends (fun k => papermilllaw34_ReelCovers.l4 k e x13 all x19 (i : Int) (j : Int)) true := by
  intro d
  induction d with
  | zero =>
    intro j hdj hj
    refine Ends.succ ?_
    simp only [papermilllaw34_ReelCovers.l4]
    exact Ends.neg (by omega) (Ends.pos (by omega) (Ends.pos (by omega) h))
  | succ d ih =>
    intro j hdj hj
    have hdd := List.pairwise_iff_getElem.1 hd j i (by omega) hi (by omega)
    rw [← rd36 all j (by omega), ← rd36 all i hi] at hdd
    have := ih (j + 1) (by omega) (by omega)
    refine Ends.succ ?_
    simp only [papermilllaw34_ReelCovers.l4, wrap_nat j (by omega)]
    refine Ends.pos (by omega) (Ends.pos (by omega) (Ends.pos (by omega) (Ends.pos (by omega) (Ends.pos (by omega) ?_))))
    by_cases h1 : (rd_T36 all i).f0 < (rd_T36 all j).f1
    · refine Ends.pos h1 (Ends.neg ?_ this)
      unfold Dis at hdd
      omega
    · exact Ends.neg h1 this
theorem cv_l3 (e : Int) (all : List S36) (hall : Fit e all) (hd : all.Pairwise Dis) : ∀ (d i : Nat) (s : Int), all.length - i = d → i ≤ all.length → 0 ≤ s → s + sumS (all.drop i) = e → Ends (fun k => papermilllaw34_ReelCovers.l3 k e e all s (i : Int)) true := by
  intro d
  induction d with
  | zero =>
    intro i s hdi hi h0 hsm
    rw [List.drop_of_length_le (by omega)] at hsm
    have hsm : s + 0 = e := hsm
    refine Ends.succ ?_
    simp only [papermilllaw34_ReelCovers.l3]
    exact Ends.neg (by omega) (Ends.pos (by trivial) (Ends.pos (by omega) (Ends.ret _)))
  | succ d ih =>
    intro i s hdi hi h0 hsm
    rw [drop36 all i (by omega)] at hsm
    have hsm : s + ((rd_T36 all i).f1 - (rd_T36 all i).f0 + sumS (all.drop (i + 1))) = e := hsm
    have hnn : 0 ≤ sumS (all.drop (i + 1)) := sumS_nonneg (e := e) (fun t ht => hall.each t (List.mem_of_mem_drop ht))
    have hm := hall.each (rd_T36 all i) (by rw [rd36 all i (by omega)]; exact List.getElem_mem _)
    have hee := hall.he
    obtain ⟨w1, _, _⟩ := step_sum hm.1 hm.2.1 hm.2.2 hall.he h0 (by omega)
    refine Ends.succ ?_
    simp only [papermilllaw34_ReelCovers.l3]
    refine Ends.pos (by omega) ?_
    have hle := hall.len
    have h3 := ih (i + 1) (s + ((rd_T36 all i).f1 - (rd_T36 all i).f0)) (by omega) (by omega) (by omega) (by omega)
    have := cv_l4 e e s all hle hd i (by omega) (by rw [w1, wrap_nat i (by omega)]; exact h3) i 0 rfl (Nat.zero_le _)
    simpa using this
theorem cv_l2 (e : Int) (rs ss ls : List S36) (hlen : rs.length + ss.length + ls.length ≤ 1000) (hf : Fit e (rs ++ ss ++ ls)) (hd : (rs ++ ss ++ ls).Pairwise Dis) (hsum : sumS (rs ++ ss ++ ls) = e) : ∀ (d i : Nat) (s : Int), ls.length - i = d → i ≤ ls.length → 0 ≤ s → s + sumS (ls.drop i) = e → Ends (fun k => papermilllaw34_ReelCovers.l2 k rs ss ls e s (i : Int)) true := by
  intro d
  induction d with
  | zero =>
    intro i s hdi hi h0 hsm
    rw [List.drop_of_length_le (by omega)] at hsm
    have hsm : s + 0 = e := hsm
    have hse : s = e := by omega
    rw [hse]
    refine Ends.succ ?_
    simp only [papermilllaw34_ReelCovers.l2, Option.bind_some, List.nil_append]
    refine Ends.neg (by omega) (Ends.pos (by simp; omega) (Ends.pos (by omega) (Ends.pos (by simp; omega) ?_)))
    have := cv_l3 e (rs ++ ss ++ ls) hf hd (rs ++ ss ++ ls).length 0 0 rfl (Nat.zero_le _) (Int.le_refl _) (by rw [List.drop_zero, hsum]; omega)
    simpa using this
  | succ d ih =>
    intro i s hdi hi h0 hsm
    rw [drop36 ls i (by omega)] at hsm
    have hsm : s + ((rd_T36 ls i).f1 - (rd_T36 ls i).f0 + sumS (ls.drop (i + 1))) = e := hsm
    have hl : ∀ t ∈ ls, 0 ≤ t.f0 ∧ t.f0 < t.f1 ∧ t.f1 ≤ e := fun t ht => hf.each t (by simp [ht])
    have hnn : 0 ≤ sumS (ls.drop (i + 1)) := sumS_nonneg (e := e) (fun t ht => hl t (List.mem_of_mem_drop ht))
    have hm := hl (rd_T36 ls i) (by rw [rd36 ls i (by omega)]; exact List.getElem_mem _)
    have hee := hf.he
    obtain ⟨w1, _, _⟩ := step_sum hm.1 hm.2.1 hm.2.2 hf.he h0 (by omega)
    refine Ends.succ ?_
    simp only [papermilllaw34_ReelCovers.l2, w1, wrap_nat i (by omega)]
    exact Ends.pos (by omega) (Ends.pos (by omega) (Ends.neg (by omega) (Ends.neg (by omega) (Ends.neg (by omega) (ih (i + 1) _ (by omega) (by omega) (by omega) (by omega))))))
theorem cv_l1 (e least : Int) (rs ss ls : List S36) (hlen : rs.length + ss.length + ls.length ≤ 1000) (hf : Fit e (rs ++ ss ++ ls)) (hd : (rs ++ ss ++ ls).Pairwise Dis) (hsum : sumS (rs ++ ss ++ ls) = e) (hap : apart 0 ss) (hsm : ∀ t ∈ ss, isBig least t = false) : ∀ (d i : Nat) (s : Int), ss.length - i = d → i ≤ ss.length → 0 ≤ s → s + sumS (ss.drop i) + sumS ls = e → Ends (fun k => papermilllaw34_ReelCovers.l1 k least rs ss ls e s (i : Int)) true := by
  intro d
  have hee := hf.he
  have hl : ∀ t ∈ ls, 0 ≤ t.f0 ∧ t.f0 < t.f1 ∧ t.f1 ≤ e := fun t ht => hf.each t (by simp [ht])
  have hnl := sumS_nonneg hl
  have hs' : ∀ t ∈ ss, 0 ≤ t.f0 ∧ t.f0 < t.f1 ∧ t.f1 ≤ e := fun t ht => hf.each t (by simp [ht])
  induction d with
  | zero =>
    intro i s hdi hi h0 hsm2
    rw [List.drop_of_length_le (by omega)] at hsm2
    have hsm2 : s + 0 + sumS ls = e := hsm2
    refine Ends.succ ?_
    simp only [papermilllaw34_ReelCovers.l1]
    refine Ends.neg (by omega) ?_
    simpa using cv_l2 e rs ss ls hlen hf hd hsum ls.length 0 s rfl (Nat.zero_le _) h0 (by rw [List.drop_zero]; omega)
  | succ d ih =>
    intro i s hdi hi h0 hsm2
    rw [drop36 ss i (by omega)] at hsm2
    have hsm2 : s + ((rd_T36 ss i).f1 - (rd_T36 ss i).f0 + sumS (ss.drop (i + 1))) + sumS ls = e := hsm2
    have hnn : 0 ≤ sumS (ss.drop (i + 1)) := sumS_nonneg (e := e) (fun t ht => hs' t (List.mem_of_mem_drop ht))
    have hmem : rd_T36 ss i ∈ ss := by rw [rd36 ss i (by omega)]; exact List.getElem_mem _
    have hm := hs' _ hmem
    obtain ⟨_, w2, w3⟩ := step_sum hm.1 hm.2.1 hm.2.2 hf.he h0 (by omega)
    have hb := hsm _ hmem
    simp only [isBig, w3, decide_eq_false_iff_not] at hb
    have := ih (i + 1) (s + ((rd_T36 ss i).f1 - (rd_T36 ss i).f0)) (by omega) (by omega) (by omega) (by omega)
    refine Ends.succ ?_
    rw [w3] at w2
    simp only [papermilllaw34_ReelCovers.l1, w3, w2, wrap_nat i (by omega)]
    refine Ends.pos (by omega) (Ends.pos (by omega) (Ends.neg (by omega) (Ends.neg (by omega) (Ends.neg (by omega) (Ends.neg (by omega) ?_)))))
    by_cases h1 : i = 0
    · exact Ends.neg (by omega) this
    · have hg := apart_get hap i (by omega) (by omega)
      refine Ends.pos (by omega) ?_
      simp only [wrap_pred i (by omega) (by omega)]
      exact Ends.pos (by omega) (Ends.pos (by omega) (Ends.neg (by omega) this))
theorem cv_l0 (e least : Int) (rs ss ls : List S36) (hlen : rs.length + ss.length + ls.length ≤ 1000) (hf : Fit e (rs ++ ss ++ ls)) (hd : (rs ++ ss ++ ls).Pairwise Dis) (hsum : sumS (rs ++ ss ++ ls) = e) (hap : apart 0 ss) (hsm : ∀ t ∈ ss, isBig least t = false) (hapr : apart 0 rs) (hbg : ∀ t ∈ rs, isBig least t = true) : ∀ (d i : Nat) (s : Int), rs.length - i = d → i ≤ rs.length → 0 ≤ s → s + sumS (rs.drop i) + sumS ss + sumS ls = e → Ends (fun k => papermilllaw34_ReelCovers.l0 k least rs ss ls e s (i : Int)) true := by
  intro d
  have hee := hf.he
  have hl : ∀ t ∈ ls, 0 ≤ t.f0 ∧ t.f0 < t.f1 ∧ t.f1 ≤ e := fun t ht => hf.each t (by simp [ht])
  have hnl := sumS_nonneg hl
  have hs' : ∀ t ∈ ss, 0 ≤ t.f0 ∧ t.f0 < t.f1 ∧ t.f1 ≤ e := fun t ht => hf.each t (by simp [ht])
  have hns := sumS_nonneg hs'
  have hr' : ∀ t ∈ rs, 0 ≤ t.f0 ∧ t.f0 < t.f1 ∧ t.f1 ≤ e := fun t ht => hf.each t (by simp [ht])
  induction d with
  | zero =>
    intro i s hdi hi h0 hsm2
    rw [List.drop_of_length_le (by omega)] at hsm2
    have hsm2 : s + 0 + sumS ss + sumS ls = e := hsm2
    refine Ends.succ ?_
    simp only [papermilllaw34_ReelCovers.l0]
    refine Ends.neg (by omega) ?_
    simpa using cv_l1 e least rs ss ls hlen hf hd hsum hap hsm ss.length 0 s rfl (Nat.zero_le _) h0 (by rw [List.drop_zero]; omega)
  | succ d ih =>
    intro i s hdi hi h0 hsm2
    rw [drop36 rs i (by omega)] at hsm2
    have hsm2 : s + ((rd_T36 rs i).f1 - (rd_T36 rs i).f0 + sumS (rs.drop (i + 1))) + sumS ss + sumS ls = e := hsm2
    have hnn : 0 ≤ sumS (rs.drop (i + 1)) := sumS_nonneg (e := e) (fun t ht => hr' t (List.mem_of_mem_drop ht))
    have hmem : rd_T36 rs i ∈ rs := by rw [rd36 rs i (by omega)]; exact List.getElem_mem _
    have hm := hr' _ hmem
    obtain ⟨w1, _, w3⟩ := step_sum hm.1 hm.2.1 hm.2.2 hf.he h0 (by omega)
    have hb := hbg _ hmem
    simp only [isBig, w3, decide_eq_true_eq] at hb
    have := ih (i + 1) (s + ((rd_T36 rs i).f1 - (rd_T36 rs i).f0)) (by omega) (by omega) (by omega) (by omega)
    refine Ends.succ ?_
    simp only [papermilllaw34_ReelCovers.l0, w3, w1, wrap_nat i (by omega)]
    refine Ends.pos (by omega) (Ends.pos (by omega) (Ends.neg (by omega) (Ends.neg (by omega) (Ends.neg (by omega) ?_))))
    by_cases h1 : i = 0
    · exact Ends.neg (by omega) this
    · have hg := apart_get hapr i (by omega) (by omega)
      refine Ends.pos (by omega) ?_
      simp only [wrap_pred i (by omega) (by omega)]
      exact Ends.pos (by omega) (Ends.pos (by omega) (Ends.neg (by omega) this))
theorem lost_ends (l : List S44) (h : checkOf l = 0) : Ends (fun k => reel_Lost.f k l) (lostOf l, 0) := by
  unfold reel_Lost.f
  refine Ends.bind (check_ends l) (Ends.pos h ?_)
  have hl := (checkOf_zero h).1
  simpa [lostOf] using lost_l0 l hl l.length 0 [] rfl (Nat.zero_le _) (by simp; omega)
theorem cover_main (l : List S44) (ts : List Int) (least : Int) (hc : checkOf l = 0) (ht : turnsOf ts = 0) (h1 : l.length ≤ 100) (h2 : ts.length ≤ 100) : ∃ rs ss, reel_Cut.all least ts (reel_Cut.strs l) = (rs, ss) ∧ rs.length + ss.length + (lostOf l).length ≤ 400 ∧ Fit (endOf l) (rs ++ ss ++ lostOf l) ∧ (rs ++ ss ++ lostOf l).Pairwise Dis ∧ sumS (rs ++ ss ++ lostOf l) = endOf l ∧ apart 0 ss ∧ (∀ t ∈ ss, isBig least t = false) ∧ apart 0 rs ∧ (∀ t ∈ rs, isBig least t = true) := by
  obtain ⟨n1, n2, n3⟩ := checkOf_zero hc
  have hst := strs_st2 l.length l (Nat.le_refl _)
  have hsp := all_split least ts (reel_Cut.strs l) ([], [])
  simp only [List.nil_append] at hsp
  have hcov := (st2_cov l 0 n3).1
  rw [← hst] at hcov
  have hap0 := (st2_apart l 0 n3).1
  rw [← hst] at hap0
  have hap := all_apart ts (turns_sorted ht) (reel_Cut.strs l) 0 hap0
  have hli := lost_in hc
  have hei := endOf_fin l
  have hee := endOf_le hc
  have hcnt := cut_count (least := least) (ts := ts) hc
  have htwo := hli.two
  have hgood := fun s => cut_good (least := least) hc ht s
  unfold reel_Cut.all at hcnt hgood
  rw [hsp] at hcnt hgood
  have hPg : ∀ s ∈ allPieces ts (reel_Cut.strs l), GoodS ts (reel_Cut.strs l) s := by
    intro s hs
    refine hgood s ?_
    show s ∈ (allPieces ts (reel_Cut.strs l)).filter (isBig least) ++ (allPieces ts (reel_Cut.strs l)).filter fun s => !isBig least s
    cases hb : isBig least s with
    | true => exact List.mem_append.2 (.inl (List.mem_filter.2 ⟨hs, hb⟩))
    | false => exact List.mem_append.2 (.inr (List.mem_filter.2 ⟨hs, by simp [hb]⟩))
  have hPf : ∀ s ∈ allPieces ts (reel_Cut.strs l), 0 ≤ s.f0 ∧ s.f0 < s.f1 ∧ s.f1 ≤ endOf l := by
    intro s hs
    obtain ⟨g1, ⟨x, hx, g2, g3⟩, _⟩ := hPg s hs
    obtain ⟨c1, c2, c3, _⟩ := hcov x hx
    omega
  have hLf : ∀ s ∈ lostOf l, 0 ≤ s.f0 ∧ s.f0 < s.f1 ∧ s.f1 ≤ endOf l := by
    intro s hs
    have k1 := sep_each hli.s s hs
    have k2 := hli.le s hs
    omega
  have hcross : ∀ s ∈ allPieces ts (reel_Cut.strs l), ∀ t ∈ lostOf l, Dis s t := by
    intro s hs t htl
    obtain ⟨g1, ⟨x, hx, g2, g3⟩, _⟩ := hPg s hs
    obtain ⟨c1, c2, c3, p, c4⟩ := hcov x hx
    have k1 := (hLf t htl).2.1
    unfold Dis
    by_cases hn : s.f1 ≤ t.f0 ∨ t.f1 ≤ s.f0
    · exact hn
    · exfalso
      have hz : Mem (lostOf l) (if s.f0 < t.f0 then t.f0 else s.f0) := ⟨t, htl, by split <;> omega, by split <;> omega⟩
      rcases lost_from l [] _ hz with k | ⟨y, hy, k3, k4, k5⟩
      · exact mem_nil _ k
      · have hlo := (chain_le n3).2 y hy
        refine (c4 y hy ?_ ?_).1 k3
        · revert k4 k5; split <;> intros <;> omega
        · revert k4 k5; split <;> intros <;> omega
  refine ⟨_, _, hsp, ?_, ⟨?_, hee, ?_⟩, ?_, ?_, apart_filter _ hap, ?_, apart_filter _ hap, ?_⟩
  · simp only at hcnt; omega
  · intro t htm
    rcases List.mem_append.1 htm with htm | htm
    · rcases List.mem_append.1 htm with htm | htm
      · exact hPf t (List.mem_filter.1 htm).1
      · exact hPf t (List.mem_filter.1 htm).1
    · exact hLf t htm
  · simp only at hcnt; simp only [List.length_append]; omega
  · have hpd := apart_dis hap
    refine List.pairwise_append.2 ⟨List.pairwise_append.2 ⟨hpd.filter _, hpd.filter _, fun a ha b hb => ?_⟩, apart_dis (sep_apart hli.s), fun a ha b hb => ?_⟩
    · rcases dis_or hpd a (List.mem_filter.1 ha).1 b (List.mem_filter.1 hb).1 with e | e
      · have x1 := (List.mem_filter.1 ha).2
        have x2 := (List.mem_filter.1 hb).2
        rw [e] at x1; rw [x1] at x2; cases x2
      · exact e
    · rcases List.mem_append.1 ha with ha | ha
      · exact hcross a (List.mem_filter.1 ha).1 b hb
      · exact hcross a (List.mem_filter.1 ha).1 b hb
  · rw [sumS_append, sumS_append, sumS_split, sum_all, hst, (st2_sum l 0 n3).1]
    have e1 : sumS (lostOf l) = lsSum l := by unfold lostOf; rw [lost_sum]; show (0 : Int) + lsSum l = lsSum l; omega
    have e2 := nl_ls l 0 n3
    omega
  · intro t htm; have := (List.mem_filter.1 htm).2; simpa using this
  · intro t htm; exact (List.mem_filter.1 htm).2
theorem three_len (a b c : Nat) (h : a + b + c ≤ 400) : decide (wrap64 (wrap64 ((a : Int) + (b : Int)) + (c : Int)) > 400) = false := by
  have : wrap64 (wrap64 ((a : Int) + (b : Int)) + (c : Int)) = (a : Int) + b + c := by unfold wrap64; omega
  rw [this]
  exact decide_eq_false (by omega)
theorem three_sum (a b c s : Int) (h : a + b + c = s) : 0 + a + b + c = s := by omega
theorem ReelCovers : ∀ (l0 : List (S44)) (l1 : List (Int)) (a2 : Int), (l0.length ≤ maxLen ∧ ∀ x ∈ l0, wf_44 x) → (l1.length ≤ maxLen ∧ ∀ x ∈ l1, (Lit.int .i64 x).wf = true) → (Lit.int .i64 a2).wf = true → ∃ k, papermilllaw34_ReelCovers.f k l0 l1 a2 = some true := by
  intro l ts least _ _ _
  refine Ends.get ?_
  unfold papermilllaw34_ReelCovers.f
  by_cases h : (l.length : Int) > 100
  · refine Ends.pos h (Ends.succ ?_)
    simp only [papermilllaw34_ReelCovers.j0]
    exact Ends.pos (by trivial) (Ends.ret _)
  · refine Ends.neg h (Ends.succ ?_)
    simp only [papermilllaw34_ReelCovers.j0, decide_eq_true_eq]
    by_cases h1 : (ts.length : Int) > 100
    · exact Ends.pos h1 (Ends.ret _)
    · refine Ends.neg h1 (Ends.bind (cut_ends l ts least) ?_)
      by_cases h2 : (cutOf l ts least).2.2 = 0
      · have hE : cutOf l ts least = ((reel_Cut.all least ts (reel_Cut.strs l)).1, (reel_Cut.all least ts (reel_Cut.strs l)).2, 0) ∧ checkOf l = 0 ∧ turnsOf ts = 0 := by
          unfold cutOf at h2 ⊢
          split at h2
          · rename_i k1
            split at h2
            · cases h2
            · rename_i k2
              split at h2
              · cases h2
              · rename_i k3
                split at h2
                · rename_i k4
                  exact ⟨by rw [if_pos k1, if_neg k2, if_neg k3, if_pos k4], k1, k4⟩
                · rename_i k4
                  exact absurd h2 k4
          · rename_i k1
            exact absurd h2 k1
        obtain ⟨e1, e2, e3⟩ := hE
        obtain ⟨rs, ss, m0, m1, m2, m3, m4, m5, m6, m7, m8⟩ := cover_main l ts least e2 e3 (by omega) (by omega)
        rw [m0] at e1
        rw [e1]
        refine Ends.pos (by trivial) (Ends.bind (lost_ends l e2) (Ends.pos (by trivial) ?_))
        simp only [three_len rs.length ss.length (lostOf l).length m1]
        clear h2
        refine Ends.succ ?_
        have hsum0 : sumS rs + sumS ss + sumS (lostOf l) = endOf l := by rw [← m4, sumS_append, sumS_append]
        have hj2 : Ends (fun k => papermilllaw34_ReelCovers.j2 k least rs ss (lostOf l) (endOf l)) true := by
          refine Ends.succ ?_
          simp only [papermilllaw34_ReelCovers.j2]
          simpa using cv_l0 (endOf l) least rs ss (lostOf l) (Nat.le_trans m1 (by decide)) m2 m3 m4 m5 m6 m7 m8 rs.length 0 0 rfl (Nat.zero_le _) (Int.le_refl _) (by rw [List.drop_zero]; exact three_sum _ _ _ _ hsum0)
        simp only [papermilllaw34_ReelCovers.j1]
        refine Ends.neg (by simp) ?_
        by_cases h0 : l.length = 0
        · have e : endOf l = 0 := by unfold endOf; rw [if_pos h0]
          rw [e] at hj2
          exact Ends.neg (by omega) hj2
        · have e : endOf l = (rd_T44 l ((l.length - 1 : Nat) : Int)).f1 := by unfold endOf; rw [if_neg h0]
          have hw : wrap64 ((l.length : Int) - 1) = ((l.length - 1 : Nat) : Int) := by unfold wrap64; omega
          rw [e] at hj2
          simp only [hw]
          exact Ends.pos (by omega) (Ends.pos (by omega) (Ends.pos (by omega) hj2))
      · refine Ends.neg h2 ?_
        have hz : (cutOf l ts least).1 = [] ∧ (cutOf l ts least).2.1 = [] := by
          unfold cutOf at h2 ⊢
          split
          · rename_i k1
            rw [if_pos k1] at h2
            split
            · exact ⟨rfl, rfl⟩
            · rename_i k2
              rw [if_neg k2] at h2
              split
              · exact ⟨rfl, rfl⟩
              · rename_i k3
                rw [if_neg k3] at h2
                split
                · rename_i k4
                  rw [if_pos k4] at h2
                  exact absurd rfl h2
                · exact ⟨rfl, rfl⟩
          · exact ⟨rfl, rfl⟩
        rw [hz.1, hz.2]
        exact Ends.pos (by simp) (Ends.pos (by simp) (Ends.ret _))
end Go.Proofs.Ytfdfpdiemeomiaa.G
