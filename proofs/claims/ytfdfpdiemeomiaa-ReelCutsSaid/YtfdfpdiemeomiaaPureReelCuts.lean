import Derived.Test.YtfdfpdiemeomiaaGxpapermilllaw34ReelCuts
import Derived.Test.YtfdfpdiemeomiaaGhOpen
import Derived.Test.YtfdfpdiemeomiaaPureBase
namespace Go.Proofs.Ytfdfpdiemeomiaa.G
open Go.RowKit Go.Proofs.YtfdfpdiemeomiaaW.PrintWords Go.Proofs.YtfdfpdiemeomiaaW.PrintLast Go.Proofs.YtfdfpdiemeomiaaW.PrintMore
set_option linter.unusedVariables false
set_option linter.unusedSimpArgs false
theorem rd36 (l : List S36) (i : Nat) (h : i < l.length) : rd_T36 l i = l[i] := by simp [rd_T36, List.getD_eq_getElem?_getD, List.getElem?_eq_getElem h]
theorem drop36 (l : List S36) (i : Nat) (h : i < l.length) : l.drop i = rd_T36 l i :: l.drop (i + 1) := by rw [rd36 l i h]; exact List.drop_eq_getElem_cons h
theorem dropI (l : List Int) (i : Nat) (h : i < l.length) : l.drop i = rd l i :: l.drop (i + 1) := by rw [rdI l i h]; exact List.drop_eq_getElem_cons h
theorem Ends.conv {α : Type} {g g' : Nat → Option α} {r : α} (e : ∀ k, g k = g' k) (h : Ends g' r) : Ends g r := by have : g = g' := funext e; rw [this]; exact h

/-! ### the turn-ups -/
def rngErr : List Int → Bool
  | [] => false
  | x :: r => if x < 0 then true else if x > 17179869184 then true else rngErr r
def incErr : Int → List Int → Int
  | _, [] => 0
  | p, x :: r => if x ≤ p then 9 else incErr x r
def incOf : List Int → Int
  | [] => 0
  | x :: r => incErr x r
def turnsOf (l : List Int) : Int := if l.length > 512 then 8 else if rngErr l = true then 1 else incOf l
theorem turns_inc (l : List Int) (hl : l.length ≤ 512) : ∀ (d i : Nat), l.length - i = d → 1 ≤ i → i ≤ l.length → Ends (fun k => reel_checkTurns.l1 k l (l.length : Int) (i : Int)) (incErr (rd l (i - 1 : Nat)) (l.drop i)) ∧ Ends (fun k => papermillref34_turnups.l1 k l (i : Int)) (incErr (rd l (i - 1 : Nat)) (l.drop i)) := by
  intro d
  induction d with
  | zero =>
    intro i hd h1 hi
    rw [List.drop_of_length_le (by omega)]
    constructor
    · refine Ends.succ ?_
      simp only [reel_checkTurns.l1]
      exact Ends.neg (by omega) (Ends.ret _)
    · refine Ends.succ ?_
      simp only [papermillref34_turnups.l1]
      exact Ends.neg (by omega) (Ends.ret _)
  | succ d ih =>
    intro i hd h1 hi
    rw [dropI l i (by omega)]
    obtain ⟨ih1, ih2⟩ := ih (i + 1) (by omega) (by omega) (by omega)
    rw [show (i + 1 - 1) = i from by omega] at ih1 ih2
    simp only [incErr]
    by_cases h2 : rd l i ≤ rd l (i - 1 : Nat)
    · rw [if_pos h2]
      constructor
      · refine Ends.succ ?_
        simp only [reel_checkTurns.l1, wrap_pred i (by omega) h1]
        exact Ends.pos (by omega) (Ends.pos (by omega) (Ends.pos (by omega) (Ends.pos (by omega) (Ends.pos (by omega) (Ends.pos (by omega) (Ends.pos h2 (Ends.ret _)))))))
      · refine Ends.succ ?_
        simp only [papermillref34_turnups.l1, wrap_pred i (by omega) h1]
        exact Ends.pos (by omega) (Ends.pos (by omega) (Ends.pos (by omega) (Ends.pos (by omega) (Ends.pos h2 (Ends.ret _)))))
    · rw [if_neg h2]
      constructor
      · refine Ends.succ ?_
        simp only [reel_checkTurns.l1, wrap_pred i (by omega) h1, wrap_nat i (by omega)]
        exact Ends.pos (by omega) (Ends.pos (by omega) (Ends.pos (by omega) (Ends.pos (by omega) (Ends.pos (by omega) (Ends.pos (by omega) (Ends.neg h2 ih1))))))
      · refine Ends.succ ?_
        simp only [papermillref34_turnups.l1, wrap_pred i (by omega) h1, wrap_nat i (by omega)]
        exact Ends.pos (by omega) (Ends.pos (by omega) (Ends.pos (by omega) (Ends.pos (by omega) (Ends.neg h2 ih2))))
theorem turns_inc0 (l : List Int) (hl : l.length ≤ 512) : Ends (fun k => reel_checkTurns.l1 k l (l.length : Int) 0) (incOf l) ∧ Ends (fun k => papermillref34_turnups.l1 k l 1) (incOf l) := by
  match l, hl with
  | [], _ =>
    constructor
    · refine Ends.succ ?_
      simp only [reel_checkTurns.l1]
      exact Ends.neg (by simp) (Ends.ret _)
    · refine Ends.succ ?_
      simp only [papermillref34_turnups.l1]
      exact Ends.neg (by simp) (Ends.ret _)
  | x :: r, hl =>
    obtain ⟨h1, h2⟩ := turns_inc (x :: r) hl r.length 1 (by simp) (Nat.le_refl _) (by simp)
    refine ⟨?_, h2⟩
    refine Ends.succ ?_
    simp only [reel_checkTurns.l1]
    exact Ends.pos (by simp) (Ends.neg (by omega) (by rw [show wrap64 (0 + 1) = ((1 : Nat) : Int) from by unfold wrap64; omega]; exact h1))
theorem turns_rng (l : List Int) (hl : l.length ≤ 512) : ∀ (d i : Nat), l.length - i = d → i ≤ l.length → Ends (fun k => reel_checkTurns.l0 k l l (l.length : Int) (i : Int)) (if rngErr (l.drop i) = true then 1 else incOf l) ∧ Ends (fun k => papermillref34_turnups.l0 k l (i : Int)) (if rngErr (l.drop i) = true then 1 else incOf l) := by
  intro d
  induction d with
  | zero =>
    intro i hd hi
    rw [List.drop_of_length_le (by omega)]
    obtain ⟨h1, h2⟩ := turns_inc0 l hl
    constructor
    · refine Ends.succ ?_
      simp only [reel_checkTurns.l0]
      exact Ends.neg (by omega) (by simpa [rngErr] using h1)
    · refine Ends.succ ?_
      simp only [papermillref34_turnups.l0]
      exact Ends.neg (by omega) (by simpa [rngErr] using h2)
  | succ d ih =>
    intro i hd hi
    obtain ⟨ih1, ih2⟩ := ih (i + 1) (by omega) (by omega)
    rw [dropI l i (by omega)]
    simp only [rngErr]
    by_cases h1 : rd l i < 0
    · simp only [if_pos h1]
      constructor
      · refine Ends.succ ?_
        simp only [reel_checkTurns.l0]
        exact Ends.pos (by omega) (Ends.pos (by omega) (Ends.pos (by omega) (Ends.pos h1 (Ends.ret _))))
      · refine Ends.succ ?_
        simp only [papermillref34_turnups.l0]
        exact Ends.pos (by omega) (Ends.pos (by omega) (Ends.pos h1 (Ends.ret _)))
    · simp only [if_neg h1]
      by_cases h2 : rd l i > 17179869184
      · simp only [if_pos h2]
        constructor
        · refine Ends.succ ?_
          simp only [reel_checkTurns.l0]
          exact Ends.pos (by omega) (Ends.pos (by omega) (Ends.pos (by omega) (Ends.neg h1 (Ends.pos h2 (Ends.ret _)))))
        · refine Ends.succ ?_
          simp only [papermillref34_turnups.l0]
          exact Ends.pos (by omega) (Ends.pos (by omega) (Ends.neg h1 (Ends.pos h2 (Ends.ret _))))
      · simp only [if_neg h2]
        constructor
        · refine Ends.succ ?_
          simp only [reel_checkTurns.l0, wrap_nat i (by omega)]
          exact Ends.pos (by omega) (Ends.pos (by omega) (Ends.pos (by omega) (Ends.neg h1 (Ends.neg h2 ih1))))
        · refine Ends.succ ?_
          simp only [papermillref34_turnups.l0, wrap_nat i (by omega)]
          exact Ends.pos (by omega) (Ends.pos (by omega) (Ends.neg h1 (Ends.neg h2 ih2)))
theorem turns_ends (l : List Int) : Ends (fun k => reel_checkTurns.f k l) (turnsOf l) := by
  simp only [reel_checkTurns.f, turnsOf]
  by_cases h : l.length > 512
  · rw [if_pos h]; exact Ends.pos (by omega) (Ends.ret _)
  · rw [if_neg h]; exact Ends.neg (by omega) (by simpa using (turns_rng l (by omega) l.length 0 rfl (Nat.zero_le _)).1)
theorem turnups_ends (l : List Int) : Ends (fun k => papermillref34_turnups.f k l) (turnsOf l) := by
  simp only [papermillref34_turnups.f, turnsOf]
  by_cases h : l.length > 512
  · rw [if_pos h]; exact Ends.pos (by omega) (Ends.ret _)
  · rw [if_neg h]; exact Ends.neg (by omega) (by simpa using (turns_rng l (by omega) l.length 0 rfl (Nat.zero_le _)).2)

/-! ### the stretches -/
def st2 : Option (Int × Int × Int) → List S44 → List S36
  | none, [] => []
  | some (a, _, e), [] => [⟨a, e⟩]
  | none, x :: r => if x.f2 = 3 then st2 none r else st2 (some (x.f0, x.f4, x.f1)) r
  | some (a, p, e), x :: r => if x.f2 = 3 then ⟨a, e⟩ :: st2 none r else if x.f4 = p then st2 (some (a, p, x.f1)) r else ⟨a, e⟩ :: st2 (some (x.f0, x.f4, x.f1)) r
theorem st2_some (x : S44) (a : Int) : ∀ (r : List S44) (y : S44), st2 (some (a, x.f4, y.f1)) r = ⟨a, ((y :: r.takeWhile (reel_Cut.same x)).getLastD y).f1⟩ :: st2 none (r.dropWhile (reel_Cut.same x))
  | [], y => by simp [st2]
  | z :: r, y => by
    rw [st2]
    by_cases h1 : z.f2 = 3
    · have e : reel_Cut.same x z = false := by simp [reel_Cut.same, h1]
      rw [if_pos h1, List.takeWhile_cons, List.dropWhile_cons, e]
      simp [st2, h1]
    · rw [if_neg h1]
      by_cases h2 : z.f4 = x.f4
      · have e : reel_Cut.same x z = true := by simp [reel_Cut.same, h1, h2]
        rw [if_pos h2, st2_some x a r z, List.takeWhile_cons, List.dropWhile_cons, e]
        simp only [if_true]
        congr 2
      · have e : reel_Cut.same x z = false := by simp [reel_Cut.same, h2]
        rw [if_neg h2, List.takeWhile_cons, List.dropWhile_cons, e]
        simp [st2, h1]
theorem strs_st2 : ∀ (n : Nat) (l : List S44), l.length ≤ n → reel_Cut.strs l = st2 none l
  | _, [], _ => by simp [reel_Cut.strs, st2]
  | n + 1, x :: r, h => by
    rw [reel_Cut.strs, st2]
    by_cases h1 : x.f2 = 3
    · rw [if_pos h1, if_pos h1]; exact strs_st2 n r (by simp at h; omega)
    · have h2 := (List.dropWhile_suffix (l := r) (reel_Cut.same x)).length_le
      rw [if_neg h1, if_neg h1, st2_some x x.f0 r x, strs_st2 n (r.dropWhile (reel_Cut.same x)) (by simp at h; omega)]
def StIn (l : List S44) (i : Nat) (acc done : List S36) (o : Option (Int × Int × Int)) : Prop :=
  (o = none ∧ (i = 0 ∨ (rd_T44 l (i - 1 : Nat)).f2 = 3) ∧ acc = done) ∨ (∃ a e, o = some (a, (rd_T44 l (i - 1 : Nat)).f4, e) ∧ 1 ≤ i ∧ (rd_T44 l (i - 1 : Nat)).f2 ≠ 3 ∧ acc = done ++ [⟨a, e⟩])
theorem set_last {α : Type} (d : List α) (x y : α) : (d ++ [x]).set d.length y = d ++ [y] := by
  rw [List.set_append_right _ _ (Nat.le_refl _)]; simp
theorem strs_ref (l : List S44) (hl : l.length ≤ 512) : ∀ (d i : Nat) (acc done : List S36) (o : Option (Int × Int × Int)), l.length - i = d → i ≤ l.length → acc.length ≤ i → StIn l i acc done o → Ends (fun k => papermillref34_Stretches.l0 k l acc (i : Int)) (done ++ st2 o (l.drop i)) := by
  intro d
  induction d with
  | zero =>
    intro i acc done o hd hi ha hs
    rw [List.drop_of_length_le (by omega)]
    refine Ends.succ ?_
    simp only [papermillref34_Stretches.l0]
    refine Ends.neg (by omega) ?_
    rcases hs with ⟨rfl, _, rfl⟩ | ⟨a, e, rfl, _, _, rfl⟩
    · simpa [st2] using Ends.ret _
    · simpa [st2] using Ends.ret _
  | succ d ih =>
    intro i acc done o hd hi ha hs
    rw [drop44 l i (by omega)]
    refine Ends.succ ?_
    simp only [papermillref34_Stretches.l0, wrap_nat i (by omega)]
    refine Ends.pos (by omega) (Ends.pos (by omega) ?_)
    by_cases h3 : (rd_T44 l i).f2 = 3
    · refine Ends.pos h3 ?_
      rcases hs with ⟨rfl, h, rfl⟩ | ⟨a, e, rfl, h1, h2, rfl⟩
      · rw [st2, if_pos h3]
        exact ih (i + 1) _ _ _ (by omega) (by omega) (by omega) (.inl ⟨rfl, .inr h3, rfl⟩)
      · rw [st2, if_pos h3]
        have := ih (i + 1) (done ++ [⟨a, e⟩]) _ none (by omega) (by omega) (by omega) (.inl ⟨rfl, .inr h3, rfl⟩)
        simpa using this
    · refine Ends.neg h3 ?_
      rcases hs with ⟨rfl, h, rfl⟩ | ⟨a, e, rfl, h1, h2, rfl⟩
      · rw [st2, if_neg h3]
        have hn := ih (i + 1) (acc ++ [⟨(rd_T44 l i).f0, (rd_T44 l i).f1⟩]) acc (some ((rd_T44 l i).f0, (rd_T44 l i).f4, (rd_T44 l i).f1)) (by omega) (by omega) (by simp; omega) (.inr ⟨_, _, by rw [show i + 1 - 1 = i from rfl], by omega, h3, rfl⟩)
        by_cases h0 : i = 0
        · exact Ends.neg (by omega) (Ends.pos (by omega) hn)
        · have h := h.resolve_left h0
          refine Ends.pos (by omega) ?_
          simp only [wrap_pred i (by omega) (by omega)]
          exact Ends.pos (by omega) (Ends.pos (by omega) (Ends.pos h (Ends.pos (by omega) hn)))
      · refine Ends.pos (by omega) ?_
        simp only [wrap_pred i (by omega) (by omega)]
        refine Ends.pos (by omega) (Ends.pos (by omega) (Ends.neg h2 ?_))
        rw [st2, if_neg h3]
        have hd1 : ((done ++ [(⟨a, e⟩ : S36)]).length : Int) - 1 = (done.length : Int) := by simp
        have hlen : done.length < 4000000000000000000 := by simp at ha; omega
        have hw : wrap64 (((done ++ [(⟨a, e⟩ : S36)]).length : Int) - 1) = (done.length : Int) := by rw [hd1]; unfold wrap64; omega
        by_cases h4 : (rd_T44 l (i - 1 : Nat)).f4 = (rd_T44 l i).f4
        · refine Ends.pos h4 ?_
          rw [if_pos h4.symm, hw]
          refine Ends.pos (by omega) (Ends.pos (by simp; omega) ?_)
          have e1 : (rd_T36 (done ++ [(⟨a, e⟩ : S36)]) (done.length : Int)).f0 = a := by rw [rd36 _ _ (by simp)]; simp
          rw [e1, Int.toNat_natCast, set_last]
          exact ih (i + 1) _ _ _ (by omega) (by omega) (by simp at ha ⊢; omega) (.inr ⟨a, _, by rw [show i + 1 - 1 = i from rfl, h4], by omega, h3, rfl⟩)
        · rw [if_neg (fun q => h4 q.symm)]
          refine Ends.neg h4 (Ends.pos (by simp at ha ⊢; omega) ?_)
          have := ih (i + 1) (done ++ [⟨a, e⟩] ++ [⟨(rd_T44 l i).f0, (rd_T44 l i).f1⟩]) (done ++ [⟨a, e⟩]) (some ((rd_T44 l i).f0, (rd_T44 l i).f4, (rd_T44 l i).f1)) (by omega) (by omega) (by simp at ha ⊢; omega) (.inr ⟨_, _, by rw [show i + 1 - 1 = i from rfl], by omega, h3, rfl⟩)
          simpa using this
theorem strs_ends (l : List S44) (hl : l.length ≤ 512) : Ends (fun k => papermillref34_Stretches.f k l) (reel_Cut.strs l) := by
  rw [strs_st2 l.length l (Nat.le_refl _)]
  have := strs_ref l hl l.length 0 [] [] none rfl (Nat.zero_le _) (by simp) (.inl ⟨rfl, .inl rfl, rfl⟩)
  simpa [papermillref34_Stretches.f] using this

/-! ### the pieces -/
def isIn (x : S36) (t : Int) : Bool := decide (x.f0 < t ∧ t < x.f1)
theorem at_filter (least : Int) (x : S36) : ∀ (ts : List Int) (st : Int × List S36 × List S36), ts.foldl (reel_Cut.at least x) st = (ts.filter (isIn x)).foldl (reel_Cut.piece least) st
  | [], st => rfl
  | t :: ts, st => by
    simp only [List.foldl_cons, List.filter_cons, isIn, decide_eq_true_eq, reel_Cut.at]
    by_cases h : x.f0 < t ∧ t < x.f1
    · simp only [if_pos h, List.foldl_cons]; exact at_filter least x ts _
    · simp only [if_neg h]; exact at_filter least x ts _
theorem one_fold (least : Int) (ts : List Int) (p : List S36 × List S36) (x : S36) : reel_Cut.one least ts p x = ((ts.filter (isIn x) ++ [x.f1]).foldl (reel_Cut.piece least) (x.f0, p.1, p.2)).2 := by
  unfold reel_Cut.one
  rw [at_filter, List.foldl_append]
  rfl
theorem cut_l2 (least : Int) (ts : List Int) (xs : List S36) (j : Nat) (cs : List Int) (hc : cs.length < 2000) (r : List S36 × List S36 × Int) : ∀ (d i : Nat) (st : Int × List S36 × List S36), cs.length - i = d → i ≤ cs.length → st.2.1.length + st.2.2.length + d < 1000000 →
    Ends (fun k => papermillref34_Cut.l0 k ts least (((cs.drop i).foldl (reel_Cut.piece least) st).2.1) (((cs.drop i).foldl (reel_Cut.piece least) st).2.2) xs (wrap64 ((j : Int) + 1))) r →
    Ends (fun k => papermillref34_Cut.l2 k ts least st.2.1 st.2.2 xs (j : Int) cs st.1 (i : Int)) r := by
  intro d
  induction d with
  | zero =>
    intro i st hd hi hb h
    rw [List.drop_of_length_le (by omega)] at h
    refine Ends.succ ?_
    simp only [papermillref34_Cut.l2]
    exact Ends.neg (by omega) h
  | succ d ih =>
    intro i st hd hi hb h
    rw [dropI cs i (by omega), List.foldl_cons] at h
    refine Ends.succ ?_
    simp only [papermillref34_Cut.l2, wrap_nat i (by omega)]
    refine Ends.pos (by omega) (Ends.pos (by omega) ?_)
    have hpl := piece_len least st (rd cs i)
    have := ih (i + 1) (reel_Cut.piece least st (rd cs i)) (by omega) (by omega) (by omega) h
    by_cases h1 : least ≤ wrap64 (rd cs i - st.1)
    · have e : reel_Cut.piece least st (rd cs i) = (rd cs i, st.2.1 ++ [⟨st.1, rd cs i⟩], st.2.2) := by unfold reel_Cut.piece; rw [if_pos h1]
      rw [e] at this
      exact Ends.pos h1 (Ends.pos (by omega) this)
    · have e : reel_Cut.piece least st (rd cs i) = (rd cs i, st.2.1, st.2.2 ++ [⟨st.1, rd cs i⟩]) := by unfold reel_Cut.piece; rw [if_neg h1]
      rw [e] at this
      exact Ends.neg h1 (Ends.pos (by omega) this)
theorem cut_l1 (least : Int) (ts : List Int) (ht : ts.length ≤ 512) (xs : List S36) (hx : xs.length ≤ 512) (j : Nat) (hj : j < xs.length) (rs ss : List S36) (r : List S36 × List S36 × Int) (hb : rs.length + ss.length + ts.length + 1 < 1000000)
    (h : Ends (fun k => papermillref34_Cut.l0 k ts least (reel_Cut.one least ts (rs, ss) (rd_T36 xs j)).1 (reel_Cut.one least ts (rs, ss) (rd_T36 xs j)).2 xs (wrap64 ((j : Int) + 1))) r) : ∀ (d i : Nat), ts.length - i = d → i ≤ ts.length →
    Ends (fun k => papermillref34_Cut.l1 k ts least rs ss xs (j : Int) ((ts.take i).filter (isIn (rd_T36 xs j))) (i : Int)) r := by
  intro d
  induction d with
  | zero =>
    intro i hd hi
    have hi : i = ts.length := by omega
    subst hi
    have hfl := List.length_filter_le (isIn (rd_T36 xs j)) ts
    rw [List.take_length]
    refine Ends.succ ?_
    simp only [papermillref34_Cut.l1]
    refine Ends.neg (by omega) (Ends.pos (by omega) (Ends.pos (by omega) (Ends.pos (by omega) ?_)))
    have := cut_l2 least ts xs j (ts.filter (isIn (rd_T36 xs j)) ++ [(rd_T36 xs j).f1]) (by simp; omega) r (ts.filter (isIn (rd_T36 xs j)) ++ [(rd_T36 xs j).f1]).length 0 ((rd_T36 xs j).f0, rs, ss) rfl (Nat.zero_le _) (by simp; omega)
    refine this ?_
    rw [one_fold] at h
    exact h
  | succ d ih =>
    intro i hd hi
    refine Ends.succ ?_
    simp only [papermillref34_Cut.l1, wrap_nat i (by omega)]
    refine Ends.pos (by omega) (Ends.pos (by omega) (Ends.pos (by omega) (Ends.pos (by omega) ?_)))
    have := ih (i + 1) (by omega) (by omega)
    rw [List.take_succ_eq_append_getElem (by omega), ← rdI ts i (by omega), List.filter_append] at this
    have hfl := List.length_filter_le (isIn (rd_T36 xs j)) (ts.take i)
    rw [List.length_take] at hfl
    by_cases h1 : rd ts i > (rd_T36 xs j).f0
    · by_cases h2 : rd ts i < (rd_T36 xs j).f1
      · have e : [rd ts i].filter (isIn (rd_T36 xs j)) = [rd ts i] := by simp [isIn, h1, h2]
        rw [e] at this
        exact Ends.pos h1 (Ends.pos h2 (Ends.pos (by omega) this))
      · have e : [rd ts i].filter (isIn (rd_T36 xs j)) = [] := by simp [isIn]; omega
        rw [e, List.append_nil] at this
        exact Ends.pos h1 (Ends.neg h2 this)
    · have e : [rd ts i].filter (isIn (rd_T36 xs j)) = [] := by simp [isIn]; omega
      rw [e, List.append_nil] at this
      exact Ends.neg h1 this
theorem cut_l0 (least : Int) (ts : List Int) (ht : ts.length ≤ 512) (xs : List S36) (hx : xs.length ≤ 512) : ∀ (d j : Nat) (p : List S36 × List S36), xs.length - j = d → j ≤ xs.length → p.1.length + p.2.length + d * (ts.length + 1) < 1000000 →
    Ends (fun k => papermillref34_Cut.l0 k ts least p.1 p.2 xs (j : Int)) (((xs.drop j).foldl (reel_Cut.one least ts) p).1, ((xs.drop j).foldl (reel_Cut.one least ts) p).2, 0) := by
  intro d
  induction d with
  | zero =>
    intro j p hd hj hb
    rw [List.drop_of_length_le (by omega)]
    refine Ends.succ ?_
    simp only [papermillref34_Cut.l0]
    exact Ends.neg (by omega) (Ends.ret _)
  | succ d ih =>
    intro j p hd hj hb
    rw [Nat.add_mul, Nat.one_mul] at hb
    rw [drop36 xs j (by omega), List.foldl_cons]
    refine Ends.succ ?_
    simp only [papermillref34_Cut.l0]
    refine Ends.pos (by omega) ?_
    have hol := one_len least ts p (rd_T36 xs j)
    have := ih (j + 1) (reel_Cut.one least ts p (rd_T36 xs j)) (by omega) (by omega) (by omega)
    have h1 := cut_l1 least ts ht xs hx j (by omega) p.1 p.2 _ (by omega) (by rw [wrap_nat j (by omega)]; exact this) ts.length 0 rfl (Nat.zero_le _)
    simpa using h1

/-- what Cut answers -/
def cutOf (l : List S44) (ts : List Int) (a : Int) : List S36 × List S36 × Int :=
  if checkOf l = 0 then (if a < 1 then ([], [], 1) else if a > 17179869184 then ([], [], 1) else if turnsOf ts = 0 then ((reel_Cut.all a ts (reel_Cut.strs l)).1, (reel_Cut.all a ts (reel_Cut.strs l)).2, 0) else ([], [], turnsOf ts)) else ([], [], checkOf l)
theorem checkOf_len {l : List S44} (h : checkOf l = 0) : l.length ≤ 512 := by
  unfold checkOf at h
  split at h
  · cases h
  · omega
theorem turnsOf_len {l : List Int} (h : turnsOf l = 0) : l.length ≤ 512 := by
  unfold turnsOf at h
  split at h
  · cases h
  · omega
theorem cut_ends (l : List S44) (ts : List Int) (a : Int) : Ends (fun k => reel_Cut.f k l ts a) (cutOf l ts a) := by
  unfold reel_Cut.f cutOf
  refine Ends.bind (check_ends l) ?_
  by_cases h1 : checkOf l = 0
  · rw [if_pos h1]; refine Ends.pos h1 ?_
    by_cases h2 : a < 1
    · rw [if_pos h2]; exact Ends.pos h2 (Ends.ret _)
    · rw [if_neg h2]; refine Ends.neg h2 ?_
      by_cases h3 : a > 17179869184
      · rw [if_pos h3]; exact Ends.pos h3 (Ends.ret _)
      · rw [if_neg h3]; refine Ends.neg h3 (Ends.bind (turns_ends ts) ?_)
        by_cases h4 : turnsOf ts = 0
        · simp only [if_pos h4]; exact Ends.ret _
        · simp only [if_neg h4]; exact Ends.ret _
  · rw [if_neg h1]; exact Ends.neg h1 (Ends.ret _)
theorem refcut_ends (l : List S44) (ts : List Int) (a : Int) : Ends (fun k => papermillref34_Cut.f k l ts a) (cutOf l ts a) := by
  unfold papermillref34_Cut.f cutOf
  refine Ends.bind (ref_ends l) ?_
  by_cases h1 : checkOf l = 0
  · rw [if_pos h1]; refine Ends.pos h1 ?_
    by_cases h2 : a < 1
    · rw [if_pos h2]; refine Ends.pos h2 (Ends.succ ?_)
      simp only [papermillref34_Cut.j0]
      exact Ends.pos (by trivial) (Ends.ret _)
    · rw [if_neg h2]; refine Ends.neg h2 (Ends.succ ?_)
      simp only [papermillref34_Cut.j0, decide_eq_true_eq]
      by_cases h3 : a > 17179869184
      · rw [if_pos h3]; exact Ends.pos h3 (Ends.ret _)
      · rw [if_neg h3]; refine Ends.neg h3 (Ends.bind (turnups_ends ts) ?_)
        by_cases h4 : turnsOf ts = 0
        · rw [if_pos h4]; refine Ends.pos h4 (Ends.bind (strs_ends l (checkOf_len h1)) ?_)
          have hs := strs_len l.length l (Nat.le_refl _)
          have hl := checkOf_len h1
          have ht := turnsOf_len h4
          have := cut_l0 a ts ht (reel_Cut.strs l) (by omega) (reel_Cut.strs l).length 0 ([], []) rfl (Nat.zero_le _) (by
            have : (reel_Cut.strs l).length * (ts.length + 1) ≤ 512 * 513 := Nat.mul_le_mul (by omega) (by omega)
            simp; omega)
          simpa [reel_Cut.all] using this
        · rw [if_neg h4]; exact Ends.neg h4 (Ends.ret _)
  · rw [if_neg h1]; exact Ends.neg h1 (Ends.ret _)

/-! ### the same rows -/
theorem same36_l0 (l : List S36) (hl : l.length < 4000000000000000000) : ∀ (d i : Nat), l.length - i = d → i ≤ l.length → Ends (fun k => papermillref04_Same.l0 k l l (i : Int)) true := by
  intro d
  induction d with
  | zero =>
    intro i hd hi
    refine Ends.succ ?_
    simp only [papermillref04_Same.l0]
    exact Ends.neg (by omega) (Ends.ret _)
  | succ d ih =>
    intro i hd hi
    refine Ends.succ ?_
    simp only [papermillref04_Same.l0, wrap_nat i (by omega)]
    exact Ends.pos (by omega) (Ends.pos (by omega) (Ends.pos (by omega) (Ends.neg (by simp) (ih (i + 1) (by omega) (by omega)))))
theorem same36 (l : List S36) (hl : l.length < 4000000000000000000) : Ends (fun k => papermillref04_Same.f k l l) true := by
  unfold papermillref04_Same.f
  exact Ends.pos rfl (same36_l0 l hl l.length 0 rfl (Nat.zero_le _))
theorem cutOf_len (l : List S44) (ts : List Int) (a : Int) : (cutOf l ts a).1.length + (cutOf l ts a).2.1.length < 4000000000000000000 := by
  unfold cutOf
  split
  · rename_i h1
    split
    · simp
    · split
      · simp
      · split
        · rename_i h4
          have h := all_len a ts (reel_Cut.strs l)
          have hs := strs_len l.length l (Nat.le_refl _)
          have hl := checkOf_len h1
          have ht := turnsOf_len h4
          have : (reel_Cut.strs l).length * (ts.length + 1) ≤ 512 * 513 := Nat.mul_le_mul (by omega) (by omega)
          show (reel_Cut.all a ts (reel_Cut.strs l)).1.length + (reel_Cut.all a ts (reel_Cut.strs l)).2.length < _
          omega
        · simp
  · simp
end Go.Proofs.Ytfdfpdiemeomiaa.G

namespace Go.Proofs.Ytfdfpdiemeomiaa.G
open Go.RowKit Go.Proofs.YtfdfpdiemeomiaaW.PrintWords Go.Proofs.YtfdfpdiemeomiaaW.PrintLast Go.Proofs.YtfdfpdiemeomiaaW.PrintMore
theorem cuts_end (l0 : List S44) (l1 : List Int) (a2 : Int) : Ends (fun k => (reel_Cut.f k l0 l1 a2).bind fun bt5003 => ((papermillref34_Cut.f k l0 l1 a2).bind fun bt5010 => ((papermillref04_Same.f k bt5003.1 bt5010.1).bind fun t5017 => (if t5017 = true then ((papermillref04_Same.f k bt5003.2.1 bt5010.2.1).bind fun t5018 => (if t5018 = true then (if bt5003.2.2 = bt5010.2.2 then ((papermilllaw34_awake.f).bind fun t5019 => (some t5019)) else (some false)) else (some false))) else (some false))))) true := by
  have hl := cutOf_len l0 l1 a2
  refine Ends.bind (cut_ends l0 l1 a2) (Ends.bind (refcut_ends l0 l1 a2) (Ends.bind (same36 _ (by omega)) (Ends.pos (by trivial) (Ends.bind (same36 _ (by omega)) (Ends.pos (by trivial) (Ends.pos (by trivial) ?_))))))
  exact Ends.ret _
theorem ReelCuts : ∀ (l0 : List (S44)) (l1 : List (Int)) (a2 : Int), (l0.length ≤ maxLen ∧ ∀ x ∈ l0, wf_44 x) → (l1.length ≤ maxLen ∧ ∀ x ∈ l1, (Lit.int .i64 x).wf = true) → (Lit.int .i64 a2).wf = true → ∃ k, papermilllaw34_ReelCuts.f k l0 l1 a2 = some true := by
  intro l0 l1 a2 _ _ _
  refine Ends.get ?_
  unfold papermilllaw34_ReelCuts.f papermilllaw34_great.f
  simp only [Option.bind_some, decide_eq_true_eq]
  by_cases h : (l0.length : Int) > 600
  · refine Ends.pos h (Ends.succ ?_)
    simp only [papermilllaw34_ReelCuts.j0]
    exact Ends.pos (by trivial) (Ends.ret _)
  · refine Ends.neg h (Ends.succ ?_)
    simp only [papermilllaw34_ReelCuts.j0, decide_eq_true_eq]
    by_cases h1 : (l1.length : Int) > 600
    · exact Ends.pos h1 (Ends.ret _)
    · exact Ends.neg h1 (cuts_end l0 l1 a2)
end Go.Proofs.Ytfdfpdiemeomiaa.G
