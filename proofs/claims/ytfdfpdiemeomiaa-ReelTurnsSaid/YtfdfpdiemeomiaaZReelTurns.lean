/- The law ReelTurns: whatever it is handed, it returns true, and what it is handed reads as before. No conditions. -/
import Derived.Test.YtfdfpdiemeomiaaT5
import Derived.Test.YtfdfpdiemeomiaaT6
import Derived.Test.YtfdfpdiemeomiaaRows
import Derived.WalkKit
import Derived.ProofKit
import Derived.OpenShut
import Derived.ShutString
import Derived.ChangeOld
import Derived.Below
import Derived.SizedLaws
namespace Go.Proofs.Ytfdfpdiemeomiaa.G
open Go.RowKit Go.Proofs.YtfdfpdiemeomiaaW.PrintWords Go.Proofs.YtfdfpdiemeomiaaW.PrintLast Go.Proofs.YtfdfpdiemeomiaaW.PrintMore
set_option linter.unusedVariables false
set_option linter.unusedSimpArgs false
instance decS36 : DecidableEq S36 := fun a b => by cases a; cases b; simp only [S36.mk.injEq]; infer_instance
theorem rd36 (l : List S36) (i : Nat) (h : i < l.length) : rd_T36 l i = l[i] := by simp [rd_T36, List.getD_eq_getElem?_getD, List.getElem?_eq_getElem h]
theorem drop36 (l : List S36) (i : Nat) (h : i < l.length) : l.drop i = rd_T36 l i :: l.drop (i + 1) := by rw [rd36 l i h]; exact List.drop_eq_getElem_cons h
theorem rd44 (l : List S44) (i : Nat) (h : i < l.length) : rd_T44 l i = l[i] := by simp [rd_T44, List.getD_eq_getElem?_getD, List.getElem?_eq_getElem h]
def secErr (x : S44) : Int := if x.f0 < 0 ∨ x.f0 ≥ x.f1 ∨ x.f1 > 17179869184 then 1 else if x.f2 < 1 ∨ x.f2 > 3 then 17 else if x.f3 < -1 ∨ x.f3 ≥ 16 then 22 else if x.f4 < 0 ∨ x.f4 > 2048 then 1 else 0
def firstErr : List S44 → Int
 | [] => 0
 | x :: r => if secErr x = 0 then firstErr r else secErr x
def ordErr : Int → Int → List S44 → Int
 | _, _, [] => 0
 | e, p, x :: r => if x.f0 = e ∧ ¬ x.f4 < p then ordErr x.f1 x.f4 r else 9
def checkOf (l : List S44) : Int := if l.length > 512 then 8 else if firstErr l = 0 then ordErr 0 0 l else firstErr l
theorem or3 {α : Type} (F : Bool → α) (p q r : Prop) [Decidable p] [Decidable q] [Decidable r] : (if p then F true else if q then F true else F (decide r)) = F (decide (p ∨ q ∨ r)) := by
 by_cases h1 : p
 ·simp [h1]
 ·by_cases h2 : q <;> simp [h1, h2]
theorem or2 {α : Type} (F : Bool → α) (p r : Prop) [Decidable p] [Decidable r] : (if p then F true else F (decide r)) = F (decide (p ∨ r)) := by
 by_cases h1 : p <;> simp [h1]
theorem one_j2 (k : Nat) (A : Prop) [Decidable A] (a b c d e : Int) : reel_checkOne.j2 (k + 1) (decide A) a b c d e = some (if A then 22 else if e < 0 ∨ e > 2048 then 1 else 0) := by
 simp only [reel_checkOne.j2, decide_eq_true_eq]
 by_cases h : A
 ·simp [h]
 ·by_cases h1 : e < 0
  ·simp [h, h1]
  ·by_cases h2 : e > 2048 <;> simp [h, h1, h2]
theorem one_j1 (k : Nat) (A : Prop) [Decidable A] (a b c d e : Int) : reel_checkOne.j1 (k + 1 + 1) (decide A) a b c d e = some (if A then 17 else if d < -1 ∨ d ≥ 16 then 22 else if e < 0 ∨ e > 2048 then 1 else 0) := by
 rw [reel_checkOne.j1, or2 (fun q => reel_checkOne.j2 (k + 1) q a b c d e), one_j2]
 by_cases h : A <;> simp [h]
theorem one_j0 (k : Nat) (A : Prop) [Decidable A] (a b c d e : Int) : reel_checkOne.j0 (k + 1 + 1 + 1) (decide A) a b c d e = some (if A then 1 else if c < 1 ∨ c > 3 then 17 else if d < -1 ∨ d ≥ 16 then 22 else if e < 0 ∨ e > 2048 then 1 else 0) := by
 rw [reel_checkOne.j0, or2 (fun q => reel_checkOne.j1 (k + 1 + 1) q a b c d e), one_j1]
 by_cases h : A <;> simp [h]
theorem one_ends (x : S44) : Ends (fun k => reel_checkOne.f k x.f0 x.f1 x.f2 x.f3 x.f4) (secErr x) := by
 refine ⟨3, fun k hk => ?_⟩
 obtain ⟨k, rfl⟩ : ∃ j, k = j + 1 + 1 + 1 := ⟨k - 3, by omega⟩
 show reel_checkOne.f _ _ _ _ _ _ = _
 unfold reel_checkOne.f secErr
 rw [or3 (fun q => reel_checkOne.j0 (k + 1 + 1 + 1) q x.f0 x.f1 x.f2 x.f3 x.f4), one_j0]
theorem drop44 (l : List S44) (i : Nat) (h : i < l.length) : l.drop i = rd_T44 l i :: l.drop (i + 1) := by rw [rd44 l i h]; exact List.drop_eq_getElem_cons h
theorem ord_ends (l : List S44) (hl : l.length ≤ 512) : ∀ (d i : Nat) (e p : Int), l.length - i = d → i ≤ l.length → Ends (fun k => reel_Check.l1 k e p l (l.length : Int) (i : Int)) (ordErr e p (l.drop i)) := by
 intro d
 induction d with
 | zero =>
  intro i e p hd hi
  rw [List.drop_of_length_le (by omega)]
  refine Ends.succ ?_
  simp only [reel_Check.l1]
  exact Ends.neg (by omega) (Ends.ret _)
 | succ d ih =>
  intro i e p hd hi
  rw [drop44 l i (by omega)]
  refine Ends.succ ?_
  simp only [reel_Check.l1, ordErr]
  refine Ends.pos (by omega) (Ends.pos (by omega) (Ends.pos (by omega) ?_))
  by_cases h1 : (rd_T44 l i).f0 = e
  ·refine Ends.pos h1 ?_
   by_cases h2 : (rd_T44 l i).f4 < p
   ·rw [if_neg (fun h => h.2 h2)]; exact Ends.pos h2 (Ends.ret _)
   ·rw [if_pos ⟨h1, h2⟩, wrap_nat i (by omega)]; exact Ends.neg h2 (ih (i + 1) _ _ (by omega) (by omega))
  ·rw [if_neg (fun h => h1 h.1)]; exact Ends.neg h1 (Ends.ret _)
theorem first_step (x : S44) (r : List S44) (q : Int) : (if firstErr (x :: r) = 0 then q else firstErr (x :: r)) = (if secErr x = 0 then (if firstErr r = 0 then q else firstErr r) else secErr x) := by
 simp only [firstErr]
 by_cases h : secErr x = 0
 ·simp only [if_pos h]
 ·simp only [if_neg h]
theorem first_ends (l : List S44) (hl : l.length ≤ 512) : ∀ (d i : Nat), l.length - i = d → i ≤ l.length → Ends (fun k => reel_Check.l0 k l l (l.length : Int) (i : Int)) (if firstErr (l.drop i) = 0 then ordErr 0 0 l else firstErr (l.drop i)) := by
 intro d
 induction d with
 | zero =>
  intro i hd hi
  rw [List.drop_of_length_le (by omega)]
  refine Ends.succ ?_
  simp only [reel_Check.l0]
  refine Ends.neg (by omega) ?_
  simpa [firstErr] using ord_ends l hl l.length 0 0 0 rfl (Nat.zero_le _)
 | succ d ih =>
  intro i hd hi
  rw [drop44 l i (by omega)]
  refine Ends.succ ?_
  rw [first_step]
  simp only [reel_Check.l0]
  refine Ends.pos (by omega) (Ends.pos (by omega) (Ends.pos (by omega) (Ends.bind (one_ends _) ?_)))
  by_cases h1 : secErr (rd_T44 l i) = 0
  ·rw [if_pos h1, wrap_nat i (by omega)]; exact Ends.pos h1 (ih (i + 1) (by omega) (by omega))
  ·rw [if_neg h1]; exact Ends.neg h1 (Ends.ret _)
theorem check_ends (l : List S44) : Ends (fun k => reel_Check.f k l) (checkOf l) := by
 simp only [reel_Check.f, checkOf]
 by_cases h : l.length > 512
 ·rw [if_pos h]; exact Ends.pos (by omega) (Ends.ret _)
 ·rw [if_neg h]; exact Ends.neg (by omega) (by simpa using first_ends l (by omega) l.length 0 rfl (Nat.zero_le _))
theorem first_all : ∀ {l : List S44}, firstErr l = 0 → ∀ x ∈ l, secErr x = 0
 | [], _, x, hx => by simp at hx
 | y :: r, h, x, hx => by
  unfold firstErr at h
  split at h
  ·rcases List.mem_cons.1 hx with rfl | hx
   ·assumption
   ·exact first_all h x hx
  ·contradiction
theorem dropI (l : List Int) (i : Nat) (h : i < l.length) : l.drop i = rd l i :: l.drop (i + 1) := by rw [rdI l i h]; exact List.drop_eq_getElem_cons h
def rngErr : List Int → Bool
 | [] => false
 | x :: r => if x < 0 then true else if x > 17179869184 then true else rngErr r
def incErr : Int → List Int → Int
 | _, [] => 0
 | p, x :: r => if x ≤ p then 9 else incErr x r
def incOf : List Int → Int
 | [] => 0
 | x :: r => incErr x r
def turnsOf (l : List Int) : Int := if l.length > 512 then 8 else if rngErr l = true then 1 else incOf l
theorem turns_inc (l : List Int) (hl : l.length ≤ 512) : ∀ (d i : Nat), l.length - i = d → 1 ≤ i → i ≤ l.length → Ends (fun k => reel_checkTurns.l1 k l (l.length : Int) (i : Int)) (incErr (rd l (i - 1 : Nat)) (l.drop i)) := by
 intro d
 induction d with
 | zero =>
  intro i hd h1 hi
  rw [List.drop_of_length_le (by omega)]
  refine Ends.succ ?_
  simp only [reel_checkTurns.l1]
  exact Ends.neg (by omega) (Ends.ret _)
 | succ d ih =>
  intro i hd h1 hi
  rw [dropI l i (by omega)]
  have ih1 := ih (i + 1) (by omega) (by omega) (by omega)
  rw [show (i + 1 - 1) = i from by omega] at ih1
  simp only [incErr]
  by_cases h2 : rd l i ≤ rd l (i - 1 : Nat)
  ·rw [if_pos h2]
   refine Ends.succ ?_
   simp only [reel_checkTurns.l1, wrap_pred i (by omega) h1]
   exact Ends.pos (by omega) (Ends.pos (by omega) (Ends.pos (by omega) (Ends.pos (by omega) (Ends.pos (by omega) (Ends.pos (by omega) (Ends.pos h2 (Ends.ret _)))))))
  ·rw [if_neg h2]
   refine Ends.succ ?_
   simp only [reel_checkTurns.l1, wrap_pred i (by omega) h1, wrap_nat i (by omega)]
   exact Ends.pos (by omega) (Ends.pos (by omega) (Ends.pos (by omega) (Ends.pos (by omega) (Ends.pos (by omega) (Ends.pos (by omega) (Ends.neg h2 ih1))))))
theorem turns_inc0 (l : List Int) (hl : l.length ≤ 512) : Ends (fun k => reel_checkTurns.l1 k l (l.length : Int) 0) (incOf l) := by
 match l, hl with
 | [], _ =>
  refine Ends.succ ?_
  simp only [reel_checkTurns.l1]
  exact Ends.neg (by simp) (Ends.ret _)
 | x :: r, hl =>
  have h1 := turns_inc (x :: r) hl r.length 1 (by simp) (Nat.le_refl _) (by simp)
  refine Ends.succ ?_
  simp only [reel_checkTurns.l1]
  exact Ends.pos (by simp) (Ends.neg (by omega) (by rw [show wrap64 (0 + 1) = ((1 : Nat) : Int) from by unfold wrap64; omega]; exact h1))
theorem turns_rng (l : List Int) (hl : l.length ≤ 512) : ∀ (d i : Nat), l.length - i = d → i ≤ l.length → Ends (fun k => reel_checkTurns.l0 k l l (l.length : Int) (i : Int)) (if rngErr (l.drop i) = true then 1 else incOf l) := by
 intro d
 induction d with
 | zero =>
  intro i hd hi
  rw [List.drop_of_length_le (by omega)]
  refine Ends.succ ?_
  simp only [reel_checkTurns.l0]
  exact Ends.neg (by omega) (by simpa [rngErr] using turns_inc0 l hl)
 | succ d ih =>
  intro i hd hi
  have ih1 := ih (i + 1) (by omega) (by omega)
  rw [dropI l i (by omega)]
  simp only [rngErr]
  by_cases h1 : rd l i < 0
  ·simp only [if_pos h1]
   refine Ends.succ ?_
   simp only [reel_checkTurns.l0]
   exact Ends.pos (by omega) (Ends.pos (by omega) (Ends.pos (by omega) (Ends.pos h1 (Ends.ret _))))
  ·simp only [if_neg h1]
   by_cases h2 : rd l i > 17179869184
   ·simp only [if_pos h2]
    refine Ends.succ ?_
    simp only [reel_checkTurns.l0]
    exact Ends.pos (by omega) (Ends.pos (by omega) (Ends.pos (by omega) (Ends.neg h1 (Ends.pos h2 (Ends.ret _)))))
   ·simp only [if_neg h2]
    refine Ends.succ ?_
    simp only [reel_checkTurns.l0, wrap_nat i (by omega)]
    exact Ends.pos (by omega) (Ends.pos (by omega) (Ends.pos (by omega) (Ends.neg h1 (Ends.neg h2 ih1))))
theorem turns_ends (l : List Int) : Ends (fun k => reel_checkTurns.f k l) (turnsOf l) := by
 simp only [reel_checkTurns.f, turnsOf]
 by_cases h : l.length > 512
 ·rw [if_pos h]; exact Ends.pos (by omega) (Ends.ret _)
 ·rw [if_neg h]; exact Ends.neg (by omega) (by simpa using turns_rng l (by omega) l.length 0 rfl (Nat.zero_le _))
def st2 : Option (Int × Int × Int) → List S44 → List S36
 | none, [] => []
 | some (a, _, e), [] => [⟨a, e⟩]
 | none, x :: r => if x.f2 = 3 then st2 none r else st2 (some (x.f0, x.f4, x.f1)) r
 | some (a, p, e), x :: r => if x.f2 = 3 then ⟨a, e⟩ :: st2 none r else if x.f4 = p then st2 (some (a, p, x.f1)) r else ⟨a, e⟩ :: st2 (some (x.f0, x.f4, x.f1)) r
theorem st2_some (x : S44) (a : Int) : ∀ (r : List S44) (y : S44), st2 (some (a, x.f4, y.f1)) r = ⟨a, ((y :: r.takeWhile (reel_Cut.same x)).getLastD y).f1⟩ :: st2 none (r.dropWhile (reel_Cut.same x))
 | [], y => by simp [st2]
 | z :: r, y => by
  rw [st2]
  by_cases h1 : z.f2 = 3
  ·have e : reel_Cut.same x z = false := by simp [reel_Cut.same, h1]
   rw [if_pos h1, List.takeWhile_cons, List.dropWhile_cons, e]
   simp [st2, h1]
  ·rw [if_neg h1]
   by_cases h2 : z.f4 = x.f4
   ·have e : reel_Cut.same x z = true := by simp [reel_Cut.same, h1, h2]
    rw [if_pos h2, st2_some x a r z, List.takeWhile_cons, List.dropWhile_cons, e]
    simp only [if_true]
    congr 2
   ·have e : reel_Cut.same x z = false := by simp [reel_Cut.same, h2]
    rw [if_neg h2, List.takeWhile_cons, List.dropWhile_cons, e]
    simp [st2, h1]
theorem strs_st2 : ∀ (n : Nat) (l : List S44), l.length ≤ n → reel_Cut.strs l = st2 none l
 | _, [], _ => by simp [reel_Cut.strs, st2]
 | n + 1, x :: r, h => by
  rw [reel_Cut.strs, st2]
  by_cases h1 : x.f2 = 3
  ·rw [if_pos h1, if_pos h1]; exact strs_st2 n r (by simp at h; omega)
  ·have h2 := (List.dropWhile_suffix (l := r) (reel_Cut.same x)).length_le
   rw [if_neg h1, if_neg h1, st2_some x x.f0 r x, strs_st2 n (r.dropWhile (reel_Cut.same x)) (by simp at h; omega)]
def isIn (x : S36) (t : Int) : Bool := decide (x.f0 < t ∧ t < x.f1)
theorem at_filter (least : Int) (x : S36) : ∀ (ts : List Int) (st : Int × List S36 × List S36), ts.foldl (reel_Cut.at least x) st = (ts.filter (isIn x)).foldl (reel_Cut.piece least) st
 | [], st => rfl
 | t :: ts, st => by
  simp only [List.foldl_cons, List.filter_cons, isIn, decide_eq_true_eq, reel_Cut.at]
  by_cases h : x.f0 < t ∧ t < x.f1
  ·simp only [if_pos h, List.foldl_cons]; exact at_filter least x ts _
  ·simp only [if_neg h]; exact at_filter least x ts _
theorem one_fold (least : Int) (ts : List Int) (p : List S36 × List S36) (x : S36) : reel_Cut.one least ts p x = ((ts.filter (isIn x) ++ [x.f1]).foldl (reel_Cut.piece least) (x.f0, p.1, p.2)).2 := by
 unfold reel_Cut.one
 rw [at_filter, List.foldl_append]
 rfl
def cutOf (l : List S44) (ts : List Int) (a : Int) : List S36 × List S36 × Int :=
 if checkOf l = 0 then (if a < 1 then ([], [], 1) else if a > 17179869184 then ([], [], 1) else if turnsOf ts = 0 then ((reel_Cut.all a ts (reel_Cut.strs l)).1, (reel_Cut.all a ts (reel_Cut.strs l)).2, 0) else ([], [], turnsOf ts)) else ([], [], checkOf l)
theorem cut_ends (l : List S44) (ts : List Int) (a : Int) : Ends (fun k => reel_Cut.f k l ts a) (cutOf l ts a) := by
 unfold reel_Cut.f cutOf
 refine Ends.bind (check_ends l) ?_
 by_cases h1 : checkOf l = 0
 ·rw [if_pos h1]; refine Ends.pos h1 ?_
  by_cases h2 : a < 1
  ·rw [if_pos h2]; exact Ends.pos h2 (Ends.ret _)
  ·rw [if_neg h2]; refine Ends.neg h2 ?_
   by_cases h3 : a > 17179869184
   ·rw [if_pos h3]; exact Ends.pos h3 (Ends.ret _)
   ·rw [if_neg h3]; refine Ends.neg h3 (Ends.bind (turns_ends ts) ?_)
    by_cases h4 : turnsOf ts = 0
    ·simp only [if_pos h4]; exact Ends.ret _
    ·simp only [if_neg h4]; exact Ends.ret _
 ·rw [if_neg h1]; exact Ends.neg h1 (Ends.ret _)
theorem len_two {α : Type} (p q r : α → Bool) (hp : ∀ x, p x = true → r x = true) (hq : ∀ x, q x = true → r x = true) (hd : ∀ x, p x = true → q x = true → False) : ∀ l : List α, (l.filter p).length + (l.filter q).length ≤ (l.filter r).length
 | [] => by simp
 | x :: l => by
  have := len_two p q r hp hq hd l
  have h1 := hp x; have h2 := hq x; have h3 := hd x
  simp only [List.filter_cons]
  cases e1 : p x <;> cases e2 : q x <;> cases e3 : r x <;> simp_all <;> omega
def chain : Int → List S44 → Prop
 | _, [] => True
 | e, x :: r => x.f0 = e ∧ e < x.f1 ∧ chain x.f1 r
theorem chain_of : ∀ {l : List S44} {e p : Int}, firstErr l = 0 → ordErr e p l = 0 → chain e l
 | [], _, _, _, _ => trivial
 | x :: r, e, p, h1, h2 => by
  have hx := first_all h1 x (by simp)
  have hb : x.f0 < x.f1 := by
   unfold secErr at hx
   split at hx
   ·cases hx
   ·omega
  have hr : firstErr r = 0 := by
   unfold firstErr at h1
   rw [if_pos hx] at h1
   exact h1
  unfold ordErr at h2
  split at h2
  ·rename_i h3
   exact ⟨h3.1, by omega, chain_of hr h2⟩
  ·cases h2
def apart : Int → List S36 → Prop
 | _, [] => True
 | e, x :: r => e ≤ x.f0 ∧ x.f0 ≤ x.f1 ∧ apart x.f1 r
theorem apart_le {e e' : Int} (h : e' ≤ e) : ∀ {l : List S36}, apart e l → apart e' l
 | [], _ => trivial
 | x :: r, h' => ⟨by have := h'.1; omega, h'.2⟩
theorem st2_apart : ∀ (l : List S44) (e : Int), chain e l → apart e (st2 none l) ∧ ∀ a p, a < e → apart a (st2 (some (a, p, e)) l)
 | [], e, _ => ⟨trivial, fun a p ha => ⟨Int.le_refl _, by show a ≤ e; omega, trivial⟩⟩
 | x :: r, e, h => by
  obtain ⟨h1, h2, h3⟩ := h
  obtain ⟨i1, i2⟩ := st2_apart r x.f1 h3
  have i3 := i2 x.f0 x.f4 (by omega)
  constructor
  ·rw [st2]
   split
   ·exact apart_le (by omega) i1
   ·exact apart_le (by omega) i3
  ·intro a p ha
   rw [st2]
   split
   ·exact ⟨Int.le_refl _, by show a ≤ e; omega, apart_le (by show e ≤ x.f1; omega) i1⟩
   ·split
    ·exact i2 a p (by omega)
    ·exact ⟨Int.le_refl _, by show a ≤ e; omega, apart_le (by show e ≤ x.f0; omega) i3⟩
def inAll (ts : List Int) (xs : List S36) : Nat := (xs.map fun x => (ts.filter (isIn x)).length).sum
theorem inAll_le (ts : List Int) : ∀ (xs : List S36) (e : Int), apart e xs → inAll ts xs ≤ (ts.filter (fun t => decide (e < t))).length
 | [], e, _ => by simp [inAll]
 | x :: r, e, h => by
  have ih := inAll_le ts r x.f1 h.2.2
  have h1 := h.1
  have h2 := h.2.1
  have := len_two (isIn x) (fun t => decide (x.f1 < t)) (fun t => decide (e < t)) (by simp [isIn]; intros; omega) (by simp; intros; omega) (by simp [isIn]; intros; omega) ts
  simp only [inAll, List.map_cons, List.sum_cons] at ih ⊢
  omega
theorem piece_lens (least : Int) : ∀ (cs : List Int) (st : Int × List S36 × List S36), (cs.foldl (reel_Cut.piece least) st).2.1.length + (cs.foldl (reel_Cut.piece least) st).2.2.length = st.2.1.length + st.2.2.length + cs.length
 | [], st => by simp
 | c :: r, st => by
  have h1 := piece_lens least r (reel_Cut.piece least st c)
  have h2 := piece_len least st c
  simp only [List.foldl_cons, List.length_cons]
  omega
theorem all_sum (least : Int) (ts : List Int) : ∀ (xs : List S36) (p : List S36 × List S36), (xs.foldl (reel_Cut.one least ts) p).1.length + (xs.foldl (reel_Cut.one least ts) p).2.length = p.1.length + p.2.length + inAll ts xs + xs.length
 | [], p => by simp [inAll]
 | x :: r, p => by
  have ih := all_sum least ts r (reel_Cut.one least ts p x)
  have h1 : (reel_Cut.one least ts p x).1.length + (reel_Cut.one least ts p x).2.length = p.1.length + p.2.length + (ts.filter (isIn x)).length + 1 := by
   rw [one_fold, piece_lens]; simp; omega
  simp only [List.foldl_cons, inAll, List.map_cons, List.sum_cons, List.length_cons] at ih ⊢
  omega
def pieces : Int → List Int → List S36
 | _, [] => []
 | a, c :: r => ⟨a, c⟩ :: pieces c r
theorem inc_sorted : ∀ (l : List Int) (p : Int), incErr p l = 0 → l.Pairwise (· < ·) ∧ ∀ x ∈ l, p < x
 | [], p, _ => by simp
 | x :: r, p, h => by
  unfold incErr at h
  split at h
  ·cases h
  ·obtain ⟨i1, i2⟩ := inc_sorted r x h
   refine ⟨List.pairwise_cons.2 ⟨i2, i1⟩, fun y hy => ?_⟩
   rcases List.mem_cons.1 hy with rfl | hy
   ·omega
   ·have := i2 y hy; omega
theorem turns_sorted {l : List Int} (h : turnsOf l = 0) : l.Pairwise (· < ·) := by
 unfold turnsOf at h
 split at h
 ·cases h
 ·split at h
  ·cases h
  ·match l, h with
   | [], _ => exact List.Pairwise.nil
   | x :: r, h =>
    obtain ⟨i1, i2⟩ := inc_sorted r x h
    exact List.pairwise_cons.2 ⟨i2, i1⟩
theorem checkOf_zero {l : List S44} (h : checkOf l = 0) : l.length ≤ 512 ∧ firstErr l = 0 ∧ chain 0 l := by
 unfold checkOf at h
 split at h
 ·cases h
 ·split at h
  ·rename_i h1 h2
   exact ⟨by omega, h2, chain_of h2 h⟩
  ·contradiction
theorem cut_count {l : List S44} {ts : List Int} {least : Int} (h : checkOf l = 0) : (reel_Cut.all least ts (reel_Cut.strs l)).1.length + (reel_Cut.all least ts (reel_Cut.strs l)).2.length ≤ ts.length + l.length := by
 obtain ⟨hl, hf, hc⟩ := checkOf_zero h
 have h1 := all_sum least ts (reel_Cut.strs l) ([], [])
 have h2 := strs_len l.length l (Nat.le_refl _)
 have h3 := inAll_le ts (reel_Cut.strs l) 0 (by rw [strs_st2 l.length l (Nat.le_refl _)]; exact (st2_apart l 0 hc).1)
 have h4 := List.length_filter_le (fun t => decide (0 < t)) ts
 unfold reel_Cut.all
 simp only [List.length_nil] at h1
 omega
def isBig (least : Int) (s : S36) : Bool := decide (least ≤ wrap64 (s.f1 - s.f0))
theorem piece_split (least : Int) : ∀ (cs : List Int) (st : Int × List S36 × List S36), (cs.foldl (reel_Cut.piece least) st).2 = (st.2.1 ++ (pieces st.1 cs).filter (isBig least), st.2.2 ++ (pieces st.1 cs).filter fun s => !isBig least s)
 | [], st => by simp [pieces]
 | c :: r, st => by
  rw [List.foldl_cons, piece_split least r]
  unfold reel_Cut.piece
  by_cases h : least ≤ wrap64 (c - st.1)
  ·rw [if_pos h]
   have e : isBig least ⟨st.1, c⟩ = true := by simp [isBig, h]
   simp [pieces, List.filter_cons, e]
  ·rw [if_neg h]
   have e : isBig least ⟨st.1, c⟩ = false := by simp [isBig, h]
   simp [pieces, List.filter_cons, e]
def onePieces (ts : List Int) (x : S36) : List S36 := pieces x.f0 (ts.filter (isIn x) ++ [x.f1])
def allPieces (ts : List Int) : List S36 → List S36
 | [] => []
 | x :: r => onePieces ts x ++ allPieces ts r
theorem all_split (least : Int) (ts : List Int) : ∀ (xs : List S36) (p : List S36 × List S36), xs.foldl (reel_Cut.one least ts) p = (p.1 ++ (allPieces ts xs).filter (isBig least), p.2 ++ (allPieces ts xs).filter fun s => !isBig least s)
 | [], p => by simp [allPieces]
 | x :: r, p => by
  rw [List.foldl_cons, all_split least ts r, one_fold, piece_split]
  simp [allPieces, onePieces]
theorem apart_app : ∀ {a b : List S36} {e m : Int}, apart e a → (∀ t ∈ a, t.f1 ≤ m) → e ≤ m → apart m b → apart e (a ++ b)
 | [], b, e, m, _, _, h, hb => apart_le h hb
 | x :: r, b, e, m, ha, ht, h, hb => ⟨ha.1, ha.2.1, apart_app ha.2.2 (fun t k => ht t (by simp [k])) (ht x (by simp)) hb⟩
theorem pieces_apart : ∀ (cs : List Int) (a z : Int), (∀ c ∈ cs, c ≤ z) → cs.Pairwise (· < ·) → (∀ c ∈ cs, a ≤ c) → a ≤ z → apart a (pieces a (cs ++ [z])) ∧ ∀ t ∈ pieces a (cs ++ [z]), t.f1 ≤ z
 | [], a, z, _, _, _, h => ⟨⟨Int.le_refl _, h, trivial⟩, fun t ht => by simp [pieces] at ht; subst ht; exact Int.le_refl _⟩
 | c :: r, a, z, h1, h2, h3, h => by
  rw [List.pairwise_cons] at h2
  have hc := h1 c (by simp)
  obtain ⟨i1, i2⟩ := pieces_apart r c z (fun d hd => h1 d (by simp [hd])) h2.2 (fun d hd => by have := h2.1 d hd; omega) hc
  refine ⟨⟨Int.le_refl _, h3 c (by simp), i1⟩, fun t ht => ?_⟩
  rcases List.mem_cons.1 ht with rfl | ht
  ·exact hc
  ·exact i2 t ht
theorem all_apart (ts : List Int) (hts : ts.Pairwise (· < ·)) : ∀ (xs : List S36) (e : Int), apart e xs → apart e (allPieces ts xs)
 | [], _, _ => trivial
 | x :: r, e, h => by
  have hin : ∀ c ∈ ts.filter (isIn x), x.f0 ≤ c ∧ c ≤ x.f1 := by
   intro c hc
   have := (List.mem_filter.1 hc).2
   simp [isIn] at this
   omega
  obtain ⟨i1, i2⟩ := pieces_apart (ts.filter (isIn x)) x.f0 x.f1 (fun c hc => (hin c hc).2) (hts.filter _) (fun c hc => (hin c hc).1) h.2.1
  exact apart_app (apart_le h.1 i1) i2 (by have := h.1; have := h.2.1; omega) (all_apart ts hts r x.f1 h.2.2)
theorem apart_lo : ∀ {l : List S36} {e : Int}, apart e l → ∀ t ∈ l, e ≤ t.f0
 | [], _, _, t, ht => by simp at ht
 | x :: r, e, h, t, ht => by
  rcases List.mem_cons.1 ht with rfl | ht
  ·exact h.1
  ·have := apart_lo h.2.2 t ht; have := h.1; have := h.2.1; omega
def Dis (s t : S36) : Prop := s.f1 ≤ t.f0 ∨ t.f1 ≤ s.f0
theorem apart_dis : ∀ {l : List S36} {e : Int}, apart e l → l.Pairwise Dis
 | [], _, _ => List.Pairwise.nil
 | x :: r, e, h => List.pairwise_cons.2 ⟨fun t ht => .inl (apart_lo h.2.2 t ht), apart_dis h.2.2⟩
theorem turn_out (ts : List Int) (t : Int) : ∀ (xs : List S36), (∀ x ∈ xs, isIn x t = false) → allPieces (ts ++ [t]) xs = allPieces ts xs
 | [], _ => rfl
 | x :: r, h => by
  rw [allPieces, allPieces, turn_out ts t r (fun y hy => h y (by simp [hy])), onePieces, onePieces, List.filter_append]
  simp [h x (by simp)]
theorem turn_one : ∀ (cs : List Int) (a t z : Int), (∀ c ∈ cs, c < t) → a < t → ∃ A q, pieces a (cs ++ [z]) = A ++ [⟨q, z⟩] ∧ pieces a (cs ++ [t] ++ [z]) = A ++ [⟨q, t⟩, ⟨t, z⟩] ∧ q < t
 | [], a, t, z, _, h => ⟨[], a, rfl, rfl, h⟩
 | c :: r, a, t, z, h, h1 => by
  obtain ⟨A, q, e1, e2, e3⟩ := turn_one r c t z (fun d hd => h d (by simp [hd])) (h c (by simp))
  exact ⟨⟨a, c⟩ :: A, q, by simp [pieces, e1], by simpa [pieces] using e2, e3⟩
theorem turn_all (ts : List Int) (t : Int) (ht : ∀ c ∈ ts, c < t) : ∀ (xs : List S36) (e : Int), apart e xs → allPieces (ts ++ [t]) xs = allPieces ts xs ∨ ∃ A p B, allPieces ts xs = A ++ p :: B ∧ allPieces (ts ++ [t]) xs = A ++ ⟨p.f0, t⟩ :: ⟨t, p.f1⟩ :: B ∧ p.f0 < t ∧ t < p.f1
 | [], _, _ => .inl rfl
 | x :: r, e, h => by
  cases hi : isIn x t with
  | false =>
   have e1 : onePieces (ts ++ [t]) x = onePieces ts x := by rw [onePieces, onePieces, List.filter_append]; simp [hi]
   rw [allPieces, allPieces, e1]
   rcases turn_all ts t ht r x.f1 h.2.2 with e2 | ⟨A, p, B, e2, e3, e4⟩
   ·exact .inl (by rw [e2])
   ·exact .inr ⟨onePieces ts x ++ A, p, B, by rw [e2]; simp, by rw [e3]; simp, e4⟩
  | true =>
   have hin : x.f0 < t ∧ t < x.f1 := by simpa [isIn] using hi
   obtain ⟨A, q, e1, e2, e3⟩ := turn_one (ts.filter (isIn x)) x.f0 t x.f1 (fun c hc => ht c (List.mem_filter.1 hc).1) hin.1
   have e4 : onePieces (ts ++ [t]) x = A ++ [⟨q, t⟩, ⟨t, x.f1⟩] := by rw [onePieces, List.filter_append]; simpa [hi] using e2
   have e5 := turn_out ts t r (fun y hy => by have := apart_lo h.2.2 y hy; simp [isIn]; omega)
   refine .inr ⟨A, ⟨q, x.f1⟩, allPieces ts r, ?_, ?_, e3, hin.2⟩
   ·rw [allPieces, onePieces, e1]; simp
   ·rw [allPieces, e4, e5]; simp
def gone (m : List S36) : List S36 → Nat
 | [] => 0
 | x :: r => (if x ∈ m then 0 else 1) + gone m r
theorem gone_zero (m : List S36) : ∀ (l : List S36), (∀ x ∈ l, x ∈ m) → gone m l = 0
 | [], _ => rfl
 | x :: r, h => by rw [gone, if_pos (h x (by simp)), gone_zero m r (fun y hy => h y (by simp [hy]))]
theorem gone_app (m : List S36) : ∀ (a b : List S36), gone m (a ++ b) = gone m a + gone m b
 | [], b => by simp [gone]
 | x :: r, b => by rw [List.cons_append, gone, gone, gone_app m r b]; omega
theorem gone_split (m : List S36) (p : S36 → Bool) : ∀ (l : List S36), gone m (l.filter p) + gone m (l.filter fun s => !p s) = gone m l
 | [] => rfl
 | x :: r => by
  have := gone_split m p r
  cases h : p x <;> simp [h, gone] <;> omega
theorem len_split (p : S36 → Bool) : ∀ (l : List S36), (l.filter p).length + (l.filter fun s => !p s).length = l.length
 | [] => rfl
 | x :: r => by
  have := len_split p r
  cases h : p x <;> simp [h] <;> omega
theorem mem_split (p : S36 → Bool) (l : List S36) (s : S36) : s ∈ l.filter p ++ (l.filter fun s => !p s) ↔ s ∈ l := by
 cases h : p s <;> simp [h]
theorem turn_main (t : Int) (P P' : List S36) (q : S36 → Bool) (hd : P.Pairwise Dis) (h : P' = P ∨ ∃ A p B, P = A ++ p :: B ∧ P' = A ++ ⟨p.f0, t⟩ :: ⟨t, p.f1⟩ :: B ∧ p.f0 < t ∧ t < p.f1) (o n : List S36) (ho : o = P.filter q ++ P.filter fun s => !q s) (hn : n = P'.filter q ++ P'.filter fun s => !q s) : n.length = o.length + gone n o ∧ gone n o ≤ 1 ∧ ∀ x ∈ o, x ∈ n ∨ (x.f0 < t ∧ t < x.f1) := by
 have l1 := len_split q P
 have l2 := len_split q P'
 have g1 : gone n o = gone n P := by rw [ho, gone_app, gone_split]
 have mn : ∀ s, s ∈ n ↔ s ∈ P' := fun s => by rw [hn]; exact mem_split q P' s
 have mo : ∀ s, s ∈ o ↔ s ∈ P := fun s => by rw [ho]; exact mem_split q P s
 have lo : o.length = P.length := by rw [ho, List.length_append]; exact l1
 have ln : n.length = P'.length := by rw [hn, List.length_append]; exact l2
 rcases h with h | ⟨A, p, B, h1, h2, h3, h4⟩
 ·have hz : gone n P = 0 := gone_zero n P (fun x hx => (mn x).mpr (by rw [h]; exact hx))
  refine ⟨by rw [g1, hz, lo, ln, h]; rfl, by omega, fun x hx => .inl ((mn x).mpr (by rw [h]; exact (mo x).mp hx))⟩
 ·have ha : ∀ x ∈ A, x ∈ n := fun x hx => (mn x).mpr (by rw [h2]; simp [hx])
  have hb : ∀ x ∈ B, x ∈ n := fun x hx => (mn x).mpr (by rw [h2]; simp [hx])
  have hp : p ∉ n := by
   rw [mn, h2]
   rw [h1, List.pairwise_append, List.pairwise_cons] at hd
   obtain ⟨_, ⟨d1, _⟩, d2⟩ := hd
   intro hm
   rcases List.mem_append.1 hm with hm | hm
   ·have := d2 p hm p (by simp); unfold Dis at this; omega
   ·rcases List.mem_cons.1 hm with hm | hm
    ·have := congrArg S36.f1 hm; simp at this; omega
    ·rcases List.mem_cons.1 hm with hm | hm
     ·have := congrArg S36.f0 hm; simp at this; omega
     ·have := d1 p hm; unfold Dis at this; omega
  have hz : gone n P = 1 := by rw [h1, gone_app, gone_zero n A ha, gone, if_neg hp, gone_zero n B hb]
  refine ⟨by rw [g1, hz, lo, ln, h1, h2]; simp [List.length_append]; omega, by omega, fun x hx => ?_⟩
  rw [mo, h1] at hx
  rcases List.mem_append.1 hx with hx | hx
  ·exact .inl (ha x hx)
  ·rcases List.mem_cons.1 hx with rfl | hx
   ·exact .inr ⟨h3, h4⟩
   ·exact .inl (hb x hx)
theorem turnsOf_snoc {ts : List Int} {t : Int} (h : turnsOf (ts ++ [t]) = 0) : ∀ c ∈ ts, c < t := by
 have := turns_sorted h
 rw [List.pairwise_append] at this
 exact fun c hc => this.2.2 c hc t (by simp)
theorem tn_l1 (o n : List S36) (ho : o.length ≤ 1000) (hn : n.length ≤ 1000) (g i : Nat) (hi : i < o.length) (hg : g ≤ 1000) (lst t : Int) (hin : rd_T36 o i ∈ n ∨ ((rd_T36 o i).f0 < t ∧ t < (rd_T36 o i).f1))
  (hk : Ends (fun k => papermilllaw34_ReelTurns.l0 k o n ((g + (if rd_T36 o i ∈ n then 0 else 1) : Nat) : Int) ((i + 1 : Nat) : Int) lst t) true) : ∀ (d j : Nat) (b : Bool), n.length - j = d → j ≤ n.length → (b = true ↔ rd_T36 o i ∈ n.take j) → Ends (fun k => papermilllaw34_ReelTurns.l1 k o n (g : Int) (i : Int) b (j : Int) lst t) true := by
 intro d
 induction d with
 | zero =>
  intro j b hd hj hb
  rw [List.take_of_length_le (by omega)] at hb
  refine Ends.succ ?_
  simp only [papermilllaw34_ReelTurns.l1]
  refine Ends.neg (by omega) ?_
  cases b with
  | true =>
   rw [if_pos (hb.mp rfl)] at hk
   refine Ends.pos rfl (Ends.succ ?_)
   simp only [papermilllaw34_ReelTurns.j5, wrap_nat i (by omega)]
   exact Ends.neg (by simp) (Ends.pos (by trivial) hk)
  | false =>
   have hno : rd_T36 o i ∉ n := fun h => by have := hb.mpr h; cases this
   rw [if_neg hno] at hk
   have hin := hin.resolve_left hno
   refine Ends.neg (by simp) (Ends.pos (by omega) (Ends.pos (by omega) (Ends.pos hin.1 (Ends.succ ?_))))
   simp only [papermilllaw34_ReelTurns.j5, wrap_nat i (by omega), wrap_nat g (by omega), decide_eq_true hin.2]
   exact Ends.neg (by simp) (Ends.neg (by simp) hk)
 | succ d ih =>
  intro j b hd hj hb
  have ht : n.take (j + 1) = n.take j ++ [rd_T36 n j] := by rw [List.take_succ_eq_append_getElem (by omega), rd36 n j (by omega)]
  refine Ends.succ ?_
  simp only [papermilllaw34_ReelTurns.l1, wrap_nat j (by omega)]
  refine Ends.pos (by omega) ?_
  cases b with
  | true => exact Ends.pos rfl (ih (j + 1) true (by omega) (by omega) (by rw [ht]; simp [hb.mp rfl]))
  | false =>
   have hno : rd_T36 o i ∉ n.take j := fun h => by have := hb.mpr h; cases this
   refine Ends.neg (by simp) (Ends.pos (by omega) (Ends.pos (by omega) (Ends.pos (by omega) (ih (j + 1) _ (by omega) (by omega) ?_))))
   rw [ht, List.mem_append, List.mem_singleton]
   simp only [Bool.and_eq_true, beq_iff_eq, hno, false_or]
   constructor
   ·rintro ⟨h1, h2⟩
    cases hx : rd_T36 o i; cases hy : rd_T36 n j
    rw [hx, hy] at h1 h2
    simp only at h1 h2
    rw [h1, h2]
   ·intro h; rw [h]; exact ⟨rfl, rfl⟩
theorem tn_l0 (o n : List S36) (ho : o.length ≤ 1000) (hn : n.length ≤ 1000) (lst t : Int) (hin : ∀ x ∈ o, x ∈ n ∨ (x.f0 < t ∧ t < x.f1)) (h1 : n.length = o.length + gone n o) (h2 : gone n o ≤ 1) : ∀ (d i g : Nat), o.length - i = d → i ≤ o.length → g + gone n (o.drop i) = gone n o → Ends (fun k => papermilllaw34_ReelTurns.l0 k o n (g : Int) (i : Int) lst t) true := by
 intro d
 induction d with
 | zero =>
  intro i g hd hi hg
  rw [List.drop_of_length_le (by omega)] at hg
  have hg : g + 0 = gone n o := hg
  refine Ends.succ ?_
  simp only [papermilllaw34_ReelTurns.l0]
  refine Ends.neg (by omega) (Ends.pos ?_ (Ends.pos (by omega) (Ends.bind (Ends.ret _) (Ends.ret _))))
  unfold wrap64
  omega
 | succ d ih =>
  intro i g hd hi hg
  rw [drop36 o i (by omega)] at hg
  have hg : g + ((if rd_T36 o i ∈ n then 0 else 1) + gone n (o.drop (i + 1))) = gone n o := hg
  refine Ends.succ ?_
  simp only [papermilllaw34_ReelTurns.l0]
  refine Ends.pos (by omega) ?_
  have hm : rd_T36 o i ∈ o := by rw [rd36 o i (by omega)]; exact List.getElem_mem _
  exact tn_l1 o n ho hn g i (by omega) (by omega) lst t (hin _ hm) (ih (i + 1) _ (by omega) (by omega) (by omega)) n.length 0 false rfl (Nat.zero_le _) (by simp)
theorem cutOf_ok {l : List S44} {ts : List Int} {a : Int} (h2 : (cutOf l ts a).2.2 = 0) : cutOf l ts a = ((reel_Cut.all a ts (reel_Cut.strs l)).1, (reel_Cut.all a ts (reel_Cut.strs l)).2, 0) ∧ checkOf l = 0 ∧ turnsOf ts = 0 := by
 unfold cutOf at h2 ⊢
 split at h2
 ·rename_i k1
  split at h2
  ·cases h2
  ·rename_i k2
   split at h2
   ·cases h2
   ·rename_i k3
    split at h2
    ·rename_i k4
     exact ⟨by rw [if_pos k1, if_neg k2, if_neg k3, if_pos k4], k1, k4⟩
    ·rename_i k4
     exact absurd h2 k4
 ·rename_i k1
  exact absurd h2 k1
theorem cut_pieces {l : List S44} {ts : List Int} {a : Int} (hc : checkOf l = 0) (ht : turnsOf ts = 0) : reel_Cut.all a ts (reel_Cut.strs l) = ((allPieces ts (reel_Cut.strs l)).filter (isBig a), (allPieces ts (reel_Cut.strs l)).filter fun s => !isBig a s) ∧ apart 0 (reel_Cut.strs l) ∧ apart 0 (allPieces ts (reel_Cut.strs l)) := by
 obtain ⟨n1, n2, n3⟩ := checkOf_zero hc
 have hst := strs_st2 l.length l (Nat.le_refl _)
 have hap0 := (st2_apart l 0 n3).1
 rw [← hst] at hap0
 refine ⟨?_, hap0, all_apart ts (turns_sorted ht) (reel_Cut.strs l) 0 hap0⟩
 simpa [reel_Cut.all] using all_split a ts (reel_Cut.strs l) ([], [])
theorem turn_law (l : List S44) (ts : List Int) (t a : Int) (hc : checkOf l = 0) (h1 : turnsOf ts = 0) (h2 : turnsOf (ts ++ [t]) = 0) (hl : l.length ≤ 100) (hts : ts.length ≤ 100) : ∃ rs ss rs' ss', reel_Cut.all a ts (reel_Cut.strs l) = (rs, ss) ∧ reel_Cut.all a (ts ++ [t]) (reel_Cut.strs l) = (rs', ss') ∧ rs.length + ss.length ≤ 400 ∧ rs'.length + ss'.length ≤ 400 ∧ (rs' ++ ss').length = (rs ++ ss).length + gone (rs' ++ ss') (rs ++ ss) ∧ gone (rs' ++ ss') (rs ++ ss) ≤ 1 ∧ ∀ x ∈ rs ++ ss, x ∈ rs' ++ ss' ∨ (x.f0 < t ∧ t < x.f1) := by
 obtain ⟨e1, e2, e3⟩ := cut_pieces (a := a) hc h1
 obtain ⟨e4, _, _⟩ := cut_pieces (a := a) hc h2
 have c1 := cut_count (least := a) (ts := ts) hc
 have c2 := cut_count (least := a) (ts := ts ++ [t]) hc
 rw [e1] at c1
 rw [e4, List.length_append] at c2
 simp only [List.length_singleton] at c1 c2
 exact ⟨_, _, _, _, e1, e4, by omega, by omega, turn_main t _ _ (isBig a) (apart_dis e3) (turn_all ts t (turnsOf_snoc h2) _ 0 e2) _ _ rfl rfl⟩
theorem two_len (a b : Nat) (h : a + b ≤ 400) : wrap64 ((a : Int) + (b : Int)) = ((a + b : Nat) : Int) := by unfold wrap64; omega
theorem ReelTurns : ∀ (l0 : List (S44)) (l1 : List (Int)) (a2_0 : Int) (a2_1 : Int), (l0.length ≤ maxLen ∧ ∀ x ∈ l0, wf_44 x) → (l1.length ≤ maxLen ∧ ∀ x ∈ l1, (Lit.int .i64 x).wf = true) → (Lit.int .i64 a2_0).wf = true → (Lit.int .i64 a2_1).wf = true → ∃ k, papermilllaw34_ReelTurns.f k l0 l1 a2_0 a2_1 = some true := by
 intro l ts a t _ _ _ _
 refine Ends.get ?_
 unfold papermilllaw34_ReelTurns.f
 by_cases h : (l.length : Int) > 100
 ·refine Ends.pos h (Ends.succ ?_)
  simp only [papermilllaw34_ReelTurns.j0]
  exact Ends.pos (by trivial) (Ends.bind (Ends.ret _) (Ends.ret _))
 ·refine Ends.neg h (Ends.succ ?_)
  simp only [papermilllaw34_ReelTurns.j0, decide_eq_true_eq]
  by_cases h1 : (ts.length : Int) > 100
  ·exact Ends.pos h1 (Ends.bind (Ends.ret _) (Ends.ret _))
  ·refine Ends.neg h1 (Ends.bind (cut_ends l ts a) (Ends.bind (Ends.ret _) (Ends.pos (by simp; omega) (Ends.bind (Ends.ret _) (Ends.bind (Ends.ret _) (Ends.pos (by simp; omega) (Ends.bind (cut_ends l _ a) ?_)))))))
   simp only [List.nil_append]
   have hj : ∀ p q r s, Ends (fun k => papermilllaw34_ReelTurns.j1 k p q r s true a t) true := fun p q r s => by
    refine Ends.succ ?_
    simp only [papermilllaw34_ReelTurns.j1]
    exact Ends.pos (by trivial) (Ends.bind (Ends.ret _) (Ends.ret _))
   by_cases h2 : (cutOf l ts a).2.2 = 0
   ·refine Ends.pos h2 ?_
    by_cases h3 : (cutOf l (ts ++ [t]) a).2.2 = 0
    ·obtain ⟨e1, e2, e3⟩ := cutOf_ok h2
     obtain ⟨e4, _, e5⟩ := cutOf_ok h3
     obtain ⟨rs, ss, rs', ss', m1, m2, m3, m4, m5, m6, m7⟩ := turn_law l ts t a e2 e3 e5 (by omega) (by omega)
     rw [m1] at e1
     rw [m2] at e4
     rw [e1, e4]
     clear h2 h3 hj e1 e4 m1 m2
     simp only [bne_self_eq_false]
     refine Ends.succ ?_
     simp only [papermilllaw34_ReelTurns.j1, two_len rs.length ss.length m3, two_len rs'.length ss'.length m4]
     refine Ends.neg (by simp) (Ends.neg (by omega) (Ends.succ ?_))
     simp only [papermilllaw34_ReelTurns.j2]
     refine Ends.neg (by simp; omega) (Ends.bind (Ends.ret _) (Ends.pos (by simp; omega) (Ends.bind (Ends.ret _) (Ends.pos (by simp; omega) (Ends.bind (Ends.ret _) (Ends.pos (by simp; omega) (Ends.bind (Ends.ret _) (Ends.pos (by simp; omega) ?_))))))))
     simp only [List.nil_append]
     exact tn_l0 (rs ++ ss) (rs' ++ ss') (by simp; omega) (by simp; omega) a t m7 m5 m6 _ 0 0 rfl (Nat.zero_le _) (by simp)
    ·rw [show ((cutOf l (ts ++ [t]) a).2.2 != 0) = true from by simp [h3]]
     exact hj _ _ _ _
   ·exact Ends.neg h2 (hj _ _ _ _)
end Go.Proofs.Ytfdfpdiemeomiaa.G

namespace Go.Proofs.Ytfdfpdiemeomiaa.reelTurns
open Go.ChangeShapes Go.WideShapes Go.ChangeAt Go.RowKit Go.Proofs.YtfdfpdiemeomiaaW.PrintWords Go.Proofs.YtfdfpdiemeomiaaW.PrintLast Go.Proofs.Ytfdfpdiemeomiaa.G
open Go.ChangeMaps (open_string shut_string)
set_option linter.unusedVariables false
set_option linter.unusedSimpArgs false
theorem own : ownKnob Try.prog.godebug = none := by kernel_rfl
theorem laidOut : laidOutB Try.prog = true := by kernel_rfl
set_option maxRecDepth 100000 in
theorem okWide_arr45 {W : World} {base : Nat} {v : Value} (h : Value.okWide Try.prog W .any base 45 v) : ∃ cs, v = .agg cs := by
 simp only [Value.okWide, Try.underlying45] at h
 obtain ⟨cs, h1, _⟩ := h
 exact ⟨cs, h1⟩
set_option maxRecDepth 100000 in
theorem opens_arr45 {H : Type} (enc : TypeId × Value → H) (W : World) (fuel : Nat) (cs : List Value) (x : DataW H × List MemPlace) (h : DataW.trod enc Try.prog W 0 (fun _ => true) true fuel 45 cs = some x) : ∃ v0 v1 : Int, cs = [.int .i64 v0, .int .i64 v1] ∧ (Lit.int .i64 v0).wf = true ∧ (Lit.int .i64 v1).wf = true := by
 obtain ⟨xs, n, rfl, rfl, hlen, hxl, hf⟩ := DataW.trod_array Try.underlying45 h
 have hc : Try.prog.cellsOf 45 = 2 := by kernel_rfl
 have hc1 : Try.prog.cellsOf 3 = 1 := by kernel_rfl
 rw [hc] at hlen
 rw [hc1] at hf
 match cs, hlen with
 | [c0, c1], _ =>
  match xs, hxl with
  | [y0, y1], _ =>
   obtain ⟨v0, q0, w0⟩ := (Opens.int Try.underlying3) enc W n [c0] y0 (hf 0 (by omega))
   cases q0
   obtain ⟨v1, q1, w1⟩ := (Opens.int Try.underlying3) enc W n [c1] y1 (hf 1 (by omega))
   cases q1
   exact ⟨v0, v1, rfl, w0, w1⟩
set_option maxRecDepth 100000 in
theorem lifted (os : Os) (started : os.Started) (H : Type) (enc : TypeId × Value → H) :
  ReturnsInHanded {} Try.checked os 8 .any (Rows.reelTurnsSpec.pre6 enc Try.prog Try.f8 Rows.reelTurnsRow.domain false) (Rows.reelTurnsSpec.post enc Try.prog Try.f8 false true false false) := by
 refine returnsInHanded_of_change_sized (C := Try.checked) own started (by kernel_rfl) Try.func8
  (ChangeSpec.witness6 (enc := enc) (C := Try.checked) false ⟨#[], #[.slice none 0 0, .slice none 0 0, .agg #[.int .i64 0, .int .i64 0]], []⟩ 8 (by kernel_rfl) (by kernel_rfl) (by kernel_rfl) (by kernel_rfl)) ?_
 intro W base args ds gs before hval0 hW hcnd hsz0 _
 have hval : ∀ (j : Nat) t v, Try.f8.params[j]? = some t → args[j]? = some v → Value.okWide Try.prog W .any base t v := hval0
 have hW' := hW
 obtain ⟨p, q, hA0, hV, rfl, hfz, hnd⟩ := hW
 have hA : DataW.TrodAll enc Try.prog W 0 (fun _ => true) true Try.f8.params.toList args.toList ds p := hA0
 rw [Try.params8] at hA hval
 obtain ⟨v0, vs0, d0, ds0, p0, q0, hargs, rfl, rfl, h0, r0⟩ := trodAll_cons hA
 obtain ⟨v1, vs1, d1, ds1, p1, q1, rfl, rfl, rfl, h1, r1⟩ := trodAll_cons r0
 obtain ⟨v2, vs2, d2, ds2, p2, q2, rfl, rfl, rfl, h2, r2⟩ := trodAll_cons r1
 obtain ⟨rfl, rfl, rfl⟩ := trodAll_nil r2
 obtain rfl : args = #[v0, v1, v2] := by cases args; simp_all
 obtain ⟨rfl, rfl⟩ := trodVars_none hV
 have k0 := h0
 have lt0 : ∀ x ∈ p0, x.block < W.heap.size := by obtain ⟨m, hm⟩ := k0; exact DataW.trod_lt m _ _ _ hm
 obtain ⟨a0, len0, cap0, rfl⟩ := okWide_slice Try.underlying22 (hval 0 22 v0 rfl rfl)
 obtain ⟨l0, ⟨A0, c0, hcs0, hlc0, hC0⟩, hw0⟩ : ∃ l, ((Kd.slice 44 k44)).K W l [.slice a0 len0 cap0] ∧ (l.length ≤ maxLen ∧ ∀ x ∈ l, wf_44 x) := by
  obtain ⟨fuel, hf⟩ := k0
  exact (Opens.slice Try.underlying22 (by kernel_rfl) opens_44) enc W fuel _ _ hf
 simp only [List.cons.injEq, and_true, Value.slice.injEq] at hcs0
 obtain ⟨rfl, rfl, rfl⟩ := hcs0
 have k1 := h1
 have lt1 : ∀ x ∈ p1, x.block < W.heap.size := by obtain ⟨m, hm⟩ := k1; exact DataW.trod_lt m _ _ _ hm
 obtain ⟨a1, len1, cap1, rfl⟩ := okWide_slice Try.underlying31 (hval 1 31 v1 rfl rfl)
 obtain ⟨l1, ⟨A1, c1, hcs1, hlc1, hC1⟩, hw1⟩ : ∃ l, ((Kd.slice 3 (Kd.int .i64))).K W l [.slice a1 len1 cap1] ∧ (l.length ≤ maxLen ∧ ∀ x ∈ l, (Lit.int .i64 x).wf = true) := by
  obtain ⟨fuel, hf⟩ := k1
  exact (Opens.slice Try.underlying31 (by kernel_rfl) (Opens.int Try.underlying3)) enc W fuel _ _ hf
 simp only [List.cons.injEq, and_true, Value.slice.injEq] at hcs1
 obtain ⟨rfl, rfl, rfl⟩ := hcs1
 have k2 := h2
 have lt2 : ∀ x ∈ p2, x.block < W.heap.size := by obtain ⟨m, hm⟩ := k2; exact DataW.trod_lt m _ _ _ hm
 obtain ⟨cs2, rfl⟩ := okWide_arr45 (hval 2 45 v2 rfl rfl)
 obtain ⟨a2_0, a2_1, hcs2, hw2⟩ : ∃ a2_0 a2_1 : Int, (Value.agg cs2).cells.toList = [.int .i64 a2_0, .int .i64 a2_1] ∧ (Lit.int .i64 a2_0).wf = true ∧ (Lit.int .i64 a2_1).wf = true := by
  obtain ⟨fuel, hf⟩ := k2
  exact opens_arr45 enc W fuel _ _ hf
 obtain rfl : cs2 = #[.int .i64 a2_0, .int .i64 a2_1] := by obtain ⟨cs⟩ := cs2; simpa [Value.cells] using hcs2
 clear hA0 hval0 hsz0
 obtain ⟨k, hk⟩ := ReelTurns l0 l1 a2_0 a2_1 hw0 hw1 hw2.1 hw2.2
 refine (papermilllaw34_ReelTurns.calls k _ _ l0 _ _ l1 a2_0 a2_1 true W hC0 hlc0 hC1 hlc1 hk).mono fun e W' he => ?_
 obtain ⟨he, bel⟩ := he
 subst he
 exact ⟨_, rfl, _, _, _, [], _, [], hW', trodAll_mk1 (shut_bool Try.underlying4 _), (trodAll_cons_mk (Below.trod laidOut (by kernel_rfl) (of_decide_eq_true (by kernel_rfl)) k0 bel lt0) (trodAll_cons_mk (Below.trod laidOut (by kernel_rfl) (of_decide_eq_true (by kernel_rfl)) k1 bel lt1) (trodAll_cons_mk (Below.trod laidOut (by kernel_rfl) (of_decide_eq_true (by kernel_rfl)) k2 bel lt2) trodAll_mk0))), rfl, bel.frame _, fun h => by cases h⟩
theorem over : Rows.reelTurnsRow.holds Try.pinned (OpenSpec.ofChange Rows.reelTurnsSpec) :=
 OpenClaim.holds_of_wide 8 Try.f8 rfl rfl rfl rfl rfl rfl rfl ⟨rfl, rfl, rfl, rfl, rfl⟩ rfl rfl rfl rfl rfl (by kernel_rfl) Try.func8 (by kernel_rfl)
  (of_decide_eq_true (by kernel_rfl)) (by unfold Func.isWrapper; first | (rw [if_pos (by decide +kernel)]; kernel_rfl) | (rw [if_neg (by decide +kernel)]; exact ⟨rfl, rfl⟩))
  (fun os started H enc _ => lifted os started H enc)
theorem proved : Rows.ReelTurnsSaid := over
#print axioms proved
end Go.Proofs.Ytfdfpdiemeomiaa.reelTurns
namespace Go.Proofs.Ytfdfpdiemeomiaa
theorem reelTurns_holds : Rows.ReelTurnsSaid := reelTurns.proved
end Go.Proofs.Ytfdfpdiemeomiaa
