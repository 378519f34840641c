/- The law ReelLost: whatever it is handed, it returns true, and what it is handed reads as before. No conditions. -/
import Derived.Test.YtfdfpdiemeomiaaU4
import Derived.Test.YtfdfpdiemeomiaaRows
import Derived.WalkKit
import Derived.ProofKit
import Derived.OpenShut
import Derived.ShutString
import Derived.ChangeOld
import Derived.Below
import Derived.SizedLaws
namespace Go.Proofs.Ytfdfpdiemeomiaa.G
open Go.RowKit Go.Proofs.YtfdfpdiemeomiaaW.PrintWords Go.Proofs.YtfdfpdiemeomiaaW.PrintLast Go.Proofs.YtfdfpdiemeomiaaW.PrintMore
set_option linter.unusedVariables false
set_option linter.unusedSimpArgs false
theorem rd44 (l : List S44) (i : Nat) (h : i < l.length) : rd_T44 l i = l[i] := by simp [rd_T44, List.getD_eq_getElem?_getD, List.getElem?_eq_getElem h]
def secErr (x : S44) : Int := if x.f0 < 0 ∨ x.f0 ≥ x.f1 ∨ x.f1 > 17179869184 then 1 else if x.f2 < 1 ∨ x.f2 > 3 then 17 else if x.f3 < -1 ∨ x.f3 ≥ 16 then 22 else if x.f4 < 0 ∨ x.f4 > 2048 then 1 else 0
def firstErr : List S44 → Int
 | [] => 0
 | x :: r => if secErr x = 0 then firstErr r else secErr x
def ordErr : Int → Int → List S44 → Int
 | _, _, [] => 0
 | e, p, x :: r => if x.f0 = e ∧ ¬ x.f4 < p then ordErr x.f1 x.f4 r else 9
def checkOf (l : List S44) : Int := if l.length > 512 then 8 else if firstErr l = 0 then ordErr 0 0 l else firstErr l
theorem or3 {α : Type} (F : Bool → α) (p q r : Prop) [Decidable p] [Decidable q] [Decidable r] : (if p then F true else if q then F true else F (decide r)) = F (decide (p ∨ q ∨ r)) := by
 by_cases h1 : p
 ·simp [h1]
 ·by_cases h2 : q <;> simp [h1, h2]
theorem or2 {α : Type} (F : Bool → α) (p r : Prop) [Decidable p] [Decidable r] : (if p then F true else F (decide r)) = F (decide (p ∨ r)) := by
 by_cases h1 : p <;> simp [h1]
theorem one_j2 (k : Nat) (A : Prop) [Decidable A] (a b c d e : Int) : reel_checkOne.j2 (k + 1) (decide A) a b c d e = some (if A then 22 else if e < 0 ∨ e > 2048 then 1 else 0) := by
 simp only [reel_checkOne.j2, decide_eq_true_eq]
 by_cases h : A
 ·simp [h]
 ·by_cases h1 : e < 0
  ·simp [h, h1]
  ·by_cases h2 : e > 2048 <;> simp [h, h1, h2]
theorem one_j1 (k : Nat) (A : Prop) [Decidable A] (a b c d e : Int) : reel_checkOne.j1 (k + 1 + 1) (decide A) a b c d e = some (if A then 17 else if d < -1 ∨ d ≥ 16 then 22 else if e < 0 ∨ e > 2048 then 1 else 0) := by
 rw [reel_checkOne.j1, or2 (fun q => reel_checkOne.j2 (k + 1) q a b c d e), one_j2]
 by_cases h : A <;> simp [h]
theorem one_j0 (k : Nat) (A : Prop) [Decidable A] (a b c d e : Int) : reel_checkOne.j0 (k + 1 + 1 + 1) (decide A) a b c d e = some (if A then 1 else if c < 1 ∨ c > 3 then 17 else if d < -1 ∨ d ≥ 16 then 22 else if e < 0 ∨ e > 2048 then 1 else 0) := by
 rw [reel_checkOne.j0, or2 (fun q => reel_checkOne.j1 (k + 1 + 1) q a b c d e), one_j1]
 by_cases h : A <;> simp [h]
theorem one_ends (x : S44) : Ends (fun k => reel_checkOne.f k x.f0 x.f1 x.f2 x.f3 x.f4) (secErr x) := by
 refine ⟨3, fun k hk => ?_⟩
 obtain ⟨k, rfl⟩ : ∃ j, k = j + 1 + 1 + 1 := ⟨k - 3, by omega⟩
 show reel_checkOne.f _ _ _ _ _ _ = _
 unfold reel_checkOne.f secErr
 rw [or3 (fun q => reel_checkOne.j0 (k + 1 + 1 + 1) q x.f0 x.f1 x.f2 x.f3 x.f4), one_j0]
theorem drop44 (l : List S44) (i : Nat) (h : i < l.length) : l.drop i = rd_T44 l i :: l.drop (i + 1) := by rw [rd44 l i h]; exact List.drop_eq_getElem_cons h
theorem ord_ends (l : List S44) (hl : l.length ≤ 512) : ∀ (d i : Nat) (e p : Int), l.length - i = d → i ≤ l.length → Ends (fun k => reel_Check.l1 k e p l (l.length : Int) (i : Int)) (ordErr e p (l.drop i)) := by
 intro d
 induction d with
 | zero =>
  intro i e p hd hi
  rw [List.drop_of_length_le (by omega)]
  refine Ends.succ ?_
  simp only [reel_Check.l1]
  exact Ends.neg (by omega) (Ends.ret _)
 | succ d ih =>
  intro i e p hd hi
  rw [drop44 l i (by omega)]
  refine Ends.succ ?_
  simp only [reel_Check.l1, ordErr]
  refine Ends.pos (by omega) (Ends.pos (by omega) (Ends.pos (by omega) ?_))
  by_cases h1 : (rd_T44 l i).f0 = e
  ·refine Ends.pos h1 ?_
   by_cases h2 : (rd_T44 l i).f4 < p
   ·rw [if_neg (fun h => h.2 h2)]; exact Ends.pos h2 (Ends.ret _)
   ·rw [if_pos ⟨h1, h2⟩, wrap_nat i (by omega)]; exact Ends.neg h2 (ih (i + 1) _ _ (by omega) (by omega))
  ·rw [if_neg (fun h => h1 h.1)]; exact Ends.neg h1 (Ends.ret _)
theorem first_step (x : S44) (r : List S44) (q : Int) : (if firstErr (x :: r) = 0 then q else firstErr (x :: r)) = (if secErr x = 0 then (if firstErr r = 0 then q else firstErr r) else secErr x) := by
 simp only [firstErr]
 by_cases h : secErr x = 0
 ·simp only [if_pos h]
 ·simp only [if_neg h]
theorem first_ends (l : List S44) (hl : l.length ≤ 512) : ∀ (d i : Nat), l.length - i = d → i ≤ l.length → Ends (fun k => reel_Check.l0 k l l (l.length : Int) (i : Int)) (if firstErr (l.drop i) = 0 then ordErr 0 0 l else firstErr (l.drop i)) := by
 intro d
 induction d with
 | zero =>
  intro i hd hi
  rw [List.drop_of_length_le (by omega)]
  refine Ends.succ ?_
  simp only [reel_Check.l0]
  refine Ends.neg (by omega) ?_
  simpa [firstErr] using ord_ends l hl l.length 0 0 0 rfl (Nat.zero_le _)
 | succ d ih =>
  intro i hd hi
  rw [drop44 l i (by omega)]
  refine Ends.succ ?_
  rw [first_step]
  simp only [reel_Check.l0]
  refine Ends.pos (by omega) (Ends.pos (by omega) (Ends.pos (by omega) (Ends.bind (one_ends _) ?_)))
  by_cases h1 : secErr (rd_T44 l i) = 0
  ·rw [if_pos h1, wrap_nat i (by omega)]; exact Ends.pos h1 (ih (i + 1) (by omega) (by omega))
  ·rw [if_neg h1]; exact Ends.neg h1 (Ends.ret _)
theorem check_ends (l : List S44) : Ends (fun k => reel_Check.f k l) (checkOf l) := by
 simp only [reel_Check.f, checkOf]
 by_cases h : l.length > 512
 ·rw [if_pos h]; exact Ends.pos (by omega) (Ends.ret _)
 ·rw [if_neg h]; exact Ends.neg (by omega) (by simpa using first_ends l (by omega) l.length 0 rfl (Nat.zero_le _))
theorem first_all : ∀ {l : List S44}, firstErr l = 0 → ∀ x ∈ l, secErr x = 0
 | [], _, x, hx => by simp at hx
 | y :: r, h, x, hx => by
  unfold firstErr at h
  split at h
  ·rcases List.mem_cons.1 hx with rfl | hx
   ·assumption
   ·exact first_all h x hx
  ·contradiction
theorem endOf_le {l : List S44} (h : checkOf l = 0) : endOf l ≤ 17179869184 := by
 unfold endOf
 split
 ·omega
 ·rename_i h0
  have hf : firstErr l = 0 := by
   unfold checkOf at h
   split at h
   ·cases h
   ·split at h
    ·assumption
    ·contradiction
  have hm : rd_T44 l ((l.length - 1 : Nat) : Int) ∈ l := by rw [rd44 l _ (by omega)]; exact List.getElem_mem _
  have := first_all hf _ hm
  unfold secErr at this
  split at this
  ·cases this
  ·omega
def partsAns (l : List S44) (a b : Int) : List S44 × Int := if checkOf l = 0 then (if a < 0 ∨ a > b ∨ b > endOf l then ([], 1) else (partsOf a b l, 0)) else ([], checkOf l)
theorem parts_ends (l : List S44) (a b : Int) : Ends (fun k => reel_Parts.f k l a b) (partsAns l a b) := by
 unfold reel_Parts.f partsAns
 refine Ends.bind (check_ends l) ?_
 by_cases h1 : checkOf l = 0
 ·simp only [if_pos h1]
  by_cases h2 : a < 0 ∨ a > b ∨ b > endOf l
  ·simp only [if_pos h2]; exact Ends.ret _
  ·simp only [if_neg h2]; exact Ends.ret _
 ·simp only [if_neg h1]; exact Ends.ret _
def chain : Int → List S44 → Prop
 | _, [] => True
 | e, x :: r => x.f0 = e ∧ e < x.f1 ∧ chain x.f1 r
def fin44 : Int → List S44 → Int
 | e, [] => e
 | _, x :: r => fin44 x.f1 r
theorem chain_le : ∀ {l : List S44} {e : Int}, chain e l → e ≤ fin44 e l ∧ ∀ x ∈ l, e ≤ x.f0 ∧ x.f0 < x.f1
 | [], e, _ => ⟨Int.le_refl _, by simp⟩
 | x :: r, e, h => by
  obtain ⟨h1, h2, h3⟩ := h
  obtain ⟨i1, i2⟩ := chain_le h3
  refine ⟨by show e ≤ fin44 x.f1 r; omega, fun y hy => ?_⟩
  rcases List.mem_cons.1 hy with rfl | hy
  ·omega
  ·have := i2 y hy; omega
theorem chain_of : ∀ {l : List S44} {e p : Int}, firstErr l = 0 → ordErr e p l = 0 → chain e l
 | [], _, _, _, _ => trivial
 | x :: r, e, p, h1, h2 => by
  have hx := first_all h1 x (by simp)
  have hb : x.f0 < x.f1 := by
   unfold secErr at hx
   split at hx
   ·cases hx
   ·omega
  have hr : firstErr r = 0 := by
   unfold firstErr at h1
   rw [if_pos hx] at h1
   exact h1
  unfold ordErr at h2
  split at h2
  ·rename_i h3
   exact ⟨h3.1, by omega, chain_of hr h2⟩
  ·cases h2
theorem fin44_end : ∀ (l : List S44) (e : Int), l ≠ [] → fin44 e l = (rd_T44 l ((l.length - 1 : Nat) : Int)).f1
 | [], _, h => absurd rfl h
 | [x], e, _ => rfl
 | x :: y :: r, e, _ => by
  have := fin44_end (y :: r) x.f1 (by simp)
  rw [fin44, this]
  rw [rd44 _ _ (by simp), rd44 _ _ (by simp)]
  simp
theorem endOf_fin (l : List S44) : endOf l = fin44 0 l := by
 unfold endOf
 split
 ·rename_i h; rw [List.length_eq_zero_iff.1 h]; rfl
 ·rename_i h; rw [fin44_end l 0 (fun e => h (by rw [e]; rfl))]
theorem checkOf_zero {l : List S44} (h : checkOf l = 0) : l.length ≤ 512 ∧ firstErr l = 0 ∧ chain 0 l := by
 unfold checkOf at h
 split at h
 ·cases h
 ·split at h
  ·rename_i h1 h2
   exact ⟨by omega, h2, chain_of h2 h⟩
  ·contradiction
theorem sec_bounds {x : S44} (h : secErr x = 0) : 0 ≤ x.f0 ∧ x.f0 < x.f1 ∧ x.f1 ≤ 17179869184 := by
 unfold secErr at h
 split at h
 ·cases h
 ·omega
theorem sec_cut {x : S44} {a b : Int} (hx : secErr x = 0) (ha : 0 ≤ a) (hb : b ≤ 17179869184) (hab : a ≤ b) : (cutSec a b x).f0 = mx x.f0 a - a ∧ (cutSec a b x).f1 = mn x.f1 b - a ∧ ((cutSec a b x).f0 < (cutSec a b x).f1 ↔ (a < b ∧ x.f0 < b ∧ a < x.f1)) := by
 obtain ⟨h1, h2, h3⟩ := sec_bounds hx
 have e1 : (cutSec a b x).f0 = mx x.f0 a - a := by
  show wrap64 (mx x.f0 a - a) = _
  unfold mx wrap64; split <;> omega
 have e2 : (cutSec a b x).f1 = mn x.f1 b - a := by
  show wrap64 (mn x.f1 b - a) = _
  unfold mn wrap64; split <;> omega
 refine ⟨e1, e2, ?_⟩
 rw [e1, e2]
 unfold mx mn
 split <;> split <;> omega
def lostStep (out : List S36) (x : S44) : List S36 := if x.f2 = 3 then push out x.f0 x.f1 else out
def lostOf (l : List S44) : List S36 := l.foldl lostStep []
theorem lostStep_len (out : List S36) (x : S44) : (lostStep out x).length ≤ out.length + 1 := by
 unfold lostStep
 split
 ·exact push_len _ _ _
 ·omega
theorem last_eq (x5 : List S36) (h0 : x5.length ≠ 0) (c d : Int) : push x5 c d = if (rd_T36 x5 ((x5.length - 1 : Nat) : Int)).f1 = c then x5.set (x5.length - 1) ⟨(rd_T36 x5 ((x5.length - 1 : Nat) : Int)).f0, d⟩ else x5 ++ [⟨c, d⟩] := by
 unfold push
 rw [getLast_rd x5 h0]
 simp only [dropLast_set x5 h0]
theorem wrap_len (x5 : List S36) (h : x5.length < 4000000000000000000) (h0 : x5.length ≠ 0) : wrap64 ((x5.length : Int) - 1) = ((x5.length - 1 : Nat) : Int) := by unfold wrap64; omega
theorem lost_l0 (l : List S44) (hl : l.length ≤ 512) : ∀ (d i : Nat) (out : List S36), l.length - i = d → i ≤ l.length → out.length + d < 1000000 → Ends (fun k => reel_Lost.l0 k out l (l.length : Int) (i : Int)) ((l.drop i).foldl lostStep out, 0) := by
 intro d
 induction d with
 | zero =>
  intro i out hd hi ho
  rw [List.drop_of_length_le (by omega)]
  refine Ends.succ ?_
  simp only [reel_Lost.l0]
  exact Ends.neg (by omega) (Ends.ret _)
 | succ d ih =>
  intro i out hd hi ho
  rw [drop44 l i (by omega), List.foldl_cons]
  refine Ends.succ ?_
  have hs := lostStep_len out (rd_T44 l i)
  have := ih (i + 1) (lostStep out (rd_T44 l i)) (by omega) (by omega) (by omega)
  simp only [reel_Lost.l0, wrap_nat i (by omega)]
  refine Ends.pos (by omega) (Ends.pos (by omega) (Ends.pos (by omega) ?_))
  by_cases h3 : (rd_T44 l i).f2 = 3
  ·refine Ends.pos h3 ?_
   rw [lostStep, if_pos h3] at this ⊢
   by_cases h0 : out.length = 0
   ·have e : out = [] := List.length_eq_zero_iff.1 h0
    subst e
    exact Ends.neg (by simp) (Ends.pos (by simp) this)
   ·refine Ends.pos (by omega) ?_
    rw [last_eq out h0] at this ⊢
    simp only [wrap_len out (by omega) h0, Int.toNat_natCast]
    refine Ends.pos (by omega) (Ends.pos (by omega) ?_)
    by_cases h4 : (rd_T36 out ((out.length - 1 : Nat) : Int)).f1 = (rd_T44 l i).f0
    ·rw [if_pos h4] at this ⊢
     exact Ends.pos h4 this
    ·rw [if_neg h4] at this ⊢
     exact Ends.neg h4 (Ends.pos (by omega) this)
  ·refine Ends.neg h3 ?_
   rw [lostStep, if_neg h3] at this ⊢
   exact this
structure LostIn (e : Int) (i : Nat) (out : List S36) : Prop where
 s : sep (-1) out
 le : ∀ t ∈ out, t.f1 ≤ e
 two : 2 * out.length ≤ i + 1
 one : (∀ t ∈ out, t.f1 ≠ e) → 2 * out.length ≤ i
theorem push_two (out : List S36) (c d : Int) : (∃ t ∈ out, t.f1 = c) ∧ (push out c d).length = out.length ∨ (push out c d).length = out.length + 1 ∧ (out = [] ∨ ∃ i s, out = i ++ [s] ∧ s.f1 ≠ c) := by
 by_cases h0 : out = []
 ·subst h0; exact .inr ⟨rfl, .inl rfl⟩
 ·obtain ⟨i, s, rfl⟩ : ∃ i s, out = i ++ [s] := ⟨out.dropLast, out.getLast h0, (List.dropLast_concat_getLast _).symm⟩
  by_cases h5 : s.f1 = c
  ·exact .inl ⟨⟨s, by simp, h5⟩, by simp [push, h5]⟩
  ·exact .inr ⟨by simp [push, h5], .inr ⟨i, s, rfl, h5⟩⟩
theorem LostIn.step {e : Int} {i : Nat} {out : List S36} (h : LostIn e i out) (x : S44) (he : 0 ≤ e) (h0 : x.f0 = e) (h1 : e < x.f1) : LostIn x.f1 (i + 1) (lostStep out x) := by
 unfold lostStep
 split
 ·obtain ⟨p1, p2, p3⟩ := push_ok (c := x.f0) (d := x.f1) h.s (fun t ht => by rw [h0]; exact h.le t ht) (by omega) (by omega)
  have ht := h.two
  refine ⟨p1, p2, ?_, fun hn => ?_⟩
  ·rcases push_two out x.f0 x.f1 with ⟨_, k⟩ | ⟨k, k2⟩
   ·omega
   ·have : 2 * out.length ≤ i := by
     refine h.one (fun t ht' hte => ?_)
     rcases k2 with rfl | ⟨j, s, rfl, k3⟩
     ·simp at ht'
     ·obtain ⟨q1, q2, q3, q4⟩ := sep_init h.s
      rcases List.mem_append.1 ht' with ht' | ht'
      ·have := q2 t ht'
       have := h.le s (by simp)
       omega
      ·rw [List.mem_singleton.1 ht'] at hte
       exact k3 (by omega)
    omega
  ·exfalso
   have hm : Mem (push out x.f0 x.f1) (x.f1 - 1) := (p3 _).2 (.inr ⟨by omega, by omega⟩)
   obtain ⟨t, ht', k1, k2⟩ := hm
   have := p2 t ht'
   exact hn t ht' (by omega)
 ·have ht := h.two
  exact ⟨h.s, fun t ht' => by have := h.le t ht'; omega, by omega, fun _ => by omega⟩
theorem LostIn.all : ∀ (l : List S44) (e : Int) (i : Nat) (out : List S36), LostIn e i out → 0 ≤ e → chain e l → LostIn (fin44 e l) (i + l.length) (l.foldl lostStep out)
 | [], e, i, out, h, _, _ => h
 | x :: r, e, i, out, h, he, hc => by
  have := LostIn.all r x.f1 (i + 1) _ (h.step x he hc.1 hc.2.1) (by have := hc.2.1; omega) hc.2.2
  rw [List.foldl_cons]
  rw [show i + (x :: r).length = i + 1 + r.length from by simp; omega]
  exact this
theorem lost_in {l : List S44} (h : checkOf l = 0) : LostIn (fin44 0 l) l.length (lostOf l) := by
 have := LostIn.all l 0 0 [] ⟨trivial, by simp, by simp, by simp⟩ (Int.le_refl _) (checkOf_zero h).2.2
 simpa [lostOf] using this
theorem sep_each : ∀ {l : List S36} {e : Int}, sep e l → ∀ s ∈ l, e < s.f0 ∧ s.f0 < s.f1
 | [], e, _, s, h => by simp at h
 | x :: r, e, h, s, hs => by
  rcases List.mem_cons.1 hs with rfl | hs
  ·exact ⟨h.1, h.2.1⟩
  ·have := sep_each h.2.2 s hs
   have := h.1; have := h.2.1; omega
theorem lost_ends (l : List S44) (h : checkOf l = 0) : Ends (fun k => reel_Lost.f k l) (lostOf l, 0) := by
 unfold reel_Lost.f
 refine Ends.bind (check_ends l) (Ends.pos h ?_)
 have hl := (checkOf_zero h).1
 simpa [lostOf] using lost_l0 l hl l.length 0 [] rfl (Nat.zero_le _) (by simp; omega)
def gradeAns (l : List S44) (a b : Int) : Int × Bool × Int := if (partsAns l a b).2 = 0 then (if (partsAns l a b).1.length = 0 then (-1, false, 0) else ((gradeOf (partsAns l a b).1).1, (gradeOf (partsAns l a b).1).2, 0)) else (0, false, (partsAns l a b).2)
theorem grade_ends (l : List S44) (a b : Int) : Ends (fun k => reel_Grade.f k l a b) (gradeAns l a b) := by
 unfold reel_Grade.f gradeAns
 refine Ends.bind (parts_ends l a b) ?_
 by_cases h1 : (partsAns l a b).2 = 0
 ·simp only [if_pos h1]
  by_cases h2 : (partsAns l a b).1.length = 0
  ·simp only [if_pos h2]; exact Ends.ret _
  ·simp only [if_neg h2]; exact Ends.ret _
 ·simp only [if_neg h1]; exact Ends.ret _
theorem lost_mem : ∀ (l : List S44) (e : Int) (i : Nat) (out : List S36), LostIn e i out → 0 ≤ e → chain e l → ∀ x, Mem (l.foldl lostStep out) x ↔ Mem out x ∨ ∃ y ∈ l, y.f2 = 3 ∧ y.f0 ≤ x ∧ x < y.f1
 | [], e, i, out, h, _, _, x => by simp
 | y :: r, e, i, out, h, he, hc, x => by
  have h1 := lost_mem r y.f1 (i + 1) _ (h.step y he hc.1 hc.2.1) (by have := hc.2.1; omega) hc.2.2 x
  rw [List.foldl_cons, h1]
  have h2 : Mem (lostStep out y) x ↔ Mem out x ∨ (y.f2 = 3 ∧ y.f0 ≤ x ∧ x < y.f1) := by
   unfold lostStep
   have e0 := hc.1
   have e1 := hc.2.1
   split
   ·rename_i h3
    rw [(push_ok (c := y.f0) (d := y.f1) h.s (fun t ht => by rw [e0]; exact h.le t ht) (by omega) (by omega)).2.2 x]
    simp [h3]
   ·rename_i h3
    simp [h3]
  rw [h2]
  constructor
  ·rintro ((h3 | h3) | ⟨z, hz, h3⟩)
   ·exact .inl h3
   ·exact .inr ⟨y, by simp, h3⟩
   ·exact .inr ⟨z, by simp [hz], h3⟩
  ·rintro (h3 | ⟨z, hz, h3⟩)
   ·exact .inl (.inl h3)
   ·rcases List.mem_cons.1 hz with rfl | hz
    ·exact .inl (.inr h3)
    ·exact .inr ⟨z, hz, h3⟩
theorem lostOf_mem {l : List S44} (h : checkOf l = 0) (x : Int) : Mem (lostOf l) x ↔ ∃ y ∈ l, y.f2 = 3 ∧ y.f0 ≤ x ∧ x < y.f1 := by
 have := lost_mem l 0 0 [] ⟨trivial, by simp, by simp, by simp⟩ (Int.le_refl _) (checkOf_zero h).2.2 x
 simpa [lostOf, Mem] using this
theorem comb_len (a : List S36) (s : S36) (e : Int) (he : ∀ t ∈ a, e < t.f0 ∧ t.f0 ≤ t.f1) (hs : e < s.f0 ∧ s.f0 ≤ s.f1) : (combOf a [s] 1).length ≤ a.length + 1 ∧ sep e (combOf a [s] 1) ∧ ∀ x, Mem (combOf a [s] 1) x ↔ Mem a x ∧ s.f0 ≤ x ∧ x < s.f1 := by
 obtain ⟨k1, k2⟩ := comb_ok a [s] 1 (.inr (.inl rfl)) e (fun t ht => by
  rcases ht with ht | ht
  ·exact he t ht
  ·rw [List.mem_singleton.1 ht]; exact hs)
 have k3 : ∀ x, Mem (combOf a [s] 1) x ↔ Mem a x ∧ s.f0 ≤ x ∧ x < s.f1 := fun x => by
  rw [k2 x]
  have e2 : hasOf [s] x = decide (s.f0 ≤ x ∧ x < s.f1) := by simp [hasOf]
  have e1 := hasOf_iff a x
  unfold keeps
  rw [e2, ← e1]
  cases hasOf a x <;> simp [skips]
 refine ⟨?_, k1, k3⟩
 have := sub_len ((combOf a [s] 1).map fun s => s.f0) ((a.map fun s => s.f0) ++ [s.f0]) (sep_starts k1) (fun z hz => by
  obtain ⟨t, ht, rfl⟩ := List.mem_map.1 hz
  have hin := sep_in k1 t ht
  obtain ⟨⟨u, hu, u1, u2⟩, v1, v2⟩ := (k3 t.f0).1 ⟨t, ht, Int.le_refl _, hin.2⟩
  refine List.mem_append.2 ?_
  by_cases k : u.f0 = t.f0
  ·exact .inl (List.mem_map.2 ⟨u, hu, k⟩)
  ·by_cases k' : s.f0 = t.f0
   ·exact .inr (by simp [k'])
   ·exact absurd ((k3 (t.f0 - 1)).2 ⟨⟨u, hu, by omega, by omega⟩, by omega, by omega⟩) (sep_before k1 t ht))
 simpa using this
def isLost (x : S44) : Bool := x.f2 == 3
theorem lost_any {l : List S44} {a b : Int} (h : checkOf l = 0) (ha : 0 ≤ a) (hb : b ≤ 17179869184) (hab : a ≤ b) : (partsOf a b l).any isLost = true ↔ ∃ y ∈ l, y.f2 = 3 ∧ a < b ∧ y.f0 < b ∧ a < y.f1 := by
 obtain ⟨hl, hf, hc⟩ := checkOf_zero h
 rw [List.any_eq_true]
 constructor
 ·rintro ⟨y, hy, h1⟩
  obtain ⟨hy1, hy2⟩ := List.mem_filter.1 hy
  obtain ⟨z, hz, rfl⟩ := List.mem_map.1 hy1
  rw [decide_eq_true_eq] at hy2
  exact ⟨z, hz, by simpa [isLost, cutSec] using h1, ((sec_cut (first_all hf z hz) ha hb hab).2.2).1 hy2⟩
 ·rintro ⟨z, hz, h1, h2⟩
  exact ⟨cutSec a b z, List.mem_filter.2 ⟨List.mem_map.2 ⟨z, hz, rfl⟩, by rw [decide_eq_true_eq]; exact ((sec_cut (first_all hf z hz) ha hb hab).2.2).2 h2⟩, by simpa [isLost, cutSec] using h1⟩
theorem lost_common {l : List S44} {a b : Int} (h : checkOf l = 0) (hl : l.length ≤ 300) (ha : 0 ≤ a) (hb : b ≤ 17179869184) (hab : a ≤ b) : ∃ c, bothOf (lostOf l) [⟨a, b⟩] 1 = (c, 0) ∧ ((partsOf a b l).any isLost == decide ((c.length : Int) > 0)) = true := by
 obtain ⟨hl2, hf, hc⟩ := checkOf_zero h
 have hi := lost_in h
 have hs := sep_each hi.s
 have he := endOf_le h
 rw [endOf_fin] at he
 have h2 := hi.two
 have c1 : check04 (lostOf l) = 0 := by
  unfold check04
  rw [if_neg (by omega), if_neg]
  rintro ⟨s, hs', hb'⟩
  have k1 := hs s hs'
  have k2 := hi.le s hs'
  unfold badS at hb'
  omega
 have c2 : check04 [(⟨a, b⟩ : S36)] = 0 := by
  unfold check04
  rw [if_neg (by simp), if_neg]
  rintro ⟨s, hs', hb'⟩
  rw [List.mem_singleton.1 hs'] at hb'
  unfold badS at hb'
  simp only at hb'
  omega
 obtain ⟨n1, n2, n3⟩ := comb_len (lostOf l) ⟨a, b⟩ (-1) (fun t ht => by have := hs t ht; omega) ⟨by simp only; omega, hab⟩
 refine ⟨combOf (lostOf l) [⟨a, b⟩] 1, by unfold bothOf; rw [if_pos c1, if_pos c2, if_neg (by omega)], ?_⟩
 rw [beq_iff_eq, Bool.eq_iff_iff, lost_any h ha hb hab, decide_eq_true_eq]
 generalize combOf (lostOf l) [⟨a, b⟩] 1 = c at n1 n2 n3
 constructor
 ·rintro ⟨y, hy, h3, h4, h5, h6⟩
  have hlo := (chain_le hc).2 y hy
  have : Mem c (if y.f0 < a then a else y.f0) := (n3 _).2 ⟨(lostOf_mem h _).2 ⟨y, hy, h3, by split <;> omega, by split <;> omega⟩, by simp only; split <;> omega, by simp only; split <;> omega⟩
  obtain ⟨s, hs', _⟩ := this
  have := List.length_pos_of_mem hs'
  omega
 ·intro h3
  cases c with
  | nil => simp at h3
  | cons s r =>
   have hin := sep_in n2 s (by simp)
   obtain ⟨hm, v1, v2⟩ := (n3 s.f0).1 ⟨s, by simp, Int.le_refl _, hin.2⟩
   obtain ⟨y, hy, y1, y2, y3⟩ := (lostOf_mem h _).1 hm
   simp only at v1 v2
   exact ⟨y, hy, y1, by omega, by omega, by omega⟩
theorem grade_all (g0 : Int) : ∀ (p : List S44) (g : Int) (b : Bool), (p.foldl (gradeStep g0) (g, b)).2 = (b && p.all fun x => x.f2 == 1)
 | [], g, b => by simp
 | x :: r, g, b => by
  rw [List.foldl_cons, gradeStep, grade_all g0 r]
  simp [Bool.and_assoc]
theorem prime_lost (p : List S44) (h : (gradeOf p).2 = true) : p.any isLost = false := by
 unfold gradeOf at h
 rw [grade_all] at h
 simp only [Bool.true_and, List.all_eq_true, beq_iff_eq] at h
 rw [Bool.eq_false_iff]
 intro h1
 obtain ⟨x, hx, h2⟩ := List.any_eq_true.1 h1
 have := h x hx
 simp [isLost, this] at h2
theorem rl_l0 (L : List S36) (p : List S44) (hp : p.length ≤ 1000) (a b : Int) (pr : Bool) (c : List S36) (hc : bothOf L [⟨a, b⟩] 1 = (c, 0)) (h1 : (p.any isLost == decide ((c.length : Int) > 0)) = true) (h2 : pr = true → p.any isLost = false) : ∀ (d i : Nat) (z : Bool), p.length - i = d → i ≤ p.length → z = (p.take i).any isLost → Ends (fun k => papermilllaw34_ReelLost.l0 k L p pr 0 z (i : Int) a b) true := by
 intro d
 induction d with
 | zero =>
  intro i z hd hi hz
  rw [List.take_of_length_le (by omega)] at hz
  subst hz
  refine Ends.succ ?_
  simp only [papermilllaw34_ReelLost.l0]
  refine Ends.neg (by omega) (Ends.bind (common_ends L [⟨a, b⟩]) ?_)
  rw [hc]
  refine Ends.pos (by trivial) (Ends.pos (by trivial) (Ends.pos h1 ?_))
  cases pr with
  | true => exact Ends.pos (by trivial) (Ends.neg (by rw [h2 rfl]; simp) (Ends.bind (Ends.ret _) (Ends.ret _)))
  | false => exact Ends.neg (by simp) (Ends.bind (Ends.ret _) (Ends.ret _))
 | succ d ih =>
  intro i z hd hi hz
  have ht : p.take (i + 1) = p.take i ++ [rd_T44 p i] := by rw [List.take_succ_eq_append_getElem (by omega), rd44 p i (by omega)]
  refine Ends.succ ?_
  simp only [papermilllaw34_ReelLost.l0, wrap_nat i (by omega)]
  refine Ends.pos (by omega) ?_
  cases z with
  | true => exact Ends.pos rfl (ih (i + 1) true (by omega) (by omega) (by rw [ht, List.any_append, ← hz]; simp))
  | false => exact Ends.neg (by simp) (Ends.pos (by omega) (ih (i + 1) _ (by omega) (by omega) (by rw [ht, List.any_append, ← hz]; simp [isLost])))
theorem lost_ans (l : List S44) : Ends (fun k => reel_Lost.f k l) (if checkOf l = 0 then (lostOf l, 0) else ([], checkOf l)) := by
 by_cases h : checkOf l = 0
 ·rw [if_pos h]; exact lost_ends l h
 ·rw [if_neg h]
  unfold reel_Lost.f
  exact Ends.bind (check_ends l) (Ends.neg h (Ends.ret _))
theorem ReelLost : ∀ (l0 : List (S44)) (a1_0 : Int) (a1_1 : Int), (l0.length ≤ maxLen ∧ ∀ x ∈ l0, wf_44 x) → (Lit.int .i64 a1_0).wf = true → (Lit.int .i64 a1_1).wf = true → ∃ k, papermilllaw34_ReelLost.f k l0 a1_0 a1_1 = some true := by
 intro l a b _ _ _
 refine Ends.get ?_
 unfold papermilllaw34_ReelLost.f
 by_cases h : (l.length : Int) > 300
 ·exact Ends.pos h (Ends.bind (Ends.ret _) (Ends.ret _))
 ·refine Ends.neg h (Ends.bind (lost_ans l) (Ends.bind (parts_ends l a b) (Ends.bind (grade_ends l a b) ?_)))
  have hj : ∀ L p pr g, Ends (fun k => papermilllaw34_ReelLost.j0 k L p g pr g true a b) true := fun L p pr g => by
   refine Ends.succ ?_
   simp only [papermilllaw34_ReelLost.j0]
   exact Ends.pos (by trivial) (Ends.pos (by trivial) (Ends.bind (Ends.ret _) (Ends.ret _)))
  unfold gradeAns partsAns
  by_cases hc : checkOf l = 0
  ·simp only [if_pos hc]
   refine Ends.pos (by trivial) ?_
   by_cases hr : a < 0 ∨ a > b ∨ b > endOf l
   ·simp only [if_pos hr]
    exact hj _ _ _ _
   ·simp only [if_neg hr]
    have he := endOf_le hc
    obtain ⟨c, c1, c2⟩ := lost_common hc (by omega) (a := a) (b := b) (by omega) (by omega) (by omega)
    have hp : (partsOf a b l).length ≤ 1000 := by have := partsOf_len a b l; omega
    have hgo : ∀ pr : Bool, (pr = true → (partsOf a b l).any isLost = false) → Ends (fun k => papermilllaw34_ReelLost.j0 k (lostOf l) (partsOf a b l) 0 pr 0 false a b) true := fun pr hpr => by
     refine Ends.succ ?_
     simp only [papermilllaw34_ReelLost.j0]
     exact Ends.neg (by simp) (rl_l0 (lostOf l) (partsOf a b l) hp a b pr c c1 c2 hpr _ 0 false rfl (Nat.zero_le _) (by simp))
    by_cases h0 : (partsOf a b l).length = 0
    ·simp only [if_pos h0, if_true]
     exact hgo false (by simp)
    ·simp only [if_neg h0, if_true]
     exact hgo _ (prime_lost _)
  ·simp only [if_neg hc]
   exact hj _ _ _ _
end Go.Proofs.Ytfdfpdiemeomiaa.G

namespace Go.Proofs.Ytfdfpdiemeomiaa.reelLost
open Go.ChangeShapes Go.WideShapes Go.ChangeAt Go.RowKit Go.Proofs.YtfdfpdiemeomiaaW.PrintWords Go.Proofs.YtfdfpdiemeomiaaW.PrintLast Go.Proofs.Ytfdfpdiemeomiaa.G
open Go.ChangeMaps (open_string shut_string)
set_option linter.unusedVariables false
set_option linter.unusedSimpArgs false
theorem own : ownKnob Try.prog.godebug = none := by kernel_rfl
theorem laidOut : laidOutB Try.prog = true := by kernel_rfl
set_option maxRecDepth 100000 in
theorem lifted (os : Os) (started : os.Started) (H : Type) (enc : TypeId × Value → H) :
  ReturnsInHanded {} Try.checked os 10 .any (Rows.reelLostSpec.pre6 enc Try.prog Try.f10 Rows.reelLostRow.domain false) (Rows.reelLostSpec.post enc Try.prog Try.f10 false true false false) := by
 refine returnsInHanded_of_change_sized (C := Try.checked) own started (by kernel_rfl) Try.func10
  (ChangeSpec.witness6 (enc := enc) (C := Try.checked) false ⟨#[], #[.slice none 0 0, .agg #[.int .i64 0, .int .i64 0]], []⟩ 8 (by kernel_rfl) (by kernel_rfl) (by kernel_rfl) (by kernel_rfl)) ?_
 intro W base args ds gs before hval0 hW hcnd hsz0 _
 have hval : ∀ (j : Nat) t v, Try.f10.params[j]? = some t → args[j]? = some v → Value.okWide Try.prog W .any base t v := hval0
 have hW' := hW
 obtain ⟨p, q, hA0, hV, rfl, hfz, hnd⟩ := hW
 have hA : DataW.TrodAll enc Try.prog W 0 (fun _ => true) true Try.f10.params.toList args.toList ds p := hA0
 rw [Try.params10] at hA hval
 obtain ⟨v0, vs0, d0, ds0, p0, q0, hargs, rfl, rfl, h0, r0⟩ := trodAll_cons hA
 obtain ⟨v1, vs1, d1, ds1, p1, q1, rfl, rfl, rfl, h1, r1⟩ := trodAll_cons r0
 obtain ⟨rfl, rfl, rfl⟩ := trodAll_nil r1
 obtain rfl : args = #[v0, v1] := by cases args; simp_all
 obtain ⟨rfl, rfl⟩ := trodVars_none hV
 have k0 := h0
 have lt0 : ∀ x ∈ p0, x.block < W.heap.size := by obtain ⟨m, hm⟩ := k0; exact DataW.trod_lt m _ _ _ hm
 obtain ⟨a0, len0, cap0, rfl⟩ := okWide_slice Try.underlying22 (hval 0 22 v0 rfl rfl)
 obtain ⟨l0, ⟨A0, c0, hcs0, hlc0, hC0⟩, hw0⟩ : ∃ l, ((Kd.slice 44 k44)).K W l [.slice a0 len0 cap0] ∧ (l.length ≤ maxLen ∧ ∀ x ∈ l, wf_44 x) := by
  obtain ⟨fuel, hf⟩ := k0
  exact (Opens.slice Try.underlying22 (by kernel_rfl) opens_44) enc W fuel _ _ hf
 simp only [List.cons.injEq, and_true, Value.slice.injEq] at hcs0
 obtain ⟨rfl, rfl, rfl⟩ := hcs0
 have k1 := h1
 have lt1 : ∀ x ∈ p1, x.block < W.heap.size := by obtain ⟨m, hm⟩ := k1; exact DataW.trod_lt m _ _ _ hm
 obtain ⟨cs1, rfl, _⟩ := okWide_struct Try.underlying36 (hval 1 36 v1 rfl rfl)
 obtain ⟨x1, hK1, hw1⟩ : ∃ x : S36, k36.K W x (Value.agg cs1).cells.toList ∧ wf_36 x := by
  obtain ⟨fuel, hf⟩ := k1
  exact opens_36 enc W fuel _ _ hf
 obtain ⟨a1_0, a1_1⟩ := x1
 have hcs1 := k36_open hK1
 obtain rfl : cs1 = #[.int .i64 a1_0, .int .i64 a1_1] := by obtain ⟨cs⟩ := cs1; simpa [Value.cells] using hcs1
 clear hA0 hval0 hsz0
 obtain ⟨k, hk⟩ := ReelLost l0 a1_0 a1_1 hw0 hw1.1 hw1.2
 refine (papermilllaw34_ReelLost.calls k _ _ l0 a1_0 a1_1 true W hC0 hlc0 hk).mono fun e W' he => ?_
 obtain ⟨he, bel⟩ := he
 subst he
 exact ⟨_, rfl, _, _, _, [], _, [], hW', trodAll_mk1 (shut_bool Try.underlying4 _), (trodAll_cons_mk (Below.trod laidOut (by kernel_rfl) (of_decide_eq_true (by kernel_rfl)) k0 bel lt0) (trodAll_cons_mk (Below.trod laidOut (by kernel_rfl) (of_decide_eq_true (by kernel_rfl)) k1 bel lt1) trodAll_mk0)), rfl, bel.frame _, fun h => by cases h⟩
theorem over : Rows.reelLostRow.holds Try.pinned (OpenSpec.ofChange Rows.reelLostSpec) :=
 OpenClaim.holds_of_wide 10 Try.f10 rfl rfl rfl rfl rfl rfl rfl ⟨rfl, rfl, rfl, rfl, rfl⟩ rfl rfl rfl rfl rfl (by kernel_rfl) Try.func10 (by kernel_rfl)
  (of_decide_eq_true (by kernel_rfl)) (by unfold Func.isWrapper; first | (rw [if_pos (by decide +kernel)]; kernel_rfl) | (rw [if_neg (by decide +kernel)]; exact ⟨rfl, rfl⟩))
  (fun os started H enc _ => lifted os started H enc)
theorem proved : Rows.ReelLostSaid := over
#print axioms proved
end Go.Proofs.Ytfdfpdiemeomiaa.reelLost
namespace Go.Proofs.Ytfdfpdiemeomiaa
theorem reelLost_holds : Rows.ReelLostSaid := reelLost.proved
end Go.Proofs.Ytfdfpdiemeomiaa
