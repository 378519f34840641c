import Derived.Test.YtalpegglbfobiaaQ1
import Derived.Deep.LoopGhost
import Derived.Sort.QuietIn
import Derived.Deep.Fields
import Derived.RangeFuncRecord
import Derived.StillTailTactics
namespace Go.Proofs.Ytalpegglbfobiaa.G
open Go.RowKit Go.Proofs.YtalpegglbfobiaaW.PrintWords Go.Proofs.YtalpegglbfobiaaW.PrintLast Go.Proofs.YtalpegglbfobiaaW.PrintMore
set_option linter.unusedVariables false
set_option linter.unusedSimpArgs false
section
variable {P : Program} {md : Region.Mode} {ops : Array Oper} {Q : Exit → Act → World → Prop} {S : World → Prop} {ds : List Nat} {T : Bool × List (List Nat × List Nat)} {B : List Nat} {fuel : Nat} {l : Array Bool} {a a' : Act} {w : World} {oi : Oper} {v : Value}
theorem pu_ (i : Nat) (N : Option Tmp) (hT : Aside0 (rtab md ops = T)) (h : wpAnyLast P md ops Q S ds fuel (l.setIfInBounds i true) a' w)
 (hi : ops[i]? = some oi := by rfl) (hN : oi.dst = N := by rfl) (hc : anyT T l.toList (l.toList.set i true) i = true := by kernel_rfl) (hw : Region.wanted oi (yielded ops a.tmps) = true := by rfl)
 (hy : ∀ w, (execOp a.eval oi).run P w = .ok (.value v) w := by (intro w'; go_simp; with_reducible rfl)) (hQ : ∀ c a w, Q (.panic c) (a.put oi.dst v) w → Q (.panic c) a w := by exact fun _ _ _ h => h)
 (ha : a.put N v = a' := by (simp only [Act.put, List.setIfInBounds_toArray, List.set_cons_zero, List.set_cons_succ, i64_w, i32_w]; rfl)) : wpAnyLast P md ops Q S ds (fuel + 1) l a w :=
 pure_ (l.setIfInBounds i true) hi hN (any_of hT.out (by rw [Array.toList_setIfInBounds]; exact hc)) hQ (.inl ⟨hw, hy⟩) ha h
theorem pn_ (i : Nat) (N : Option Tmp) (hT : Aside0 (rtab md ops = T)) (h : wpAnyLast P md ops Q S ds fuel (l.setIfInBounds i true) a' w)
 (hi : ops[i]? = some oi := by rfl) (hN : oi.dst = N := by rfl) (hc : anyT T l.toList (l.toList.set i true) i = true := by kernel_rfl) (hw : Region.wanted oi (yielded ops a.tmps) = false := by rfl)
 (hQ : ∀ c a w, Q (.panic c) (a.put oi.dst undef) w → Q (.panic c) a w := by exact fun _ _ _ h => h)
 (ha : a.put N undef = a' := by (simp only [Act.put, List.setIfInBounds_toArray, List.set_cons_zero, List.set_cons_succ, i64_w, i32_w]; rfl)) : wpAnyLast P md ops Q S ds (fuel + 1) l a w :=
 pure_ (l.setIfInBounds i true) hi hN (any_of hT.out (by rw [Array.toList_setIfInBounds]; exact hc)) hQ (.inr ⟨hw, rfl⟩) ha h
theorem tk_ (i : Nat) (N : Option Tmp) (hT : Aside0 (rtab md ops = T)) (hB : Aside0 (waitsOk T.2 B = true)) (hS : S w) (h : wpAnyLast P md ops Q S ds fuel (l.setIfInBounds i true) a' w)
 (hi : ops[i]? = some oi := by rfl) (hN : oi.dst = N := by rfl) (hc : takeW T B ds l.toList (l.toList.set i true) i = true := by kernel_rfl)
 (hy : YieldsIf P ops S oi v a) (hQ : ∀ c a w, Q (.panic c) (a.put oi.dst v) w → Q (.panic c) a w := by exact fun _ _ _ h => h)
 (ha : a.put N v = a' := by (simp only [Act.put, List.setIfInBounds_toArray, List.set_cons_zero, List.set_cons_succ, i64_w, i32_w]; rfl)) : wpAnyLast P md ops Q S ds (fuel + 1) l a w :=
 take_ (l.setIfInBounds i true) hi hN (take_ofW hT.out hB.out (by rw [Array.toList_setIfInBounds]; exact hc)) hQ hy hS ha h
theorem pv_ (i : Nat) (N : Option Tmp) (h : wpAnyLast P md ops Q S ds fuel (l.setIfInBounds i true) a' w)
 (hi : ops[i]? = some oi := by rfl) (hN : oi.dst = N := by rfl) (hc : anyB md ops l (l.setIfInBounds i true) i = true := by kernel_rfl) (hw : Region.wanted oi (yielded ops a.tmps) = true := by rfl)
 (hy : ∀ w, (execOp a.eval oi).run P w = .ok (.value v) w := by (intro w'; go_simp; with_reducible rfl)) (hQ : ∀ c a w, Q (.panic c) (a.put oi.dst v) w → Q (.panic c) a w := by exact fun _ _ _ h => h)
 (ha : a.put N v = a' := by (simp only [Act.put, List.setIfInBounds_toArray, List.set_cons_zero, List.set_cons_succ, i64_w, i32_w]; rfl)) : wpAnyLast P md ops Q S ds (fuel + 1) l a w :=
 pure_ (l.setIfInBounds i true) hi hN hc hQ (.inl ⟨hw, hy⟩) ha h
theorem tv_ (i : Nat) (N : Option Tmp) (hS : S w) (h : wpAnyLast P md ops Q S ds fuel (l.setIfInBounds i true) a' w)
 (hi : ops[i]? = some oi := by rfl) (hN : oi.dst = N := by rfl) (hc : takeB md ops ds l (l.setIfInBounds i true) i = true := by kernel_rfl)
 (hy : YieldsIf P ops S oi v a) (hQ : ∀ c a w, Q (.panic c) (a.put oi.dst v) w → Q (.panic c) a w := by exact fun _ _ _ h => h)
 (ha : a.put N v = a' := by (simp only [Act.put, List.setIfInBounds_toArray, List.set_cons_zero, List.set_cons_succ, i64_w, i32_w]; rfl)) : wpAnyLast P md ops Q S ds (fuel + 1) l a w :=
 take_ (l.setIfInBounds i true) hi hN hc hQ hy hS ha h
end
def Ends {α : Type} (g : Nat → Option α) (r : α) : Prop := ∃ n, ∀ k, n ≤ k → g k = some r
theorem Ends.const {α : Type} {a : Option α} {r : α} (h : a = some r) : Ends (fun _ => a) r := ⟨0, fun _ _ => h⟩
theorem Ends.ret {α : Type} (r : α) : Ends (fun _ => some r) r := ⟨0, fun _ _ => rfl⟩
theorem Ends.bind {α β : Type} {g : Nat → Option α} {f : Nat → α → Option β} {r : α} {q : β} (h : Ends g r) (k : Ends (fun k => f k r) q) : Ends (fun k => (g k).bind (f k)) q := by
 obtain ⟨n, h⟩ := h
 obtain ⟨m, k⟩ := k
 exact ⟨n + m, fun j hj => by show (g j).bind (f j) = _; rw [h j (by omega)]; exact k j (by omega)⟩
theorem Ends.pos {α : Type} {c : Prop} [Decidable c] {a b : Nat → Option α} {r : α} (hc : c) (h : Ends a r) : Ends (fun k => if c then a k else b k) r := by simpa only [if_pos hc] using h
theorem Ends.neg {α : Type} {c : Prop} [Decidable c] {a b : Nat → Option α} {r : α} (hc : ¬ c) (h : Ends b r) : Ends (fun k => if c then a k else b k) r := by simpa only [if_neg hc] using h
theorem Ends.succ {α : Type} {g : Nat → Option α} {r : α} (h : Ends (fun k => g (k + 1)) r) : Ends g r := by
 obtain ⟨n, h⟩ := h
 exact ⟨n + 1, fun k hk => by obtain ⟨j, rfl⟩ : ∃ j, k = j + 1 := ⟨k - 1, by omega⟩; exact h j (by omega)⟩
theorem Ends.get {α : Type} {g : Nat → Option α} {r : α} (h : Ends g r) : ∃ k, g k = some r := by obtain ⟨n, h⟩ := h; exact ⟨n, h n (Nat.le_refl _)⟩
theorem wrap_nat (i : Nat) (h : i < 4000000000000000000) : wrap64 ((i : Int) + 1) = ((i + 1 : Nat) : Int) := by unfold wrap64; omega
theorem wrap_pred (i : Nat) (h : i < 4000000000000000000) (h1 : 1 ≤ i) : wrap64 ((i : Int) - 1) = ((i - 1 : Nat) : Int) := by unfold wrap64; omega
theorem rdI (l : List Int) (i : Nat) (h : i < l.length) : rd l i = l[i] := by simp [rd, List.getD_eq_getElem?_getD, List.getElem?_eq_getElem h]
theorem Ends.at_ {α : Type} {g : Nat → Option α} {r : α} {k : Nat} (hg : ∀ k, LeO (g k) (g (k + 1))) (h : g k = some r) : Ends g r := ⟨k, fun j hj => at_rounds hg hj h⟩
theorem Ends.uniq {α : Type} {g : Nat → Option α} {r q : α} (h : Ends g r) (h2 : Ends g q) : r = q := by
 obtain ⟨n, h⟩ := h
 obtain ⟨m, h2⟩ := h2
 have e1 := h (n + m) (by omega)
 have e2 := h2 (n + m) (by omega)
 exact Option.some.inj (e1.symm.trans e2)
theorem Ends.congr {α : Type} {g : Nat → Option α} {r q : α} (h : Ends g r) (e : r = q) : Ends g q := e ▸ h
end Go.Proofs.Ytalpegglbfobiaa.G

namespace Go.Proofs.Ytalpegglbfobiaa.G
open Go.RowKit Go.Proofs.YtalpegglbfobiaaW.PrintWords Go.Proofs.YtalpegglbfobiaaW.PrintLast Go.Proofs.YtalpegglbfobiaaW.PrintMore
set_option linter.unusedVariables false
set_option linter.unusedSimpArgs false
def img (r : S44) (x : Int) : Int := if r.f2 = true then r.f0 - x else r.f0 + x
def partR (r : S44) (x n : Int) : S44 := ⟨img r x, n, r.f2 && decide (n > 1)⟩
def goes (r t : S44) : Int := r.f0 - img t (t.f1 - 1)
def joins (r t : S44) : Prop := (goes r t = 1 ∨ goes r t = -1) ∧ (t.f1 > 1 → decide (goes r t = -1) = t.f2)
instance (r t : S44) : Decidable (joins r t) := by unfold joins; infer_instance
def addR (r : S44) : List S44 → List S44
 | [] => [partR r 0 r.f1]
 | t :: d => if joins r t then (if r.f1 > 1 ∧ r.f2 ≠ decide (goes r t = -1) then partR r 1 (r.f1 - 1) :: ⟨t.f0, t.f1 + 1, decide (goes r t = -1)⟩ :: d else ⟨t.f0, t.f1 + r.f1, decide (goes r t = -1)⟩ :: d) else partR r 0 r.f1 :: t :: d
def addOf (l : List S44) (r : S44) : List S44 := if r.f1 < 1 then l else (addR r l.reverse).reverse
def imgs (r : S44) : List Int := (List.range r.f1.toNat).map fun (i : Nat) => img r i
def sem (l : List S44) : List Int := l.flatMap imgs
def one (l : List S44) (y : Int) : List S44 := addR ⟨y, 1, false⟩ l
def nrm (xs : List Int) : List S44 := (xs.foldl one []).reverse
def okR (t : S44) : Prop := 1 ≤ t.f1 ∧ (t.f1 = 1 → t.f2 = false)
theorem SR_ext {a b : S44} (h0 : a.f0 = b.f0) (h1 : a.f1 = b.f1) (h2 : a.f2 = b.f2) : a = b := by cases a; cases b; simp_all
theorem addR_ok (r : S44) (h : 1 ≤ r.f1) : ∀ l : List S44, (∀ t ∈ l, okR t) → ∀ t ∈ addR r l, okR t
 | [], hl => by
  intro t ht
  simp only [addR, List.mem_singleton] at ht
  subst ht
  exact ⟨h, fun e => by simp only [partR] at e ⊢; rw [e]; simp⟩
 | t :: d, hl => by
  intro u hu
  have ht := hl t (by simp)
  simp only [addR] at hu
  split at hu
  ·split at hu
   ·simp only [List.mem_cons] at hu
    rcases hu with rfl | rfl | hu
    ·exact ⟨by simp only [partR]; omega, fun e => by simp only [partR] at e ⊢; rw [e]; simp⟩
    ·exact ⟨by have := ht.1; dsimp only; omega, fun e => by have := ht.1; dsimp only at e; omega⟩
    ·exact hl u (by simp [hu])
   ·simp only [List.mem_cons] at hu
    rcases hu with rfl | hu
    ·exact ⟨by have := ht.1; dsimp only; omega, fun e => by have := ht.1; dsimp only at e; omega⟩
    ·exact hl u (by simp [hu])
  ·simp only [List.mem_cons] at hu
   rcases hu with rfl | hu
   ·exact ⟨h, fun e => by simp only [partR] at e ⊢; rw [e]; simp⟩
   ·exact hl u (by simpa using hu)
theorem addR_len (r : S44) : ∀ l : List S44, (addR r l).length ≤ l.length + 1
 | [] => by simp [addR]
 | t :: d => by simp only [addR]; split <;> (try split) <;> simp
theorem img_of (r : S44) : img r r.f1 = img ⟨r.f0, r.f1, r.f2⟩ r.f1 := rfl
theorem one_ext (t : S44) (d : List S44) (b : Bool) (y : Int) (h1 : 1 ≤ t.f1) (hy : y = if b = true then t.f0 - t.f1 else t.f0 + t.f1) (hb : t.f1 > 1 → t.f2 = b) : one (t :: d) y = ⟨t.f0, t.f1 + 1, b⟩ :: d := by
 obtain ⟨c, m, e⟩ := t
 dsimp only at h1 hy hb
 have hg : goes ⟨y, 1, false⟩ ⟨c, m, e⟩ = if b = true then -1 else 1 := by
  simp only [goes, img]
  by_cases hm : m > 1
  ·rw [hb hm]; rw [hy]; cases b <;> simp <;> omega
  ·have : m = 1 := by omega
   subst this; rw [hy]; cases b <;> cases e <;> simp <;> omega
 have hj : joins ⟨y, 1, false⟩ ⟨c, m, e⟩ := by
  unfold joins; rw [hg]; refine ⟨by cases b <;> simp, fun h => ?_⟩; rw [hb h]; cases b <;> simp
 simp only [one, addR]
 rw [if_pos hj, if_neg (by omega), hg]
 cases b <;> simp
theorem one_cut (t : S44) (d : List S44) (y : Int) (h : ¬ joins ⟨y, 1, false⟩ t) : one (t :: d) y = ⟨y, 1, false⟩ :: t :: d := by
 simp only [one, addR]
 rw [if_neg h]
 simp [partR, img]
theorem joins_len (a n m : Int) (b : Bool) (t : S44) : joins ⟨a, n, b⟩ t ↔ joins ⟨a, m, b⟩ t := Iff.rfl
theorem addR_step (r : S44) (h : 1 ≤ r.f1) (l : List S44) (hl : ∀ t ∈ l, okR t) : one (addR r l) (img r r.f1) = addR ⟨r.f0, r.f1 + 1, r.f2⟩ l := by
 obtain ⟨a, n, b⟩ := r
 dsimp only at h ⊢
 have new : ∀ d, one (partR ⟨a, n, b⟩ 0 n :: d) (img ⟨a, n, b⟩ n) = partR ⟨a, n + 1, b⟩ 0 (n + 1) :: d := by
  intro d
  rw [one_ext _ d b _ h (by simp only [partR, img]; cases b <;> simp) (by intro hn; simp only [partR] at hn ⊢; simp [hn])]
  simp only [partR, img]
  have : n + 1 > 1 := by omega
  cases b <;> simp [this]
 match l with
 | [] => simp only [addR]; exact new []
 | t :: d =>
  have hm : 1 ≤ t.f1 := (hl t (by simp)).1
  simp only [addR]
  by_cases hj : joins ⟨a, n, b⟩ t
  ·rw [if_pos hj, if_pos ((joins_len a n (n + 1) b t).mp hj)]
   have hg : goes ⟨a, n + 1, b⟩ t = goes ⟨a, n, b⟩ t := rfl
   rw [hg]
   generalize hgo : goes ⟨a, n, b⟩ t = g at *
   have hg1 : g = 1 ∨ g = -1 := by have := hj.1; rw [hgo] at this; exact this
   have hg2 : t.f1 > 1 → decide (g = -1) = t.f2 := by have := hj.2; rw [hgo] at this; exact this
   have ha : a = (if decide (g = -1) = true then t.f0 - t.f1 else t.f0 + t.f1) := by
    simp only [goes, img] at hgo
    by_cases hm1 : t.f1 > 1
    ·rw [← hg2 hm1] at hgo
     rcases hg1 with rfl | rfl <;> simp at hgo ⊢ <;> omega
    ·have e1 : t.f1 = 1 := by omega
     rw [e1] at hgo ⊢
     rcases hg1 with rfl | rfl <;> cases t.f2 <;> simp at hgo ⊢ <;> omega
   by_cases hc : n > 1 ∧ b ≠ decide (g = -1)
   ·rw [if_pos hc, if_pos ⟨by omega, hc.2⟩]
    rw [one_ext _ _ b _ (by simp only [partR]; omega) (by simp only [partR, img]; cases b <;> simp <;> omega) (by intro hn; simp only [partR] at hn ⊢; simp [hn])]
    simp only [partR, img]
    have : n + 1 - 1 > 1 := by omega
    cases b <;> simp [this] <;> omega
   ·rw [if_neg hc]
    by_cases hb : b = decide (g = -1)
    ·rw [if_neg (by intro k; exact k.2 hb)]
     rw [one_ext _ _ b _ (by dsimp only; omega) (by dsimp only [img]; rw [ha, hb]; rcases hg1 with rfl | rfl <;> simp <;> omega) (by intro _; exact hb.symm)]
     rw [hb]; simp; omega
    ·have hn : n = 1 := by
      by_cases k : n > 1
      ·exact absurd ⟨k, hb⟩ hc
      ·omega
     subst hn
     rw [if_pos ⟨by omega, hb⟩, one_cut]
     ·simp only [partR, img]; simp
     ·intro k
      have k1 := k.2 (by dsimp only; omega)
      revert k1
      simp only [goes, img]
      rw [ha]
      rcases hg1 with rfl | rfl <;> cases b <;> simp at hb ⊢ <;> omega
  ·rw [if_neg hj, if_neg (fun k => hj ((joins_len a n (n + 1) b t).mpr k))]; exact new _
theorem imgs_succ (a n : Int) (b : Bool) (h : 0 ≤ n) : imgs ⟨a, n + 1, b⟩ = imgs ⟨a, n, b⟩ ++ [img ⟨a, n, b⟩ n] := by
 obtain ⟨k, rfl⟩ := Int.eq_ofNat_of_zero_le h
 simp only [imgs]
 rw [show ((k : Int) + 1).toNat = k + 1 by omega, show (k : Int).toNat = k by omega, List.range_succ]
 simp [img]
theorem imgs_len (r : S44) : (imgs r).length = r.f1.toNat := by simp [imgs]
theorem imgs_get (r : S44) (i : Nat) (h : (i : Int) < r.f1) : (imgs r)[i]? = some (img r i) := by
 simp only [imgs]
 rw [List.getElem?_map, List.getElem?_range (by omega)]
 rfl
theorem imgs_one (a : Int) (b : Bool) : imgs ⟨a, 1, b⟩ = [a] := by cases b <;> simp [imgs, img]
theorem addR_one (a : Int) (b : Bool) (l : List S44) : addR ⟨a, 1, b⟩ l = one l a := by
 unfold one
 cases l with
 | nil => simp [addR, partR, img]
 | cons t d =>
  have e : goes ⟨a, 1, b⟩ t = goes ⟨a, 1, false⟩ t := rfl
  simp only [addR, e, show joins ⟨a, 1, b⟩ t ↔ joins ⟨a, 1, false⟩ t from Iff.rfl]
  simp [partR, img]
theorem fold_ok (xs : List Int) : ∀ l : List S44, (∀ t ∈ l, okR t) → ∀ t ∈ xs.foldl one l, okR t := by
 induction xs with
 | nil => intro l hl; exact hl
 | cons x xs ih => intro l hl; exact ih _ (addR_ok _ (Int.le_refl 1) l hl)
theorem fold_imgs (k : Nat) (a : Int) (b : Bool) (l : List S44) (hl : ∀ t ∈ l, okR t) : (imgs ⟨a, (k : Int) + 1, b⟩).foldl one l = addR ⟨a, (k : Int) + 1, b⟩ l := by
 induction k with
 | zero => rw [show ((0 : Nat) : Int) + 1 = 1 from rfl, imgs_one, addR_one]; rfl
 | succ k ih =>
  rw [imgs_succ _ _ _ (by omega), List.foldl_append]
  rw [show ((k + 1 : Nat) : Int) = (k : Int) + 1 by omega, ih]
  exact addR_step ⟨a, (k : Int) + 1, b⟩ (by dsimp only; omega) l hl
theorem addR_fold (r : S44) (h : 1 ≤ r.f1) (l : List S44) (hl : ∀ t ∈ l, okR t) : addR r l = (imgs r).foldl one l := by
 obtain ⟨a, n, b⟩ := r
 obtain ⟨k, rfl⟩ : ∃ k : Nat, n = (k : Int) + 1 := ⟨(n - 1).toNat, by dsimp only at h; omega⟩
 exact (fold_imgs k a b l hl).symm
theorem sem_append (a b : List S44) : sem (a ++ b) = sem a ++ sem b := List.flatMap_append
theorem sem_cons (r : S44) (l : List S44) : sem (r :: l) = imgs r ++ sem l := by simp [sem]
theorem sem_nil : sem [] = [] := rfl
theorem one_sem (l : List S44) (y : Int) (hl : ∀ t ∈ l, okR t) : sem (one l y).reverse = sem l.reverse ++ [y] := by
 match l with
 | [] => simp [one, addR, partR, img, sem, imgs_one]
 | t :: d =>
  obtain ⟨c, m, e⟩ := t
  have hm : 1 ≤ m := (hl ⟨c, m, e⟩ (by simp)).1
  simp only [one, addR]
  by_cases hj : joins ⟨y, 1, false⟩ ⟨c, m, e⟩
  ·rw [if_pos hj, if_neg (by omega)]
   have hg : y = img ⟨c, m, decide (goes ⟨y, 1, false⟩ ⟨c, m, e⟩ = -1)⟩ m ∧ (m > 1 → decide (goes ⟨y, 1, false⟩ ⟨c, m, e⟩ = -1) = e) := by
    refine ⟨?_, hj.2⟩
    have h1 := hj.1
    have h2 := hj.2
    simp only [goes, img] at h1 h2 ⊢
    by_cases hm1 : m > 1
    ·have h3 := h2 hm1
     cases e <;> simp at h1 h3 ⊢ <;> omega
    ·have : m = 1 := by omega
     subst this
     cases e <;> simp at h1 ⊢ <;> split <;> omega
   generalize decide (goes ⟨y, 1, false⟩ ⟨c, m, e⟩ = -1) = b at *
   rw [List.reverse_cons, List.reverse_cons, sem_append, sem_append, List.append_assoc]
   congr 1
   simp only [sem, List.flatMap_cons, List.flatMap_nil, List.append_nil]
   rw [imgs_succ c m b (by omega), ← hg.1]
   congr 1
   by_cases hm1 : m > 1
   ·rw [hg.2 hm1]
   ·have : m = 1 := by omega
    subst this
    rw [imgs_one, imgs_one]
  ·rw [if_neg hj, List.reverse_cons, sem_append]
   congr 1
   simp [sem, partR, img, imgs_one]
theorem fold_sem (xs : List Int) : ∀ l : List S44, (∀ t ∈ l, okR t) → sem (xs.foldl one l).reverse = sem l.reverse ++ xs := by
 induction xs with
 | nil => intro l hl; simp
 | cons x xs ih =>
  intro l hl
  have h2 : ∀ t ∈ one l x, okR t := addR_ok ⟨x, 1, false⟩ (Int.le_refl 1) l hl
  rw [List.foldl_cons, ih _ h2, one_sem l x hl]
  simp
theorem sem_nrm (xs : List Int) : sem (nrm xs) = xs := by unfold nrm; rw [fold_sem xs [] (by simp)]; simp [sem]
theorem nrm_ok (xs : List Int) : ∀ t ∈ nrm xs, okR t := by intro t ht; exact fold_ok xs [] (by simp) t (by simpa [nrm] using ht)
theorem addAll_fold (rs : List S44) : ∀ l : List S44, (∀ t ∈ l, okR t) → (∀ r ∈ rs, 1 ≤ r.f1) → rs.foldl addOf l.reverse = ((sem rs).foldl one l).reverse := by
 induction rs with
 | nil => intro l _ _; rfl
 | cons r rs ih =>
  intro l hl hr
  have h1 := hr r (by simp)
  rw [List.foldl_cons, sem_cons, List.foldl_append, ← addR_fold r h1 l hl, ← ih _ (addR_ok r h1 l hl) (fun x hx => hr x (by simp [hx]))]
  simp only [addOf, if_neg (show ¬ r.f1 < 1 by omega), List.reverse_reverse]
theorem addAll (rs : List S44) (h : ∀ r ∈ rs, 1 ≤ r.f1) : rs.foldl addOf [] = nrm (sem rs) := addAll_fold rs [] (by simp) h
theorem addOf_len (l : List S44) (r : S44) : (addOf l r).length ≤ l.length + 1 := by
 unfold addOf
 split
 ·omega
 ·have := addR_len r l.reverse; simpa using this
theorem addAll_len (rs : List S44) : ∀ l : List S44, (rs.foldl addOf l).length ≤ l.length + rs.length := by
 induction rs with
 | nil => intro l; simp
 | cons r rs ih => intro l; have := ih (addOf l r); have := addOf_len l r; simp only [List.foldl_cons, List.length_cons]; omega
theorem nrm_len (rs : List S44) (h : ∀ r ∈ rs, 1 ≤ r.f1) : (nrm (sem rs)).length ≤ rs.length := by rw [← addAll rs h]; have := addAll_len rs []; simpa using this
def tot13 (m : List S44) : Int := (m.map (·.f1)).foldr (· + ·) 0
theorem tot13_cons (r : S44) (m : List S44) : tot13 (r :: m) = r.f1 + tot13 m := by simp [tot13]
theorem tot13_append (a b : List S44) : tot13 (a ++ b) = tot13 a + tot13 b := by
 induction a with
 | nil => simp [tot13]
 | cons r a ih => rw [List.cons_append, tot13_cons, tot13_cons, ih]; omega
theorem sem_len (m : List S44) (h : ∀ r ∈ m, 0 ≤ r.f1) : ((sem m).length : Int) = tot13 m := by
 induction m with
 | nil => simp [sem, tot13]
 | cons r m ih =>
  have := h r (by simp)
  rw [sem_cons, List.length_append, tot13_cons, imgs_len, ← ih (fun x hx => h x (by simp [hx]))]; omega
def pieces : List S44 → Int → Int → Int → List S44
 | [], _, _, _ => []
 | r :: m, at_, f, t => (if max f at_ < min t (at_ + r.f1) then [partR r (max f at_ - at_) (min t (at_ + r.f1) - max f at_)] else []) ++ pieces m (at_ + r.f1) f t
theorem img_part (r : S44) (x n i : Int) (h0 : 0 ≤ i) (h : i < n) : img (partR r x n) i = img r (x + i) := by
 obtain ⟨a, m, b⟩ := r
 simp only [img, partR]
 cases b with
 | false => simp; omega
 | true =>
  by_cases hn : n > 1
  ·simp [hn]; omega
  ·have : i = 0 := by omega
   subst this; simp [hn]
theorem imgs_part (r : S44) (x n : Int) (hx : 0 ≤ x) (hn : 0 ≤ n) (h : x + n ≤ r.f1) : imgs (partR r x n) = ((imgs r).take (x + n).toNat).drop x.toNat := by
 apply List.ext_getElem?
 intro i
 rw [List.getElem?_drop, List.getElem?_take]
 by_cases hi : (i : Int) < n
 ·rw [imgs_get _ _ (by simpa [partR] using hi), if_pos (by omega), imgs_get _ _ (by omega), img_part _ _ _ _ (by omega) hi]
  congr 2; omega
 ·rw [if_neg (by omega), List.getElem?_eq_none]
  rw [imgs_len]; simp only [partR]; omega
theorem sem_pieces (m : List S44) : ∀ (at_ f t : Int), (∀ r ∈ m, 1 ≤ r.f1) → sem (pieces m at_ f t) = ((sem m).take (t - at_).toNat).drop (f - at_).toNat := by
 induction m with
 | nil => intro at_ f t _; simp [pieces, sem]
 | cons r m ih =>
  intro at_ f t h
  have h1 := h r (by simp)
  simp only [pieces]
  rw [sem_append, ih _ _ _ (fun x hx => h x (by simp [hx])), sem_cons, List.take_append, List.drop_append]
  rw [imgs_len, List.length_take, imgs_len]
  congr 1
  ·split
   ·rename_i hc
    rw [show sem [partR r (max f at_ - at_) (min t (at_ + r.f1) - max f at_)] = imgs (partR r (max f at_ - at_) (min t (at_ + r.f1) - max f at_)) by simp [sem]]
    rw [imgs_part _ _ _ (by omega) (by omega) (by omega), show (max f at_ - at_).toNat = (f - at_).toNat by omega]
    rw [List.take_eq_take_iff.mpr]
    rw [imgs_len]; omega
   ·rename_i hc
    rw [sem_nil, eq_comm, List.drop_eq_nil_iff, List.length_take, imgs_len]; omega
  ·rw [show (t - at_).toNat - r.f1.toNat = (t - (at_ + r.f1)).toNat by omega]
   by_cases hc : t - at_ ≥ r.f1
   ·congr 1; omega
   ·rw [show (t - (at_ + r.f1)).toNat = 0 by omega]; simp
theorem pieces_pos (m : List S44) : ∀ (at_ f t : Int), ∀ r ∈ pieces m at_ f t, 1 ≤ r.f1 := by
 induction m with
 | nil => intro at_ f t r hr; simp [pieces] at hr
 | cons r m ih =>
  intro at_ f t q hq
  simp only [pieces, List.mem_append] at hq
  rcases hq with hq | hq
  ·split at hq
   ·simp only [List.mem_singleton] at hq; subst hq; simp only [partR]; omega
   ·simp at hq
  ·exact ih _ _ _ q hq
theorem pieces_len (m : List S44) : ∀ (at_ f t : Int), (pieces m at_ f t).length ≤ m.length := by
 induction m with
 | nil => intro at_ f t; simp [pieces]
 | cons r m ih => intro at_ f t; have := ih (at_ + r.f1) f t; simp only [pieces, List.length_append, List.length_cons]; split <;> simp <;> omega
def revR (r : S44) : S44 := ⟨img r (r.f1 - 1), r.f1, !r.f2 && decide (r.f1 > 1)⟩
def revL (m : List S44) : List S44 := m.reverse.map revR
theorem imgs_rev (r : S44) (h : 1 ≤ r.f1) : imgs (revR r) = (imgs r).reverse := by
 apply List.ext_getElem?
 intro i
 by_cases hi : (i : Int) < r.f1
 ·rw [imgs_get _ _ (by simpa [revR] using hi), List.getElem?_reverse (by rw [imgs_len]; omega), imgs_len, imgs_get _ _ (by omega)]
  obtain ⟨a, n, b⟩ := r
  dsimp only at *
  simp only [img, revR]
  by_cases hn : n > 1
  ·cases b <;> simp [hn] <;> omega
  ·have : i = 0 := by omega
   subst this
   have : n = 1 := by omega
   subst this
   cases b <;> simp
 ·rw [List.getElem?_eq_none (by rw [imgs_len]; simp only [revR]; omega), List.getElem?_eq_none (by rw [List.length_reverse, imgs_len]; omega)]
theorem sem_rev (m : List S44) (h : ∀ r ∈ m, 1 ≤ r.f1) : sem (revL m) = (sem m).reverse := by
 induction m with
 | nil => rfl
 | cons r m ih =>
  have e : revL (r :: m) = revL m ++ [revR r] := by simp [revL]
  rw [e, sem_append, ih (fun x hx => h x (by simp [hx])), sem_cons r m, List.reverse_append, ← imgs_rev r (h r (by simp))]
  simp [sem]
theorem revL_pos (m : List S44) (h : ∀ r ∈ m, 1 ≤ r.f1) : ∀ r ∈ revL m, 1 ≤ r.f1 := by
 intro r hr
 simp only [revL, List.mem_map, List.mem_reverse] at hr
 obtain ⟨q, hq, rfl⟩ := hr
 exact h q hq
theorem revL_len (m : List S44) : (revL m).length = m.length := by simp [revL]
end Go.Proofs.Ytalpegglbfobiaa.G

namespace Go.Proofs.Ytalpegglbfobiaa.G
open Go.RowKit Go.Proofs.YtalpegglbfobiaaW.PrintWords Go.Proofs.YtalpegglbfobiaaW.PrintLast Go.Proofs.YtalpegglbfobiaaW.PrintMore
attribute [local go_sem] max2_int min2_int max_two min_two max_three min_three max_four min_four   -- for this text's walks alone
set_option linter.unusedVariables false
set_option linter.unusedSimpArgs false

def iso_image.f (a0_0 : Int) (a0_1 : Int) (a0_2 : Bool) (a1 : Int) : Option (Int) := if a0_2 = true then (some (wrap64 (a0_0 - a1))) else (some (wrap64 (a0_0 + a1)))
set_option maxHeartbeats 8000000 in
set_option maxRecDepth 100000 in
theorem iso_image.calls (a0_0 : Int) (a0_1 : Int) (a0_2 : Bool) (a1 : Int) (r : Int) (w : World) (h : iso_image.f a0_0 a0_1 a0_2 a1 = some r) :
  Calls Try.prog 69 #[.agg #[.int .i64 a0_0, .int .i64 a0_1, .bool a0_2], .int .i64 a1] w fun e w' => e = .returned (.int .i64 r) ∧ Below w.heap.size w w' := by
 have hu44 := Try.underlying44
 have HB := Aside0.mk (Below.refl w.heap.size w)
 have H : (if a0_2 = true then (some (wrap64 (a0_0 - a1))) else (some (wrap64 (a0_0 + a1)))) = some r := h
 clear h
 by_cases c3 : a0_2 = true
 ·subst c3
  rw [if_pos rfl] at H
  obtain rfl := Option.some.inj H
  go_enter Try.func69, Try.ntmps69
  go_wp2_with (first | ((with_reducible refine gate_dst (N := 2) rfl ?_); refine box_event ?hg (N := 2) ?hd (cs := #[.int .i64 a0_0, .int .i64 a0_1, .bool true]) (t := 44) ?hr ?_; (case hd => rfl); (case hg => rfl); (case hr => first | (go_simp; done) | (go_simp; rfl)); intro gb70001 hg w4 hbox hb; have BK70001 := Aside0.mk (hbox); have GW70001 := Aside0.mk ((by rw [hg]; exact (below_size (by repeat (first | exact HB.out | apply below_alloc | apply pw_below_drewN | apply below_drew1))) : w.heap.size ≤ gb70001)); have GE70001 := Aside0.mk ((by rw [hg]; exact (below_size (by repeat (first | exact HB.out | apply below_alloc | apply pw_below_drewN | apply below_drew1))) : w.heap.size ≤ gb70001)); replace HB := Aside0.mk (below_step (by repeat (first | exact HB.out | apply below_alloc | apply pw_below_drewN | apply below_drew1)) hb); clear hb hbox hg; have hcz5_0 : w4.cell? ⟨gb70001, 0, none⟩ = some (.int .i64 a0_0) := (blk_cell BK70001.out 0).trans rfl; have hcz5_1 : w4.cell? ⟨gb70001, 1, none⟩ = some (.int .i64 a0_1) := (blk_cell BK70001.out 1).trans rfl; have hcz5_2 : w4.cell? ⟨gb70001, 2, none⟩ = some (.bool true) := (blk_cell BK70001.out 2).trans rfl; have hfz5_0 := blk_frozen BK70001.out 0; have hfz5_1 := blk_frozen BK70001.out 1; have hfz5_2 := blk_frozen BK70001.out 2))
  go_ret
  exact ⟨by first | rfl | (simp [errW_none, errW_some] <;> rfl) | (simp [*, errW_none, errW_some] <;> rfl), by repeat (first | exact HB.out | apply below_alloc | apply pw_below_drewN | apply below_drew1 | refine below_set ?_ GE70001.out)⟩
 ·replace c3 := Bool.eq_false_iff.mpr c3
  subst c3
  have H1 : (some (wrap64 (a0_0 + a1))) = some r := by rw [if_neg (show ¬ (false = true) by decide)] at H; first | exact H | simpa using H
  clear H
  have H := H1
  clear H1
  obtain rfl := Option.some.inj H
  go_enter Try.func69, Try.ntmps69
  go_wp2_with (first | ((with_reducible refine gate_dst (N := 2) rfl ?_); refine box_event ?hg (N := 2) ?hd (cs := #[.int .i64 a0_0, .int .i64 a0_1, .bool false]) (t := 44) ?hr ?_; (case hd => rfl); (case hg => rfl); (case hr => first | (go_simp; done) | (go_simp; rfl)); intro gb70001 hg w6 hbox hb; have BK70001 := Aside0.mk (hbox); have GW70001 := Aside0.mk ((by rw [hg]; exact (below_size (by repeat (first | exact HB.out | apply below_alloc | apply pw_below_drewN | apply below_drew1))) : w.heap.size ≤ gb70001)); have GE70001 := Aside0.mk ((by rw [hg]; exact (below_size (by repeat (first | exact HB.out | apply below_alloc | apply pw_below_drewN | apply below_drew1))) : w.heap.size ≤ gb70001)); replace HB := Aside0.mk (below_step (by repeat (first | exact HB.out | apply below_alloc | apply pw_below_drewN | apply below_drew1)) hb); clear hb hbox hg; have hcz7_0 : w6.cell? ⟨gb70001, 0, none⟩ = some (.int .i64 a0_0) := (blk_cell BK70001.out 0).trans rfl; have hcz7_1 : w6.cell? ⟨gb70001, 1, none⟩ = some (.int .i64 a0_1) := (blk_cell BK70001.out 1).trans rfl; have hcz7_2 : w6.cell? ⟨gb70001, 2, none⟩ = some (.bool false) := (blk_cell BK70001.out 2).trans rfl; have hfz7_0 := blk_frozen BK70001.out 0; have hfz7_1 := blk_frozen BK70001.out 1; have hfz7_2 := blk_frozen BK70001.out 2))
  go_ret
  exact ⟨by first | rfl | (simp [errW_none, errW_some] <;> rfl) | (simp [*, errW_none, errW_some] <;> rfl), by repeat (first | exact HB.out | apply below_alloc | apply pw_below_drewN | apply below_drew1 | refine below_set ?_ GE70001.out)⟩

end Go.Proofs.Ytalpegglbfobiaa.G

namespace Go.Proofs.Ytalpegglbfobiaa.G
open Go.RowKit Go.Proofs.YtalpegglbfobiaaW.PrintWords Go.Proofs.YtalpegglbfobiaaW.PrintLast Go.Proofs.YtalpegglbfobiaaW.PrintMore
attribute [local go_sem] max2_int min2_int max_two min_two max_three min_three max_four min_four   -- for this text's walks alone
set_option linter.unusedVariables false
set_option linter.unusedSimpArgs false

def iso_part.f (a0_0 : Int) (a0_1 : Int) (a0_2 : Bool) (a1 : Int) (a2 : Int) : Option (Int × Int × Bool) := (iso_image.f a0_0 a0_1 a0_2 a1).bind fun t71003 => (if a0_2 = true then (some (t71003, a2, decide (a2 > 1))) else (some (t71003, a2, false)))
def iso_part.T1 : Bool × List (List Nat × List Nat) := (true, [([], []), ([], []), ([0, 1], [0, 1]), ([], []), ([], []), ([4], [4]), ([5, 2], [5]), ([6], [6]), ([7, 6], [6, 7]), ([6, 8], [6, 8]), ([2, 3, 9], [2, 3, 9]), ([10, 6, 0, 1, 2, 3, 4, 5, 6, 7, 8, 9, 10], [10])])
def iso_part.B1 : List Nat := [0, 0, 3, 0, 0, 16, 55, 119, 247, 503, 1023, 2047]
theorem iso_part.tab1 : rtab .any (opsOf Try.f70 1) = iso_part.T1 := by kernel_rfl
theorem iso_part.bits1 : waitsOk iso_part.T1.2 iso_part.B1 = true := by kernel_rfl
set_option maxHeartbeats 8000000 in
set_option maxRecDepth 100000 in
theorem iso_part.calls (a0_0 : Int) (a0_1 : Int) (a0_2 : Bool) (a1 : Int) (a2 : Int) (r1 : Int) (r2 : Int) (r3 : Bool) (w : World) (h : iso_part.f a0_0 a0_1 a0_2 a1 a2 = some (r1, r2, r3)) :
  Calls Try.prog 70 #[.agg #[.int .i64 a0_0, .int .i64 a0_1, .bool a0_2], .int .i64 a1, .int .i64 a2] w fun e w' => e = .returned (.agg #[.int .i64 r1, .int .i64 r2, .bool r3]) ∧ Below w.heap.size w w' := by
 have hu44 := Try.underlying44
 have HB := Aside0.mk (Below.refl w.heap.size w)
 have H : ((iso_image.f a0_0 a0_1 a0_2 a1).bind fun t71003 => (if a0_2 = true then (some (t71003, a2, decide (a2 > 1))) else (some (t71003, a2, false)))) = some (r1, r2, r3) := h
 clear h
 replace H := Option.bind_eq_some_iff.mp H
 obtain ⟨t71003, A40, H⟩ := H
 have A4 := Aside0.mk A40
 clear A40
 by_cases c5 : a0_2 = true
 ·subst c5
  rw [if_pos rfl] at H
  simp only [Option.some.injEq, Prod.mk.injEq] at H
  obtain ⟨rfl, rfl, rfl⟩ := H
  go_enter Try.func70, Try.ntmps70
  try go_wp2_with (first | ((with_reducible refine gate_dst (N := 3) rfl ?_); refine box_event ?hg (N := 3) ?hd (cs := #[.int .i64 a0_0, .int .i64 a0_1, .bool true]) (t := 44) ?hr ?_; (case hd => rfl); (case hg => rfl); (case hr => first | (go_simp; done) | (go_simp; rfl)); intro gb71001 hg w6 hbox hb; have BK71001 := Aside0.mk (hbox); have GW71001 := Aside0.mk ((by rw [hg]; exact (below_size (by repeat (first | exact HB.out | apply below_alloc | apply pw_below_drewN | apply below_drew1))) : w.heap.size ≤ gb71001)); have GE71001 := Aside0.mk ((by rw [hg]; exact (below_size (by repeat (first | exact HB.out | apply below_alloc | apply pw_below_drewN | apply below_drew1))) : w.heap.size ≤ gb71001)); replace HB := Aside0.mk (below_step (by repeat (first | exact HB.out | apply below_alloc | apply pw_below_drewN | apply below_drew1)) hb); clear hb hbox hg) | ((with_reducible refine gate_dst (N := 6) rfl ?_); refine box_event ?hg (N := 6) ?hd (cs := #[.int .i64 0, .int .i64 0, .bool false]) (t := 44) ?hr ?_; (case hd => rfl); (case hg => rfl); (case hr => first | (go_simp; done) | (go_simp; rfl)); intro gb71002 hg w7 hbox hb; have BK71002 := Aside0.mk (hbox); have GW71002 := Aside0.mk ((by rw [hg]; exact (below_size (by repeat (first | exact HB.out | apply below_alloc | apply pw_below_drewN | apply below_drew1 | refine below_set ?_ GE71001.out))) : w.heap.size ≤ gb71002)); have GE71002 := Aside0.mk ((by rw [hg]; exact (below_size (by repeat (first | exact HB.out | apply below_alloc | apply pw_below_drewN | apply below_drew1 | refine below_set ?_ GE71001.out))) : w.heap.size ≤ gb71002)); replace HB := Aside0.mk (below_step (by repeat (first | exact HB.out | apply below_alloc | apply pw_below_drewN | apply below_drew1 | refine below_set ?_ GE71001.out)) hb); have NB71001_71002 := Aside0.mk ((by rw [hg]; exact Nat.ne_of_lt (blk_lt (g := gb71001) (o := .cells #[.int .i64 a0_0, .int .i64 a0_1, .bool true] 44 (0, 0)) (BK71001.out)) : gb71001 ≠ gb71002)); have NB71002_71001 := Aside0.mk ((by rw [hg]; exact Nat.ne_of_gt (blk_lt (g := gb71001) (o := .cells #[.int .i64 a0_0, .int .i64 a0_1, .bool true] 44 (0, 0)) (BK71001.out)) : gb71002 ≠ gb71001)); replace BK71001 := Aside0.mk (blk_below (g := gb71001) (o := .cells #[.int .i64 a0_0, .int .i64 a0_1, .bool true] 44 (0, 0)) (BK71001.out) hb); clear hb hbox hg))
  replace BK71001 := Aside0.mk (blk_drew BK71001.out)
  replace BK71002 := Aside0.mk (blk_drew BK71002.out)
  replace HB := Aside0.mk (below_drew1 HB.out)
  refine start_ (n := 12) (S := fun w' => w'.cell? ⟨gb71001, 0, none⟩ = some (.int .i64 a0_0) ∧ w'.cell? ⟨gb71001, 1, none⟩ = some (.int .i64 a0_1) ∧ w'.cell? ⟨gb71001, 2, none⟩ = some (.bool true)) (ds := []) #[false, false, false, false, false, false, false, false, false, false, false, false] (by kernel_rfl) rfl rfl ⟨(blk_cell BK71001.out 0).trans rfl, (blk_cell BK71001.out 1).trans rfl, (blk_cell BK71001.out 2).trans rfl⟩ (fun hHeld => ?_); refine with_tabW iso_part.tab1 iso_part.bits1 (fun HT_ HW_ => ?_)
  generalize w7.drew = w8 at BK71001 BK71002 HB hHeld ⊢
  refine pu_ 1 (some 8) HT_ ?_
  refine pu_ 3 (some 10) HT_ ?_
  refine pu_ 4 (some 11) HT_ ?_
  refine tk_ 0 (some 7) HT_ HW_ hHeld ?_ (hy := .inl ⟨by rfl, by rintro w' ⟨s0, s1, s2⟩; go_simp; with_reducible rfl⟩)
  refine tk_ 5 (some 12) HT_ HW_ hHeld ?_ (hy := .inl ⟨by rfl, by rintro w' ⟨s0, s1, s2⟩; go_simp; with_reducible rfl⟩)
  refine one_ (i := 2) (N := some 9) #[true, true, true, true, true, true, false, false, false, false, false, false] rfl rfl (one_of HT_.out (by kernel_rfl)) (by decide) (fun K hK => ?_)
  refine goes_ Try.func69 (by kernel_rfl) rfl #[.agg #[.int .i64 a0_0, .int .i64 a0_1, .bool true], .int .i64 a1] (by rfl) rfl rfl (by (try simp only [List.map_toArray, List.map_cons, List.map_nil]); first | done | rfl | (simp only [List.length_drop, List.length_take]; rfl)) ?_
  with_reducible refine (iso_image.calls a0_0 a0_1 true a1 t71003 _ A4.out).mono ?_
  rintro e w9 ⟨rfl, hb⟩
  refine ⟨_, rfl, ?_⟩
  replace BK71001 := Aside0.mk (blk_below (g := gb71001) (o := .cells #[.int .i64 a0_0, .int .i64 a0_1, .bool true] 44 (0, 0)) (BK71001.out) hb)
  replace BK71002 := Aside0.mk (blk_below (g := gb71002) (o := .cells #[.int .i64 0, .int .i64 0, .bool false] 44 (0, 0)) (BK71002.out) hb)
  replace HB := Aside0.mk (below_step (by repeat (first | exact HB.out | apply below_alloc | apply pw_below_drewN | apply below_drew1 | refine below_set ?_ GE71001.out | refine below_set ?_ GE71002.out)) hb)
  (try clear hb)
  (try clear hb2)
  (try clear hk)
  (try clear hi)
  refine hK.out _ _ ⟨(blk_cell BK71001.out 0).trans rfl, (blk_cell BK71001.out 1).trans rfl, (blk_cell BK71001.out 2).trans rfl⟩ (fun hHeld => ?_)
  clear hK K
  refine norm_ (a' := ?_) ?_ ?_
  rotate_left
  ·show Act.put _ (some 9) _ = _
   simp only [Act.put, List.setIfInBounds_toArray, List.set_cons_zero, List.set_cons_succ, i64_w, i32_w]
   rfl
  refine pu_ 6 (some 13) HT_ ?_
  refine pu_ 7 (some 14) HT_ ?_
  refine pu_ 8 (some 15) HT_ ?_
  refine pu_ 9 (some 16) HT_ ?_
  refine pu_ 10 (some 17) HT_ ?_
  refine one_ (i := 11) (N := none) #[true, true, true, true, true, true, true, true, true, true, true, true] rfl rfl (one_of HT_.out (by kernel_rfl)) (by decide) (fun K hK => ?_)
  have hs10 : w9.cell? ⟨gb71002, 0, none⟩ = some (.int .i64 0) := (blk_cell BK71002.out 0).trans rfl
  have hfs10 := blk_frozen BK71002.out 0
  have hns10_0 := NB71001_71002.out
  have hms10_0 := NB71002_71001.out
  have hs11 : w9.cell? ⟨gb71002, 1, none⟩ = some (.int .i64 0) := (blk_cell BK71002.out 1).trans rfl
  have hfs11 := blk_frozen BK71002.out 1
  have hns11_0 := NB71001_71002.out
  have hms11_0 := NB71002_71001.out
  have hs12 : w9.cell? ⟨gb71002, 2, none⟩ = some (.bool false) := (blk_cell BK71002.out 2).trans rfl
  have hfs12 := blk_frozen BK71002.out 2
  have hns12_0 := NB71001_71002.out
  have hms12_0 := NB71002_71001.out
  refine skip_ (w1 := ?_) (by rfl) rfl ?_ ?_
  rotate_left
  ·go_simp
   rfl
  refine hK.out _ _ ⟨((cell_far (p := ⟨gb71002, _, none⟩) NB71001_71002.out _).trans (((cell_far (p := ⟨gb71002, _, none⟩) NB71001_71002.out _).trans (((cell_far (p := ⟨gb71002, _, none⟩) NB71001_71002.out _).trans (hHeld.1)))))), ((cell_far (p := ⟨gb71002, _, none⟩) NB71001_71002.out _).trans (((cell_far (p := ⟨gb71002, _, none⟩) NB71001_71002.out _).trans (((cell_far (p := ⟨gb71002, _, none⟩) NB71001_71002.out _).trans (hHeld.2.1)))))), ((cell_far (p := ⟨gb71002, _, none⟩) NB71001_71002.out _).trans (((cell_far (p := ⟨gb71002, _, none⟩) NB71001_71002.out _).trans (((cell_far (p := ⟨gb71002, _, none⟩) NB71001_71002.out _).trans (hHeld.2.2))))))⟩ (fun hHeld => ?_)
  clear hK K
  refine done_ (done_of HT_.out (by kernel_rfl)) ?_
  try go_wp2
  refine bodyPost_ret (results_cell_row rfl _ _ gb71002 44 #[.int .i64 t71003, .int .i64 a2, .bool (decide (a2 > 1))] (0, 0) _ rfl (by refine blk_put (cs := #[.int .i64 t71003, .int .i64 a2, .bool false]) ?_ 2 _ rfl; refine blk_put (cs := #[.int .i64 t71003, .int .i64 0, .bool false]) ?_ 1 _ rfl; refine blk_put (cs := #[.int .i64 0, .int .i64 0, .bool false]) ?_ 0 _ rfl; exact BK71002.out) Try.underlying44 rfl (by kernel_rfl)) rfl ?_
  exact ⟨by first | rfl | (simp [errW_none, errW_some] <;> rfl) | (simp [*, errW_none, errW_some] <;> rfl), by repeat (first | exact HB.out | apply below_alloc | apply pw_below_drewN | apply below_drew1 | refine below_set ?_ GE71001.out | refine below_set ?_ GE71002.out)⟩
 ·replace c5 := Bool.eq_false_iff.mpr c5
  subst c5
  have H1 : (some (t71003, a2, false)) = some (r1, r2, r3) := by rw [if_neg (show ¬ (false = true) by decide)] at H; first | exact H | simpa using H
  clear H
  have H := H1
  clear H1
  simp only [Option.some.injEq, Prod.mk.injEq] at H
  obtain ⟨rfl, rfl, rfl⟩ := H
  go_enter Try.func70, Try.ntmps70
  try go_wp2_with (first | ((with_reducible refine gate_dst (N := 3) rfl ?_); refine box_event ?hg (N := 3) ?hd (cs := #[.int .i64 a0_0, .int .i64 a0_1, .bool false]) (t := 44) ?hr ?_; (case hd => rfl); (case hg => rfl); (case hr => first | (go_simp; done) | (go_simp; rfl)); intro gb71001 hg w13 hbox hb; have BK71001 := Aside0.mk (hbox); have GW71001 := Aside0.mk ((by rw [hg]; exact (below_size (by repeat (first | exact HB.out | apply below_alloc | apply pw_below_drewN | apply below_drew1))) : w.heap.size ≤ gb71001)); have GE71001 := Aside0.mk ((by rw [hg]; exact (below_size (by repeat (first | exact HB.out | apply below_alloc | apply pw_below_drewN | apply below_drew1))) : w.heap.size ≤ gb71001)); replace HB := Aside0.mk (below_step (by repeat (first | exact HB.out | apply below_alloc | apply pw_below_drewN | apply below_drew1)) hb); clear hb hbox hg) | ((with_reducible refine gate_dst (N := 6) rfl ?_); refine box_event ?hg (N := 6) ?hd (cs := #[.int .i64 0, .int .i64 0, .bool false]) (t := 44) ?hr ?_; (case hd => rfl); (case hg => rfl); (case hr => first | (go_simp; done) | (go_simp; rfl)); intro gb71002 hg w14 hbox hb; have BK71002 := Aside0.mk (hbox); have GW71002 := Aside0.mk ((by rw [hg]; exact (below_size (by repeat (first | exact HB.out | apply below_alloc | apply pw_below_drewN | apply below_drew1 | refine below_set ?_ GE71001.out))) : w.heap.size ≤ gb71002)); have GE71002 := Aside0.mk ((by rw [hg]; exact (below_size (by repeat (first | exact HB.out | apply below_alloc | apply pw_below_drewN | apply below_drew1 | refine below_set ?_ GE71001.out))) : w.heap.size ≤ gb71002)); replace HB := Aside0.mk (below_step (by repeat (first | exact HB.out | apply below_alloc | apply pw_below_drewN | apply below_drew1 | refine below_set ?_ GE71001.out)) hb); have NB71001_71002 := Aside0.mk ((by rw [hg]; exact Nat.ne_of_lt (blk_lt (g := gb71001) (o := .cells #[.int .i64 a0_0, .int .i64 a0_1, .bool false] 44 (0, 0)) (BK71001.out)) : gb71001 ≠ gb71002)); have NB71002_71001 := Aside0.mk ((by rw [hg]; exact Nat.ne_of_gt (blk_lt (g := gb71001) (o := .cells #[.int .i64 a0_0, .int .i64 a0_1, .bool false] 44 (0, 0)) (BK71001.out)) : gb71002 ≠ gb71001)); replace BK71001 := Aside0.mk (blk_below (g := gb71001) (o := .cells #[.int .i64 a0_0, .int .i64 a0_1, .bool false] 44 (0, 0)) (BK71001.out) hb); clear hb hbox hg))
  replace BK71001 := Aside0.mk (blk_drew BK71001.out)
  replace BK71002 := Aside0.mk (blk_drew BK71002.out)
  replace HB := Aside0.mk (below_drew1 HB.out)
  refine start_ (n := 12) (S := fun w' => w'.cell? ⟨gb71001, 0, none⟩ = some (.int .i64 a0_0) ∧ w'.cell? ⟨gb71001, 1, none⟩ = some (.int .i64 a0_1) ∧ w'.cell? ⟨gb71001, 2, none⟩ = some (.bool false)) (ds := []) #[false, false, false, false, false, false, false, false, false, false, false, false] (by kernel_rfl) rfl rfl ⟨(blk_cell BK71001.out 0).trans rfl, (blk_cell BK71001.out 1).trans rfl, (blk_cell BK71001.out 2).trans rfl⟩ (fun hHeld => ?_); refine with_tabW iso_part.tab1 iso_part.bits1 (fun HT_ HW_ => ?_)
  generalize w14.drew = w15 at BK71001 BK71002 HB hHeld ⊢
  refine pu_ 1 (some 8) HT_ ?_
  refine pu_ 3 (some 10) HT_ ?_
  refine pu_ 4 (some 11) HT_ ?_
  refine tk_ 0 (some 7) HT_ HW_ hHeld ?_ (hy := .inl ⟨by rfl, by rintro w' ⟨s0, s1, s2⟩; go_simp; with_reducible rfl⟩)
  refine tk_ 5 (some 12) HT_ HW_ hHeld ?_ (hy := .inl ⟨by rfl, by rintro w' ⟨s0, s1, s2⟩; go_simp; with_reducible rfl⟩)
  refine one_ (i := 2) (N := some 9) #[true, true, true, true, true, true, false, false, false, false, false, false] rfl rfl (one_of HT_.out (by kernel_rfl)) (by decide) (fun K hK => ?_)
  refine goes_ Try.func69 (by kernel_rfl) rfl #[.agg #[.int .i64 a0_0, .int .i64 a0_1, .bool false], .int .i64 a1] (by rfl) rfl rfl (by (try simp only [List.map_toArray, List.map_cons, List.map_nil]); first | done | rfl | (simp only [List.length_drop, List.length_take]; rfl)) ?_
  with_reducible refine (iso_image.calls a0_0 a0_1 false a1 t71003 _ A4.out).mono ?_
  rintro e w16 ⟨rfl, hb⟩
  refine ⟨_, rfl, ?_⟩
  replace BK71001 := Aside0.mk (blk_below (g := gb71001) (o := .cells #[.int .i64 a0_0, .int .i64 a0_1, .bool false] 44 (0, 0)) (BK71001.out) hb)
  replace BK71002 := Aside0.mk (blk_below (g := gb71002) (o := .cells #[.int .i64 0, .int .i64 0, .bool false] 44 (0, 0)) (BK71002.out) hb)
  replace HB := Aside0.mk (below_step (by repeat (first | exact HB.out | apply below_alloc | apply pw_below_drewN | apply below_drew1 | refine below_set ?_ GE71001.out | refine below_set ?_ GE71002.out)) hb)
  (try clear hb)
  (try clear hb2)
  (try clear hk)
  (try clear hi)
  refine hK.out _ _ ⟨(blk_cell BK71001.out 0).trans rfl, (blk_cell BK71001.out 1).trans rfl, (blk_cell BK71001.out 2).trans rfl⟩ (fun hHeld => ?_)
  clear hK K
  refine norm_ (a' := ?_) ?_ ?_
  rotate_left
  ·show Act.put _ (some 9) _ = _
   simp only [Act.put, List.setIfInBounds_toArray, List.set_cons_zero, List.set_cons_succ, i64_w, i32_w]
   rfl
  refine pu_ 6 (some 13) HT_ ?_
  refine pn_ 7 (some 14) HT_ ?_
  refine pn_ 8 (some 15) HT_ ?_
  refine pu_ 9 (some 16) HT_ ?_
  refine pu_ 10 (some 17) HT_ ?_
  refine one_ (i := 11) (N := none) #[true, true, true, true, true, true, true, true, true, true, true, true] rfl rfl (one_of HT_.out (by kernel_rfl)) (by decide) (fun K hK => ?_)
  have hs17 : w16.cell? ⟨gb71002, 0, none⟩ = some (.int .i64 0) := (blk_cell BK71002.out 0).trans rfl
  have hfs17 := blk_frozen BK71002.out 0
  have hns17_0 := NB71001_71002.out
  have hms17_0 := NB71002_71001.out
  have hs18 : w16.cell? ⟨gb71002, 1, none⟩ = some (.int .i64 0) := (blk_cell BK71002.out 1).trans rfl
  have hfs18 := blk_frozen BK71002.out 1
  have hns18_0 := NB71001_71002.out
  have hms18_0 := NB71002_71001.out
  have hs19 : w16.cell? ⟨gb71002, 2, none⟩ = some (.bool false) := (blk_cell BK71002.out 2).trans rfl
  have hfs19 := blk_frozen BK71002.out 2
  have hns19_0 := NB71001_71002.out
  have hms19_0 := NB71002_71001.out
  refine skip_ (w1 := ?_) (by rfl) rfl ?_ ?_
  rotate_left
  ·go_simp
   rfl
  refine hK.out _ _ ⟨((cell_far (p := ⟨gb71002, _, none⟩) NB71001_71002.out _).trans (((cell_far (p := ⟨gb71002, _, none⟩) NB71001_71002.out _).trans (((cell_far (p := ⟨gb71002, _, none⟩) NB71001_71002.out _).trans (hHeld.1)))))), ((cell_far (p := ⟨gb71002, _, none⟩) NB71001_71002.out _).trans (((cell_far (p := ⟨gb71002, _, none⟩) NB71001_71002.out _).trans (((cell_far (p := ⟨gb71002, _, none⟩) NB71001_71002.out _).trans (hHeld.2.1)))))), ((cell_far (p := ⟨gb71002, _, none⟩) NB71001_71002.out _).trans (((cell_far (p := ⟨gb71002, _, none⟩) NB71001_71002.out _).trans (((cell_far (p := ⟨gb71002, _, none⟩) NB71001_71002.out _).trans (hHeld.2.2))))))⟩ (fun hHeld => ?_)
  clear hK K
  refine done_ (done_of HT_.out (by kernel_rfl)) ?_
  try go_wp2
  refine bodyPost_ret (results_cell_row rfl _ _ gb71002 44 #[.int .i64 t71003, .int .i64 a2, .bool false] (0, 0) _ rfl (by refine blk_put (cs := #[.int .i64 t71003, .int .i64 a2, .bool false]) ?_ 2 _ rfl; refine blk_put (cs := #[.int .i64 t71003, .int .i64 0, .bool false]) ?_ 1 _ rfl; refine blk_put (cs := #[.int .i64 0, .int .i64 0, .bool false]) ?_ 0 _ rfl; exact BK71002.out) Try.underlying44 rfl (by kernel_rfl)) rfl ?_
  exact ⟨by first | rfl | (simp [errW_none, errW_some] <;> rfl) | (simp [*, errW_none, errW_some] <;> rfl), by repeat (first | exact HB.out | apply below_alloc | apply pw_below_drewN | apply below_drew1 | refine below_set ?_ GE71001.out | refine below_set ?_ GE71002.out)⟩

end Go.Proofs.Ytalpegglbfobiaa.G

namespace Go.Proofs.Ytalpegglbfobiaa.G
open Go.RowKit Go.Proofs.YtalpegglbfobiaaW.PrintWords Go.Proofs.YtalpegglbfobiaaW.PrintLast Go.Proofs.YtalpegglbfobiaaW.PrintMore
attribute [local go_sem] max2_int min2_int max_two min_two max_three min_three max_four min_four   -- for this text's walks alone
set_option linter.unusedVariables false
set_option linter.unusedSimpArgs false
def vR (r : S44) : Value := .agg #[.int .i64 r.f0, .int .i64 r.f1, .bool r.f2]
def nearR (r : S44) : Prop := -1099511627776 ≤ r.f0 ∧ r.f0 ≤ 1099511627776 ∧ r.f1 ≤ 1099511627776
theorem image_is (r : S44) (x : Int) (h : nearR r) (h0 : -1099511627776 ≤ x) (h1 : x ≤ 1099511627776) : iso_image.f r.f0 r.f1 r.f2 x = some (img r x) := by
 have := h.1; have := h.2.1
 have e1 : wrap64 (r.f0 - x) = r.f0 - x := by unfold wrap64; omega
 have e2 : wrap64 (r.f0 + x) = r.f0 + x := by unfold wrap64; omega
 unfold iso_image.f img
 rw [e1, e2]
 split <;> rfl
theorem part_is (r : S44) (x n : Int) (h : nearR r) (h0 : -1099511627776 ≤ x) (h1 : x ≤ 1099511627776) : iso_part.f r.f0 r.f1 r.f2 x n = some ((partR r x n).f0, (partR r x n).f1, (partR r x n).f2) := by
 unfold iso_part.f
 rw [image_is r x h h0 h1, Option.bind_some]
 cases hb : r.f2 <;> simp [partR, hb]
theorem part_calls (r : S44) (x n : Int) (w : World) (h : nearR r) (h0 : -1099511627776 ≤ x) (h1 : x ≤ 1099511627776) : Calls Try.prog 70 #[.agg #[.int .i64 r.f0, .int .i64 r.f1, .bool r.f2], .int .i64 x, .int .i64 n] w fun e w' => e = .returned (.agg #[.int .i64 (partR r x n).f0, .int .i64 (partR r x n).f1, .bool (partR r x n).f2]) ∧ Below w.heap.size w w' :=
 iso_part.calls _ _ _ _ _ _ _ _ w (part_is r x n h h0 h1)
theorem pieces_append (a b : List S44) : ∀ (at_ f t : Int), pieces (a ++ b) at_ f t = pieces a at_ f t ++ pieces b (at_ + tot13 a) f t := by
 induction a with
 | nil => intro at_ f t; simp [pieces, tot13]
 | cons r a ih => intro at_ f t; simp only [List.cons_append, pieces]; rw [ih, tot13_cons, List.append_assoc, Int.add_assoc]
theorem tot13_bound (m : List S44) (h : ∀ r ∈ m, 0 ≤ r.f1 ∧ r.f1 ≤ 17179869184) : 0 ≤ tot13 m ∧ tot13 m ≤ m.length * 17179869184 := by
 induction m with
 | nil => simp [tot13]
 | cons r m ih => have := ih (fun x hx => h x (by simp [hx])); have := h r (by simp); rw [tot13_cons, List.length_cons]; omega
set_option maxRecDepth 100000 in
set_option maxHeartbeats 8000000 in
theorem each_add (g N : Nat) (Inv : List S44 → World → Prop) (ok : S44 → Prop)
  (Dirty : World → Nat → Prop) (hd : ∀ ps W k, Inv ps W → Dirty W k → k < W.heap.size)
  (hmono : ∀ ps W W', Inv ps W → Below W.heap.size W W' → Inv ps W' ∧ ∀ k, Dirty W' k → Dirty W k)
  (hstep : ∀ ps r W, ps.length < N → Inv ps W → ok r → Calls Try.prog 56 #[.pointer (some ⟨g, 0, none⟩), .agg #[.int .i64 r.f0, .int .i64 r.f1, .bool r.f2]] W fun e W' => e = .returned (.tuple #[]) ∧ Inv (ps ++ [r]) W' ∧ Below g W W' ∧ ∀ X o, W.heap[X]? = some o → ¬ Dirty W X → W'.heap[X]? = some o)
  (A0 : Option Addr) (c0 : Nat) (m : List S44) (f t : Int) (ps0 : List S44) (w0 w : World) (hr : Kd.C k44 w0 A0 m.length m) (hc : m.length ≤ c0) (hg : w0.heap.size ≤ g) (hb : Below w0.heap.size w0 w) (hi : Inv ps0 w)
  (hN : ps0.length + m.length ≤ N) (hl : m.length ≤ 65536) (hm : ∀ r ∈ m, 0 ≤ r.f0 ∧ r.f0 ≤ 17179869184 ∧ 1 ≤ r.f1 ∧ r.f1 ≤ 17179869184) (hf : 0 ≤ f ∧ f ≤ 1099511627776) (ht : 0 ≤ t ∧ t ≤ 1099511627776)
  (hok : ∀ r ∈ m, ∀ a n, 0 ≤ a → 1 ≤ n → a + n ≤ r.f1 → ok (partR r a n)) :
  Calls Try.prog 65 #[.slice A0 m.length c0, .int .i64 f, .int .i64 t, .func (.func 56) #[.pointer (some ⟨g, 0, none⟩)] #[]] w fun e w' => e = .returned (.tuple #[]) ∧ Inv (ps0 ++ pieces m 0 f t) w' ∧ Below w0.heap.size w0 w' := by
 have HR := Aside0.mk hr
 have HC := Aside0.mk hc
 have HG := Aside0.mk hg
 have HM := Aside0.mk hm
 have HOK := Aside0.mk hok
 have HS := Aside0.mk hstep
 have HMo := Aside0.mk hmono
 have HD := Aside0.mk hd
 have HI := Aside0.mk hi
 have HB0 := Aside0.mk hb
 have HF := Aside0.mk hf
 have HT := Aside0.mk ht
 clear hr hc hg hm hok hstep hmono hi hb hf ht hd
 go_enter Try.func65, Try.ntmps65
 go_wp2
 go_loopw [8, 15] (fun a i wr => ∃ kk : Nat, i = .int .i64 kk ∧ a = .int .i64 (tot13 (m.take kk)) ∧ Aside0 (kk ≤ m.length) ∧ Aside0 (Inv (ps0 ++ pieces (m.take kk) 0 f t) wr) ∧ Aside0 (Below w0.heap.size w0 wr))
  (fun _ i _ => m.length - (intOf i).toNat)
 case atStart => exact ⟨0, rfl, by simp [tot13], ⟨Nat.zero_le _⟩, ⟨by simpa [pieces] using HI.out⟩, HB0⟩
 case round =>
  obtain ⟨kk, rfl, rfl, HK, HI1, HB⟩ := hrel
  by_cases hk : kk < m.length
  ·have hk1 : (kk : Int) < (m.length : Int) := by omega
   have hd0 : decide (kk < m.length) = true := by simpa using hk
   obtain ⟨ad, rfl, hz0, hz1, hz2⟩ := at_T44 (Kd.C_below HR.out HB.out) (kk : Int) (by omega) hk1
   simp only [Int.toNat_natCast] at hz0 hz1 hz2
   have hpl := Aside0.mk (show (ps0 ++ pieces (m.take kk) 0 f t).length < N by have := pieces_len (m.take kk) 0 f t; rw [List.length_take] at this; rw [List.length_append]; omega)
   have hrm := Aside0.mk (show rd_T44 m kk ∈ m by simp [rd_T44, List.getD_eq_getElem?_getD, List.getElem?_eq_getElem hk])
   have hsn := Aside0.mk (show m.take (kk + 1) = m.take kk ++ [rd_T44 m kk] by rw [List.take_succ_eq_append_getElem hk]; simp [rd_T44, List.getD_eq_getElem?_getD, List.getElem?_eq_getElem hk])
   have hv := HM.out _ hrm.out
   have htb := tot13_bound (m.take kk) (fun r hr => by have := HM.out r (List.mem_of_mem_take hr); omega)
   have htl : (m.take kk).length ≤ 65536 := by rw [List.length_take]; omega
   have hpn := Aside0.mk (show pieces (m.take (kk + 1)) 0 f t = pieces (m.take kk) 0 f t ++ (if max f (tot13 (m.take kk)) < min t (tot13 (m.take kk) + (rd_T44 m kk).f1) then [partR (rd_T44 m kk) (max f (tot13 (m.take kk)) - tot13 (m.take kk)) (min t (tot13 (m.take kk) + (rd_T44 m kk).f1) - max f (tot13 (m.take kk)))] else []) by rw [hsn.out, pieces_append]; simp [pieces])
   have htn := Aside0.mk (show tot13 (m.take (kk + 1)) = tot13 (m.take kk) + (rd_T44 m kk).f1 by rw [hsn.out, tot13_append]; simp [tot13])
   have hokr := Aside0.mk (HOK.out _ hrm.out)
   generalize tot13 (m.take kk) = a at *
   generalize rd_T44 m kk = x at *
   have hw1 : wrap64 (a + x.f1) = a + x.f1 := by unfold wrap64; omega
   go_wp2
   go_quiet (fail)
   rename_i nq
   have e1 : (if f < a then a else f) = max f a := by split <;> omega
   have e2 : (if a + x.f1 < t then a + x.f1 else t) = min t (a + x.f1) := by split <;> omega
   rw [e1, e2]
   clear e1 e2
   have hp : 0 ≤ max f a ∧ max f a ≤ 1125904201809920 := by have := HF.out; omega
   have hq : min t (a + x.f1) ≤ 1099511627776 := by have := HT.out; omega
   have hp2 : a ≤ max f a := by omega
   have hq2 : min t (a + x.f1) ≤ a + x.f1 := by omega
   have HB1 := Aside0.mk (pw_below_drewN (HB.out.alloc HB.out.size (.cells #[.int .i64 x.f0, .int .i64 x.f1, .bool x.f2] 44)) nq)
   have HBw := Aside0.mk (pw_below_drewN ((Below.refl wr.heap.size wr).alloc (Nat.le_refl _) (.cells #[.int .i64 x.f0, .int .i64 x.f1, .bool x.f2] 44)) nq)
   have HX := Aside0.mk (blk_drewN (World.alloc_heap_new wr (.cells #[.int .i64 x.f0, .int .i64 x.f1, .bool x.f2] 44)) nq)
   have HI2 := Aside0.mk (HMo.out _ _ _ HI1.out HBw.out).1
   have HN := Aside0.mk (show ¬ Dirty ((wr.alloc (.cells #[.int .i64 x.f0, .int .i64 x.f1, .bool x.f2] 44)).drewN nq) wr.heap.size from fun h => Nat.lt_irrefl _ (HD.out _ _ _ HI1.out ((HMo.out _ _ _ HI1.out HBw.out).2 _ h)))
   generalize max f a = p at *
   generalize min t (a + x.f1) = q at *
   generalize (wr.alloc (.cells #[.int .i64 x.f0, .int .i64 x.f1, .bool x.f2] 44)).drewN nq = w1 at *
   have hz0' := blk_cell HX.out 0
   have hz1' := blk_cell HX.out 1
   have hz2' := blk_cell HX.out 2
   by_cases hpq : p < q
   ·have hpqb : decide (p < q) = true := by simpa using hpq
    have e3 : wrap64 (p - a) = p - a := by unfold wrap64; omega
    have e4 : wrap64 (q - p) = q - p := by unfold wrap64; omega
    have hnx : nearR x := ⟨by omega, by omega, by omega⟩
    go_wp2_with (first | (go_at_call 70; (with_reducible refine (part_calls x (p - a) (q - p) _ hnx (by omega) (by omega)).mono ?_); rintro e w2 ⟨rfl, hb2⟩; have HB2 := Aside0.mk (below_then HB1.out HB1.out.size hb2); have HI3 := Aside0.mk (HMo.out _ _ _ HI2.out hb2).1; have HN3 := Aside0.mk (show ¬ Dirty w2 wr.heap.size from fun h => HN.out ((HMo.out _ _ _ HI2.out hb2).2 _ h)); have HX2 := Aside0.mk (blk_below HX.out hb2); clear hb2) | (go_at_call 56; (with_reducible refine (HS.out _ (partR x (p - a) (q - p)) _ hpl.out HI3.out (hokr.out _ _ (by omega) (by omega) (by omega))).mono ?_); rintro e w3 ⟨rfl, hi4, hb3, hfr⟩; have HI4 := Aside0.mk hi4; have HX3 := Aside0.mk (hfr _ _ HX2.out HN3.out); have HB3 := Aside0.mk (HB2.out.trans (hb3.mono HG.out)); clear hi4 hb3 hfr; have hy1 := blk_cell HX3.out 1))
    go_roundw
    case rel => exact ⟨kk + 1, by go_num, by rw [htn.out], ⟨by omega⟩, ⟨by rw [hpn.out, if_pos hpq, ← List.append_assoc]; exact HI4.out⟩, HB3⟩
    case measure => simp [intOf]; omega
   ·have hpqb : decide (p < q) = false := by simpa using hpq
    go_wp2
    go_roundw
    case rel => exact ⟨kk + 1, by go_num, by rw [htn.out], ⟨by omega⟩, ⟨by rw [hpn.out, if_neg hpq, List.append_nil]; exact HI2.out⟩, HB1⟩
    case measure => simp [intOf]; omega
  ·have hd0 : decide (kk < m.length) = false := by simpa using hk
   have hfin := Aside0.mk (show m.take kk = m from List.take_of_length_le (by omega))
   go_wp2
   (try simp only [Exit.inBlock, Exit.then]); refine bodyPost_end (results_none rfl _ _ _) rfl ?_
   exact ⟨rfl, by have := HI1.out; rwa [hfin.out] at this, HB.out⟩
end Go.Proofs.Ytalpegglbfobiaa.G

namespace Go.Proofs.Ytalpegglbfobiaa.G
open Go.RowKit Go.Proofs.YtalpegglbfobiaaW.PrintWords Go.Proofs.YtalpegglbfobiaaW.PrintLast Go.Proofs.YtalpegglbfobiaaW.PrintMore
attribute [local go_sem] max2_int min2_int max_two min_two max_three min_three max_four min_four   -- for this text's walks alone
set_option linter.unusedVariables false
set_option linter.unusedSimpArgs false
structure Bld (g : Nat) (v : Value) (l : List S44) (W : World) : Prop where
 c : W.heap[g]? = some (.cells #[v] 73 (0, 0))
 o : Kd.R k44 44 W g (fun k => k ≠ g) v l
def KeptB (g : Nat) (v : Value) (w w' : World) : Prop := ∀ X o, w.heap[X]? = some o → X ≠ g → v.ownBlock ≠ some X → w'.heap[X]? = some o
theorem KeptB.below {g : Nat} {v : Value} {w w' : World} (h : Below w.heap.size w w') : KeptB g v w w' := fun X o hx _ _ => blk_below hx h
theorem KeptB.trans {g : Nat} {v v' : Value} {w w1 w2 : World} (h : KeptB g v w w1) (k : KeptB g v' w1 w2) (hv : ∀ X, v'.ownBlock = some X → v.ownBlock = some X ∨ w.heap.size ≤ X) : KeptB g v w w2 :=
 fun X o hx hg hn => k X o (h X o hx hg hn) hg (fun e => by rcases hv X e with e1 | e1; exact hn e1; have := blk_lt hx; omega)
theorem KeptB.grown {g : Nat} {v : Value} {w W W' : World} (h : KeptB g v w W) (hg : W.grownBy W' v.ownBlock) : KeptB g v w W' :=
 fun X o hx h1 h2 => blk_grown (h X o hx h1 h2) hg (fun e => h2 e.symm)
theorem KeptB.put {g : Nat} {v : Value} {w W : World} (h : KeptB g v w W) (u : Value) : KeptB g v w (W.setCell ⟨g, 0, none⟩ u) :=
 fun X o hx h1 h2 => (Below.heap_setCell W ⟨g, 0, none⟩ u X h1).trans (h X o hx h1 h2)
def Own (v v' : Value) (w : World) : Prop := ∀ k, v'.ownBlock = some k → v.ownBlock = some k ∨ w.heap.size ≤ k
theorem Own.of {v v1 : Value} {w W : World} (h : v1.ownBlock = v.ownBlock ∨ ∃ b, v1.ownBlock = some b ∧ W.heap.size ≤ b) (hw : w.heap.size ≤ W.heap.size) : Own v v1 w := by
 intro k hk
 rcases h with h | ⟨b, h, hb⟩
 ·exact .inl (h ▸ hk)
 ·rw [hk] at h; injection h with h; exact .inr (by omega)
theorem Bld.below {g : Nat} {v : Value} {l : List S44} {W W' : World} (h : Bld g v l W) (hb : Below W.heap.size W W') : Bld g v l W' := ⟨blk_below h.c hb, Kd.R_below h.o hb⟩
theorem Bld.lt {g : Nat} {v : Value} {l : List S44} {W : World} (h : Bld g v l W) : g < W.heap.size := blk_lt h.c
theorem Bld.base {g : Nat} {v : Value} {l : List S44} {W : World} (h : Bld g v l W) {k : Nat} (hk : v.ownBlock = some k) : k ≠ g ∧ k < W.heap.size := ⟨h.o.1 k hk, Kd.R_lt h.o k hk⟩
set_option maxRecDepth 100000 in
set_option maxHeartbeats 4000000 in
theorem add_none (g : Nat) (v : Value) (l : List S44) (r : S44) (w : World) (hB : Bld g v l w) (h : r.f1 < 1) :
  Calls Try.prog 56 #[.pointer (some ⟨g, 0, none⟩), .agg #[.int .i64 r.f0, .int .i64 r.f1, .bool r.f2]] w fun e w' => e = .returned (.tuple #[]) ∧ Bld g v l w' ∧ Below w.heap.size w w' := by
 have h1 : decide (r.f1 < 1) = true := by simpa using h
 have HB := Aside0.mk (hB.below ((Below.refl _ _).alloc (Nat.le_refl _) (.cells #[.int .i64 r.f0, .int .i64 r.f1, .bool r.f2] 44)))
 clear hB h
 go_enter Try.func56, Try.ntmps56
 go_wp2
 refine bodyPost_ret (results_none rfl _ _ _) rfl ?_
 exact ⟨rfl, HB.out, (Below.refl _ _).alloc (Nat.le_refl _) _⟩
set_option maxRecDepth 100000 in
set_option maxHeartbeats 8000000 in
theorem add_first (g : Nat) (v : Value) (r : S44) (w : World) (hB : Bld g v [] w) (h : 1 ≤ r.f1) (hn : nearR r) :
  Calls Try.prog 56 #[.pointer (some ⟨g, 0, none⟩), .agg #[.int .i64 r.f0, .int .i64 r.f1, .bool r.f2]] w fun e w' => e = .returned (.tuple #[]) ∧ (∃ v', Bld g v' [partR r 0 r.f1] w' ∧ Own v v' w) ∧ Below g w w' ∧ KeptB g v w w' := by
 have h1 : decide (r.f1 < 1) = false := by simp; omega
 have hnx := Aside0.mk hn
 have HBW := Aside0.mk ((Below.refl w.heap.size w).alloc (Nat.le_refl _) (.cells #[.int .i64 r.f0, .int .i64 r.f1, .bool r.f2] 44))
 have HB1 := Aside0.mk (hB.below HBW.out)
 have HK := Aside0.mk (KeptB.below (g := g) (v := v) HBW.out)
 have HB := Aside0.mk (HBW.out.mono (Nat.le_of_lt hB.lt))
 have HX := Aside0.mk (World.alloc_heap_new w (.cells #[.int .i64 r.f0, .int .i64 r.f1, .bool r.f2] 44))
 have HNX := Aside0.mk (show v.ownBlock ≠ some w.heap.size from fun e => Nat.lt_irrefl _ (hB.base e).2)
 have HL := Aside0.mk (show ([] : List S44).length + 1 ≤ 1000000 by simp)
 have HZ := Aside0.mk (show g ≤ (w.alloc (.cells #[.int .i64 r.f0, .int .i64 r.f1, .bool r.f2] 44)).heap.size by have := hB.lt; simp; omega)
 have HWS := Aside0.mk (show w.heap.size ≤ (w.alloc (.cells #[.int .i64 r.f0, .int .i64 r.f1, .bool r.f2] 44)).heap.size by simp)
 obtain ⟨A, c, e, _, _⟩ := Kd.R_reads hB.o
 subst e
 have hq : (w.alloc (.cells #[.int .i64 r.f0, .int .i64 r.f1, .bool r.f2] 44)).cell? ⟨g, 0, none⟩ = some (.slice A ([] : List S44).length c) := blk_cell HB1.out.c 0
 have hx1 : (w.alloc (.cells #[.int .i64 r.f0, .int .i64 r.f1, .bool r.f2] 44)).cell? ⟨w.heap.size, 1, none⟩ = some (.int .i64 r.f1) := blk_cell HX.out 1
 clear hB h hn
 go_enter Try.func56, Try.ntmps56
 go_wp2
 have HC := Aside0.mk HB1.out.c
 have HO := Aside0.mk HB1.out.o
 clear HB1 hq hx1 HBW
 generalize hv_ : (Value.slice A ([] : List S44).length c) = v at *
 generalize w.alloc _ = w1 at *
 generalize hgX_ : w.heap.size = gX at HX HNX ⊢
 generalize hl_ : ([] : List S44) = l at *
 refine start_ (n := 14) (S := fun w' => w'.cell? ⟨g, 0, none⟩ = some v ∧ w'.cell? ⟨gX, 0, none⟩ = some (.int .i64 r.f0) ∧ w'.cell? ⟨gX, 1, none⟩ = some (.int .i64 r.f1) ∧ w'.cell? ⟨gX, 2, none⟩ = some (.bool r.f2)) (ds := [13]) #[false, false, false, false, false, false, false, false, false, false, false, false, false, false] (by kernel_rfl) rfl rfl ⟨(blk_cell HC.out 0).trans rfl, (blk_cell HX.out 0).trans rfl, (blk_cell HX.out 1).trans rfl, (blk_cell HX.out 2).trans rfl⟩ (fun hHeld => ?_)
 generalize hwy_ : w1.drew = wy at hHeld ⊢
 replace HC := Aside0.mk (hwy_ ▸ blk_drew HC.out)
 replace HX := Aside0.mk (hwy_ ▸ blk_drew HX.out)
 replace HO := Aside0.mk (hwy_ ▸ Kd.R_drew HO.out)
 replace HB := Aside0.mk (hwy_ ▸ HB.out.drew)
 replace HZ := Aside0.mk (show g ≤ wy.heap.size from hwy_ ▸ HZ.out)
 replace HWS := Aside0.mk (show w.heap.size ≤ wy.heap.size from hwy_ ▸ HWS.out)
 replace HK := Aside0.mk (show KeptB g v w wy from hwy_ ▸ HK.out)
 clear hwy_
 refine pv_ 0 (some 18) ?_
 refine pv_ 1 (some 19) ?_
 refine pv_ 2 (some 20) ?_
 refine pv_ 3 (some 21) ?_
 refine pv_ 6 (some 24) ?_
 refine tv_ 4 (some 22) hHeld ?_ (hy := .inl ⟨by rfl, by rintro w' ⟨s0, s1, s2, s3⟩; go_simp; with_reducible rfl⟩)
 refine tv_ 5 (some 23) hHeld ?_ (hy := .inl ⟨by rfl, by rintro w' ⟨s0, s1, s2, s3⟩; go_simp; with_reducible rfl⟩)
 refine tv_ 7 (some 25) hHeld ?_ (hy := .inl ⟨by rfl, by rintro w' ⟨s0, s1, s2, s3⟩; go_simp; with_reducible rfl⟩)
 refine one_ (i := 8) (N := some 26) #[true, true, true, true, true, true, true, true, true, false, false, false, false, false] rfl rfl (by kernel_rfl) (by decide) (fun K hK => ?_)
 refine goes_ Try.func70 (by kernel_rfl) rfl #[.agg #[.int .i64 r.f0, .int .i64 r.f1, .bool r.f2], .int .i64 0, .int .i64 r.f1] (by rfl) rfl rfl (by simp only [List.map_toArray, List.map_cons, List.map_nil]; rfl) ?_
 with_reducible refine (part_calls r 0 r.f1 _ hnx.out (by omega) (by omega)).mono ?_
 rintro e w3 ⟨rfl, hb3⟩
 refine ⟨_, rfl, ?_⟩
 replace HC := Aside0.mk (blk_below HC.out hb3)
 replace HX := Aside0.mk (blk_below HX.out hb3)
 replace HO := Aside0.mk (Kd.R_below HO.out hb3)
 replace HB := Aside0.mk (HB.out.trans (hb3.mono HZ.out))
 replace HZ := Aside0.mk (Nat.le_trans HZ.out hb3.size)
 replace HWS := Aside0.mk (Nat.le_trans HWS.out hb3.size)
 replace HK := Aside0.mk (HK.out.trans (KeptB.below hb3) (fun X e => Or.inl e))
 clear hb3
 generalize hp_ : partR r 0 r.f1 = p
 refine hK.out _ _ ⟨(blk_cell HC.out 0).trans rfl, (blk_cell HX.out 0).trans rfl, (blk_cell HX.out 1).trans rfl, (blk_cell HX.out 2).trans rfl⟩ (fun hHeld => ?_)
 clear hK K
 refine norm_ (a' := ?_) ?_ ?_
 rotate_left
 ·show Act.put _ (some 26) _ = _
  simp only [Act.put, List.setIfInBounds_toArray, List.set_cons_zero, List.set_cons_succ, i64_w, i32_w]
  rfl
 refine one_ (i := 9) (N := some 27) #[true, true, true, true, true, true, true, true, true, true, false, false, false, false] rfl rfl (by kernel_rfl) (by decide) (fun K hK => ?_)
 refine value_ (w1 := ?_) (v := ?_) (by rfl) rfl ?_ ?_
 rotate_left 2
 ·go_simp
  constructor
  ·rfl
  ·rfl
 refine hK.out _ _ ⟨(blk_cell (blk_alloc HC.out _) 0).trans rfl, (blk_cell (blk_alloc HX.out _) 0).trans rfl, (blk_cell (blk_alloc HX.out _) 1).trans rfl, (blk_cell (blk_alloc HX.out _) 2).trans rfl⟩ (fun hHeld => ?_)
 clear hK K
 refine norm_ (a' := ?_) ?_ ?_
 rotate_left
 ·show Act.put _ (some 27) _ = _
  simp only [Act.put, List.setIfInBounds_toArray, List.set_cons_zero, List.set_cons_succ, i64_w, i32_w]
  rfl
 refine one_ (i := 10) (N := some 28) #[true, true, true, true, true, true, true, true, true, true, true, false, false, false] rfl rfl (by kernel_rfl) (by decide) (fun K hK => ?_)
 refine Kd.R_append_step k44 (w0 := w) g (by rfl) (.tmp 22) (.tmp 27) 22 44 (.agg #[(.int .i64 0), (.int .i64 0), (.bool false)]) 24 rfl Try.underlying22 info44 rfl (by decide) (by omega) v l p [.int .i64 p.f0, .int .i64 p.f1, .bool p.f2] (fun k => k ≠ g) (fun _ => False) rfl rfl ?aP (fun _ hk => hk.elim) ?aF ?aO ?aB ?aS ?aL ?_
 (case aP => exact k44_mkM _ _ _ p)
 (case aB => exact HB.out)
 (case aF => exact fun k hk => by have := blk_lt HC.out; omega)
 (case aO => exact HO.out)
 (case aS => exact HZ.out)
 (case aL => have := HL.out; omega)
 intro v' w5 ho hb5 hg5 hat5
 replace HC := Aside0.mk (blk_grown HC.out hg5 (fun e => HO.out.1 g e.symm rfl))
 replace HX := Aside0.mk (blk_grown HX.out hg5 (fun e => HNX.out e.symm))
 replace HO := Aside0.mk ho
 replace HB := Aside0.mk hb5
 replace HK := Aside0.mk (HK.out.grown hg5)
 have HAT := Aside0.mk (Own.of hat5 HWS.out)
 clear ho hb5 hg5 hat5
 obtain ⟨A5, c5, e5, _, _⟩ := Kd.R_reads HO.out
 subst e5
 have hgc := blk_cell HC.out 0
 have hgf : w5.frozen? ⟨g, 0, none⟩ = false := by simp [World.frozen?, HC.out]
 refine hK.out _ _ ⟨(blk_cell HC.out 0).trans rfl, (blk_cell HX.out 0).trans rfl, (blk_cell HX.out 1).trans rfl, (blk_cell HX.out 2).trans rfl⟩ (fun hHeld => ?_)
 clear hK K
 refine norm_ (a' := ?_) ?_ ?_
 rotate_left
 ·show Act.put _ (some 28) _ = _
  simp only [Act.put, List.setIfInBounds_toArray, List.set_cons_zero, List.set_cons_succ, i64_w, i32_w]
  rfl
 refine pv_ 11 (some 29) ?_
 refine pv_ 12 (some 30) ?_
 refine last_ (i := 13) (N := none) #[true, true, true, true, true, true, true, true, true, true, true, true, true, true] rfl rfl (by kernel_rfl) (by decide) (fun K hK => ?_)
 refine skip_ (w1 := ?_) (by rfl) rfl ?_ ?_
 rotate_left
 ·go_simp
  rfl
 refine hK.out _ _ ?_
 clear hK K
 refine done_ (by kernel_rfl) ?_
 try go_wp2
 subst hv_
 subst hp_
 subst hl_
 refine bodyPost_ret (results_none rfl _ _ _) rfl ?_
 refine ⟨rfl, ⟨_, ⟨blk_set HC.out 0 _, Kd.R_far HO.out (fun k hk => hk) _⟩, HAT.out⟩, HB.out.setCell (p := ⟨g, 0, none⟩) (Nat.le_refl _) _, HK.out.put _⟩
theorem image_far (r : S44) (x : Int) (h : (-1099511627776 ≤ r.f0 ∧ r.f0 ≤ 1099511627776) ∧ 1 ≤ r.f1 ∧ r.f1 ≤ 1125899906842624) (h0 : -1125899906842624 ≤ x) (h1 : x ≤ 1125899906842624) : iso_image.f r.f0 r.f1 r.f2 x = some (img r x) := by
 have := h.1
 have e1 : wrap64 (r.f0 - x) = r.f0 - x := by unfold wrap64; omega
 have e2 : wrap64 (r.f0 + x) = r.f0 + x := by unfold wrap64; omega
 unfold iso_image.f img
 rw [e1, e2]
 split <;> rfl
set_option maxRecDepth 100000 in
set_option maxHeartbeats 16000000 in
theorem add_new (g m : Nat) (v : Value) (l : List S44) (r : S44) (w : World) (hB : Bld g v l w) (hm : l.length = m + 1) (hl : l.length + 1 ≤ 1000000) (hbt : (-1099511627776 ≤ (rd_T44 l (m : Int)).f0 ∧ (rd_T44 l (m : Int)).f0 ≤ 1099511627776) ∧ 1 ≤ (rd_T44 l (m : Int)).f1 ∧ (rd_T44 l (m : Int)).f1 ≤ 1125899906842624)
  (h : 1 ≤ r.f1) (hn : nearR r) (hj : ¬ joins r (rd_T44 l (m : Int))) :
  Calls Try.prog 56 #[.pointer (some ⟨g, 0, none⟩), .agg #[.int .i64 r.f0, .int .i64 r.f1, .bool r.f2]] w fun e w' => e = .returned (.tuple #[]) ∧ (∃ v', Bld g v' (l ++ [partR r 0 r.f1]) w' ∧ Own v v' w) ∧ Below g w w' ∧ KeptB g v w w' := by
 have h1 : decide (r.f1 < 1) = false := by simp; omega
 have hnx := Aside0.mk hn
 have HBW := Aside0.mk ((Below.refl w.heap.size w).alloc (Nat.le_refl _) (.cells #[.int .i64 r.f0, .int .i64 r.f1, .bool r.f2] 44))
 have HB1 := Aside0.mk (hB.below HBW.out)
 have HX1 := World.alloc_heap_new w (.cells #[.int .i64 r.f0, .int .i64 r.f1, .bool r.f2] 44)
 obtain ⟨gO, cO, e, hgO, hgO2, _⟩ := Kd.R_form hB.o (by omega)
 subst e
 have hbo := hB.base (k := gO) rfl
 obtain ⟨ad, ea, hy0, hy1, hy2⟩ := at_T44 (Kd.R_reads' HB1.out.o).2.2 (m : Int) (by omega) (by omega)
 injection ea with ea
 subst ea
 simp only [add_plain, Int.toNat_natCast] at hy0 hy1 hy2
 have hq : (w.alloc (.cells #[.int .i64 r.f0, .int .i64 r.f1, .bool r.f2] 44)).cell? ⟨g, 0, none⟩ = some (.slice (some ⟨gO, 0, none⟩) (m + 1) cO) := by rw [← hm]; exact blk_cell HB1.out.c 0
 have hx1 : (w.alloc (.cells #[.int .i64 r.f0, .int .i64 r.f1, .bool r.f2] 44)).cell? ⟨w.heap.size, 1, none⟩ = some (.int .i64 r.f1) := blk_cell HX1 1
 generalize ht : rd_T44 l (m : Int) = t at *
 have HBY := Aside0.mk (HBW.out.alloc HBW.out.size (.cells #[.int .i64 t.f0, .int .i64 t.f1, .bool t.f2] 44))
 have HK := Aside0.mk (KeptB.below (g := g) (v := .slice (some ⟨gO, 0, none⟩) (m + 1) cO) HBY.out)
 have HB := Aside0.mk (HBY.out.mono (Nat.le_of_lt hB.lt))
 have HB2 := Aside0.mk (hB.below HBY.out)
 have HX := Aside0.mk (blk_alloc HX1 (.cells #[.int .i64 t.f0, .int .i64 t.f1, .bool t.f2] 44))
 have HY := Aside0.mk (World.alloc_heap_new (w.alloc (.cells #[.int .i64 r.f0, .int .i64 r.f1, .bool r.f2] 44)) (.cells #[.int .i64 t.f0, .int .i64 t.f1, .bool t.f2] 44))
 rw [World.size_alloc] at HY
 have HNX := Aside0.mk (show (Value.slice (some ⟨gO, 0, none⟩) (m + 1) cO).ownBlock ≠ some w.heap.size from fun e => by have e2 := Option.some.inj e; have h2 := hbo.2; simp only at e2; omega)
 have HNY := Aside0.mk (show (Value.slice (some ⟨gO, 0, none⟩) (m + 1) cO).ownBlock ≠ some (w.heap.size + 1) from fun e => by have e2 := Option.some.inj e; have h2 := hbo.2; simp only at e2; omega)
 have HL := Aside0.mk hl
 have HZ := Aside0.mk (show g ≤ ((w.alloc (.cells #[.int .i64 r.f0, .int .i64 r.f1, .bool r.f2] 44)).alloc (.cells #[.int .i64 t.f0, .int .i64 t.f1, .bool t.f2] 44)).heap.size by have := hB.lt; simp; omega)
 have HWS := Aside0.mk (show w.heap.size ≤ ((w.alloc (.cells #[.int .i64 r.f0, .int .i64 r.f1, .bool r.f2] 44)).alloc (.cells #[.int .i64 t.f0, .int .i64 t.f1, .bool t.f2] 44)).heap.size by simp; omega)
 have hw1 : IntKind.i64.wrap (m : Int) = (m : Int) := by rw [i64_w]; unfold wrap64; omega
 have hm0 : 0 ≤ (m : Int) := by omega
 have hmt : ((m : Int)).toNat = m := by omega
 have he0 : ((m : Int) + 1 == 0) = false := by simp; omega
 have HM := Aside0.mk hm
 have hnt := Aside0.mk hbt
 have HIM := Aside0.mk (show ∀ W, Calls Try.prog 69 #[.agg #[.int .i64 t.f0, .int .i64 t.f1, .bool t.f2], .int .i64 (wrap64 (t.f1 - 1))] W fun e w' => e = .returned (.int .i64 (img t (t.f1 - 1))) ∧ Below W.heap.size W w' from fun W => by
  have e : wrap64 (t.f1 - 1) = t.f1 - 1 := by unfold wrap64; have := hbt.1; have := hbt.2; omega
  rw [e]
  exact iso_image.calls _ _ _ _ _ W (image_far t (t.f1 - 1) hbt (by have := hbt.2; omega) (by have := hbt.2; omega)))
 have hgoes : wrap64 (r.f0 - img t (t.f1 - 1)) = goes r t := by
  unfold wrap64 goes img
  have := hbt.1; have := hbt.2; have := hn.1; have := hn.2.1
  split <;> omega
 clear hB h hn hbo hgO hgO2 hl hbt
 go_enter Try.func56, Try.ntmps56
 go_wp2
 have HC := Aside0.mk (show ((w.alloc (.cells #[.int .i64 r.f0, .int .i64 r.f1, .bool r.f2] 44)).alloc (.cells #[.int .i64 t.f0, .int .i64 t.f1, .bool t.f2] 44)).heap[g]? = some (.cells #[.slice (some ⟨gO, 0, none⟩) (m + 1) cO] 73 (0, 0)) by have := HB2.out.c; rw [hm] at this; exact this)
 have HO := Aside0.mk (show Kd.R k44 44 ((w.alloc (.cells #[.int .i64 r.f0, .int .i64 r.f1, .bool r.f2] 44)).alloc (.cells #[.int .i64 t.f0, .int .i64 t.f1, .bool t.f2] 44)) g (fun k => k ≠ g) (.slice (some ⟨gO, 0, none⟩) (m + 1) cO) l by have := HB2.out.o; rw [hm] at this; exact this)
 clear HB1 HB2 HX1 hq hx1 HBW HBY hy0 hy1 hy2 hw1 hm0 he0
 generalize hv_ : (Value.slice (some ⟨gO, 0, none⟩) (m + 1) cO) = v at *
 generalize (w.alloc (.cells #[.int .i64 r.f0, .int .i64 r.f1, .bool r.f2] 44)).alloc _ = w1 at *
 generalize hgY_ : w.heap.size + 1 = gY at HY HNY ⊢
 generalize hgX_ : w.heap.size = gX at HX HNX ⊢
 refine start_ (n := 9) (S := fun w' => w'.cell? ⟨gX, 0, none⟩ = some (.int .i64 r.f0) ∧ w'.cell? ⟨gY, 0, none⟩ = some (.int .i64 t.f0) ∧ w'.cell? ⟨gY, 1, none⟩ = some (.int .i64 t.f1) ∧ w'.cell? ⟨gY, 2, none⟩ = some (.bool t.f2)) (ds := []) #[false, false, false, false, false, false, false, false, false] (by kernel_rfl) rfl rfl ⟨(blk_cell HX.out 0).trans rfl, (blk_cell HY.out 0).trans rfl, (blk_cell HY.out 1).trans rfl, (blk_cell HY.out 2).trans rfl⟩ (fun hHeld => ?_)
 generalize hwy_ : w1.drew = wy at hHeld ⊢
 replace HC := Aside0.mk (hwy_ ▸ blk_drew HC.out)
 replace HX := Aside0.mk (hwy_ ▸ blk_drew HX.out)
 replace HY := Aside0.mk (hwy_ ▸ blk_drew HY.out)
 replace HO := Aside0.mk (hwy_ ▸ Kd.R_drew HO.out)
 replace HB := Aside0.mk (hwy_ ▸ HB.out.drew)
 replace HZ := Aside0.mk (show g ≤ wy.heap.size from hwy_ ▸ HZ.out)
 replace HWS := Aside0.mk (show w.heap.size ≤ wy.heap.size from hwy_ ▸ HWS.out)
 replace HK := Aside0.mk (show KeptB g v w wy from hwy_ ▸ HK.out)
 clear hwy_
 refine pv_ 0 (some 39) ?_
 refine pv_ 3 (some 42) ?_
 refine tv_ 1 (some 40) hHeld ?_ (hy := .inl ⟨by rfl, by rintro w' ⟨s0, s1, s2, s3⟩; go_simp; with_reducible rfl⟩)
 refine tv_ 2 (some 41) hHeld ?_ (hy := .inl ⟨by rfl, by rintro w' ⟨s0, s1, s2, s3⟩; go_simp; with_reducible rfl⟩)
 refine tv_ 4 (some 43) hHeld ?_ (hy := .inl ⟨by rfl, by rintro w' ⟨s0, s1, s2, s3⟩; go_simp; with_reducible rfl⟩)
 refine pv_ 5 (some 44) ?_
 refine one_ (i := 6) (N := some 45) #[true, true, true, true, true, true, true, false, false] rfl rfl (by kernel_rfl) (by decide) (fun K hK => ?_)
 refine goes_ Try.func69 (by kernel_rfl) rfl #[.agg #[.int .i64 t.f0, .int .i64 t.f1, .bool t.f2], .int .i64 (wrap64 (t.f1 - 1))] (by rfl) rfl rfl (by simp only [List.map_toArray, List.map_cons, List.map_nil]; rfl) ?_
 with_reducible refine (HIM.out _).mono ?_
 rintro e w3 ⟨rfl, hb3⟩
 refine ⟨_, rfl, ?_⟩
 replace HC := Aside0.mk (blk_below HC.out hb3)
 replace HX := Aside0.mk (blk_below HX.out hb3)
 replace HY := Aside0.mk (blk_below HY.out hb3)
 replace HO := Aside0.mk (Kd.R_below HO.out hb3)
 replace HB := Aside0.mk (HB.out.trans (hb3.mono HZ.out))
 replace HK := Aside0.mk (HK.out.trans (KeptB.below hb3) (fun X e => Or.inl e))
 replace HZ := Aside0.mk (Nat.le_trans HZ.out hb3.size)
 replace HWS := Aside0.mk (Nat.le_trans HWS.out hb3.size)
 clear hb3
 refine hK.out _ _ ⟨(blk_cell HX.out 0).trans rfl, (blk_cell HY.out 0).trans rfl, (blk_cell HY.out 1).trans rfl, (blk_cell HY.out 2).trans rfl⟩ (fun hHeld => ?_)
 clear hK K
 refine norm_ (a' := ?_) ?_ ?_
 rotate_left
 ·show Act.put _ (some 45) _ = _
  simp only [Act.put, List.setIfInBounds_toArray, List.set_cons_zero, List.set_cons_succ, i64_w, i32_w]
  rfl
 refine pv_ 7 (some 46) ?_
 refine pv_ 8 (some 6) ?_
 refine done_ (by kernel_rfl) ?_
 rw [hgoes]
 clear hgoes HIM
 have hpath : (goes r t ≠ 1 ∧ goes r t ≠ -1) ∨ (goes r t = 1 ∧ 1 < t.f1 ∧ t.f2 = true) ∨ (goes r t = -1 ∧ 1 < t.f1 ∧ t.f2 = false) := by
  have hj' := hj
  unfold joins at hj'
  generalize goes r t = s at hj' ⊢
  by_cases e1 : s = 1
  ·subst e1
   refine Or.inr (Or.inl ⟨rfl, ?_⟩)
   cases hb : t.f2 <;> simp [hb] at hj' ⊢ <;> omega
  ·by_cases e2 : s = -1
   ·subst e2
    refine Or.inr (Or.inr ⟨rfl, ?_⟩)
    cases hb : t.f2 <;> simp [hb] at hj' ⊢ <;> omega
   ·exact Or.inl ⟨e1, e2⟩
 generalize goes r t = s at *
 clear ht hj
 obtain ⟨tc, tm, te⟩ := t
 have hyc := blk_cell HY.out 1
 have hyd := blk_cell HY.out 2
 rcases hpath with ⟨e1, e2⟩ | ⟨e1, e2, e3⟩ | ⟨e1, e2, e3⟩
 case' inl =>
  have t1 : (s != 1) = true := by simpa using e1
  have t2 : (s != -1) = true := by simpa using e2
  clear e1 e2
 case' inr.inl =>
  dsimp only at e2 e3
  subst e1
  subst e3
  have t3 : decide (1 < tm) = true := by simpa using e2
  clear e2
 case' inr.inr =>
  dsimp only at e2 e3
  subst e1
  subst e3
  have t3 : decide (1 < tm) = true := by simpa using e2
  clear e2
 all_goals
  go_wp2
  clear hyc hyd
  refine start_ (n := 14) (S := fun w' => w'.cell? ⟨g, 0, none⟩ = some v ∧ w'.cell? ⟨gX, 0, none⟩ = some (.int .i64 r.f0) ∧ w'.cell? ⟨gX, 1, none⟩ = some (.int .i64 r.f1) ∧ w'.cell? ⟨gX, 2, none⟩ = some (.bool r.f2)) (ds := [13]) #[false, false, false, false, false, false, false, false, false, false, false, false, false, false] (by kernel_rfl) rfl rfl ⟨(blk_cell HC.out 0).trans rfl, (blk_cell HX.out 0).trans rfl, (blk_cell HX.out 1).trans rfl, (blk_cell HX.out 2).trans rfl⟩ (fun hHeld => ?_)
  generalize hwy_ : w3.drew = wy at hHeld ⊢
  replace HC := Aside0.mk (hwy_ ▸ blk_drew HC.out)
  replace HX := Aside0.mk (hwy_ ▸ blk_drew HX.out)
  replace HO := Aside0.mk (hwy_ ▸ Kd.R_drew HO.out)
  replace HB := Aside0.mk (hwy_ ▸ HB.out.drew)
  replace HZ := Aside0.mk (show g ≤ wy.heap.size from hwy_ ▸ HZ.out)
  replace HWS := Aside0.mk (show w.heap.size ≤ wy.heap.size from hwy_ ▸ HWS.out)
  replace HK := Aside0.mk (show KeptB g v w wy from hwy_ ▸ HK.out)
  clear hwy_
  refine pv_ 0 (some 65) ?_
  refine pv_ 1 (some 66) ?_
  refine pv_ 2 (some 67) ?_
  refine pv_ 3 (some 68) ?_
  refine pv_ 6 (some 71) ?_
  refine tv_ 4 (some 69) hHeld ?_ (hy := .inl ⟨by rfl, by rintro w' ⟨s0, s1, s2, s3⟩; go_simp; with_reducible rfl⟩)
  refine tv_ 5 (some 70) hHeld ?_ (hy := .inl ⟨by rfl, by rintro w' ⟨s0, s1, s2, s3⟩; go_simp; with_reducible rfl⟩)
  refine tv_ 7 (some 72) hHeld ?_ (hy := .inl ⟨by rfl, by rintro w' ⟨s0, s1, s2, s3⟩; go_simp; with_reducible rfl⟩)
  refine one_ (i := 8) (N := some 73) #[true, true, true, true, true, true, true, true, true, false, false, false, false, false] rfl rfl (by kernel_rfl) (by decide) (fun K hK => ?_)
  refine goes_ Try.func70 (by kernel_rfl) rfl #[.agg #[.int .i64 r.f0, .int .i64 r.f1, .bool r.f2], .int .i64 0, .int .i64 r.f1] (by rfl) rfl rfl (by simp only [List.map_toArray, List.map_cons, List.map_nil]; rfl) ?_
  with_reducible refine (part_calls r 0 r.f1 _ hnx.out (by omega) (by omega)).mono ?_
  rintro e w3 ⟨rfl, hb3⟩
  refine ⟨_, rfl, ?_⟩
  replace HC := Aside0.mk (blk_below HC.out hb3)
  replace HX := Aside0.mk (blk_below HX.out hb3)
  replace HO := Aside0.mk (Kd.R_below HO.out hb3)
  replace HB := Aside0.mk (HB.out.trans (hb3.mono HZ.out))
  replace HZ := Aside0.mk (Nat.le_trans HZ.out hb3.size)
  replace HWS := Aside0.mk (Nat.le_trans HWS.out hb3.size)
  replace HK := Aside0.mk (HK.out.trans (KeptB.below hb3) (fun X e => Or.inl e))
  clear hb3
  generalize hp_ : partR r 0 r.f1 = p
  refine hK.out _ _ ⟨(blk_cell HC.out 0).trans rfl, (blk_cell HX.out 0).trans rfl, (blk_cell HX.out 1).trans rfl, (blk_cell HX.out 2).trans rfl⟩ (fun hHeld => ?_)
  clear hK K
  refine norm_ (a' := ?_) ?_ ?_
  rotate_left
  ·show Act.put _ (some 73) _ = _
   simp only [Act.put, List.setIfInBounds_toArray, List.set_cons_zero, List.set_cons_succ, i64_w, i32_w]
   rfl
  refine one_ (i := 9) (N := some 74) #[true, true, true, true, true, true, true, true, true, true, false, false, false, false] rfl rfl (by kernel_rfl) (by decide) (fun K hK => ?_)
  refine value_ (w1 := ?_) (v := ?_) (by rfl) rfl ?_ ?_
  rotate_left 2
  ·go_simp
   constructor
   ·rfl
   ·rfl
  refine hK.out _ _ ⟨(blk_cell (blk_alloc HC.out _) 0).trans rfl, (blk_cell (blk_alloc HX.out _) 0).trans rfl, (blk_cell (blk_alloc HX.out _) 1).trans rfl, (blk_cell (blk_alloc HX.out _) 2).trans rfl⟩ (fun hHeld => ?_)
  clear hK K
  refine norm_ (a' := ?_) ?_ ?_
  rotate_left
  ·show Act.put _ (some 74) _ = _
   simp only [Act.put, List.setIfInBounds_toArray, List.set_cons_zero, List.set_cons_succ, i64_w, i32_w]
   rfl
  refine one_ (i := 10) (N := some 75) #[true, true, true, true, true, true, true, true, true, true, true, false, false, false] rfl rfl (by kernel_rfl) (by decide) (fun K hK => ?_)
  refine Kd.R_append_step k44 (w0 := w) g (by rfl) (.tmp 69) (.tmp 74) 22 44 (.agg #[(.int .i64 0), (.int .i64 0), (.bool false)]) 24 rfl Try.underlying22 info44 rfl (by decide) (by omega) v l p [.int .i64 p.f0, .int .i64 p.f1, .bool p.f2] (fun k => k ≠ g) (fun _ => False) rfl rfl ?aP (fun _ hk => hk.elim) ?aF ?aO ?aB ?aS ?aL ?_
  (case aP => exact k44_mkM _ _ _ p)
  (case aB => exact HB.out)
  (case aF => exact fun k hk => by have := blk_lt HC.out; omega)
  (case aO => exact HO.out)
  (case aS => exact HZ.out)
  (case aL => have := HL.out; omega)
  intro v' w5 ho hb5 hg5 hat5
  replace HC := Aside0.mk (blk_grown HC.out hg5 (fun e => HO.out.1 g e.symm rfl))
  replace HX := Aside0.mk (blk_grown HX.out hg5 (fun e => HNX.out e.symm))
  replace HO := Aside0.mk ho
  replace HB := Aside0.mk hb5
  replace HK := Aside0.mk (HK.out.grown hg5)
  have HAT := Aside0.mk (Own.of hat5 HWS.out)
  clear ho hb5 hg5 hat5
  obtain ⟨A5, c5, e5, _, _⟩ := Kd.R_reads HO.out
  subst e5
  have hgc := blk_cell HC.out 0
  have hgf : w5.frozen? ⟨g, 0, none⟩ = false := by simp [World.frozen?, HC.out]
  refine hK.out _ _ ⟨(blk_cell HC.out 0).trans rfl, (blk_cell HX.out 0).trans rfl, (blk_cell HX.out 1).trans rfl, (blk_cell HX.out 2).trans rfl⟩ (fun hHeld => ?_)
  clear hK K
  refine norm_ (a' := ?_) ?_ ?_
  rotate_left
  ·show Act.put _ (some 75) _ = _
   simp only [Act.put, List.setIfInBounds_toArray, List.set_cons_zero, List.set_cons_succ, i64_w, i32_w]
   rfl
  refine pv_ 11 (some 76) ?_
  refine pv_ 12 (some 77) ?_
  refine last_ (i := 13) (N := none) #[true, true, true, true, true, true, true, true, true, true, true, true, true, true] rfl rfl (by kernel_rfl) (by decide) (fun K hK => ?_)
  refine skip_ (w1 := ?_) (by rfl) rfl ?_ ?_
  rotate_left
  ·go_simp
   rfl
  refine hK.out _ _ ?_
  clear hK K
  refine done_ (by kernel_rfl) ?_
  try go_wp2
  subst hv_
  subst hp_
  have e2 : m + 1 + 1 = (l ++ [partR r 0 r.f1]).length := by simp [hm]
  have e3 : m + 1 = l.length := hm.symm
  rw [e2]
  simp only [e3] at HK
  refine bodyPost_ret (results_none rfl _ _ _) rfl ?_
  exact ⟨rfl, ⟨_, ⟨blk_set HC.out 0 _, Kd.R_far HO.out (fun k hk => hk) _⟩, HAT.out⟩, HB.out.setCell (p := ⟨g, 0, none⟩) (Nat.le_refl _) _, HK.out.put _⟩
end Go.Proofs.Ytalpegglbfobiaa.G

namespace Go.Proofs.Ytalpegglbfobiaa.G
open Go.RowKit Go.Proofs.YtalpegglbfobiaaW.PrintWords Go.Proofs.YtalpegglbfobiaaW.PrintLast Go.Proofs.YtalpegglbfobiaaW.PrintMore
attribute [local go_sem] max2_int min2_int max_two min_two max_three min_three max_four min_four   -- for this text's walks alone
set_option linter.unusedVariables false
set_option linter.unusedSimpArgs false
theorem krun_sz : (k44).sz = 3 := rfl
theorem run_store {ops : Array Oper} {rest : List Oper} {o : Oper} {a : Act} {Q : Exit → Act → World → Prop} {w0 W : World} (base : Nat) (hN : o.dst = none) (hgd : o.guard = none) (p x : Operand) (ho : o.op = .store 44 p x) {g n cap o' : Nat} (i : Int) (xs : List S44) (xa xb : Int) (xc : Bool) (ok : Nat → Prop)
  (haddr : a.eval p = .pointer (some ⟨g, o', none⟩)) (hoff : o' = i.toNat * 3) (hx : a.eval x = .agg #[.int .i64 xa, .int .i64 xb, .bool xc])
  (HO : Kd.R k44 44 W base ok (.slice (some ⟨g, 0, none⟩) n cap) xs) (h0 : 0 ≤ i) (hi : i < n) (HB : Below base w0 W)
  (h : ∀ w1, Kd.R k44 44 w1 base ok (.slice (some ⟨g, 0, none⟩) n cap) (xs.set i.toNat ⟨xa, xb, xc⟩) → Below base w0 w1 → W.grownBy w1 (some g) → wpList Try.prog ops Q rest a w1) : wpList Try.prog ops Q (o :: rest) a W := by
 obtain ⟨ce, hcl, hM, hcc, hfr⟩ := Kd.R_elem HO z44 i h0 hi
 have h3 : ce.length = 3 := hcl
 exact Kd.R_store k44 base hN hgd 44 p x ho 44 i 0 xs ⟨xa, xb, xc⟩ _ [.int .i64 xa, .int .i64 xb, .bool xc] ce ok (fun _ => False) haddr hoff hx rfl (by kernel_rfl) (by simp [Value.oneCell']) HO h0 hi hcl hcc (Nat.le_refl 3) (by
  have e : ce.take 0 ++ [.int .i64 xa, .int .i64 xb, .bool xc] ++ ce.drop (0 + [Value.int .i64 xa, .int .i64 xb, .bool xc].length) = [.int .i64 xa, .int .i64 xb, .bool xc] := by
   rw [List.drop_of_length_le (by simp; omega)]; simp
  rw [e]; exact k44_mkM _ _ _ ⟨xa, xb, xc⟩) (fun _ h => h.elim) HB h
set_option maxRecDepth 100000 in
set_option maxHeartbeats 32000000 in
theorem add_grow (g m : Nat) (v : Value) (l : List S44) (r : S44) (w : World) (k : Int) (Q : Ending → World → Prop) (hB : Bld g v l w) (hm : l.length = m + 1) (hl : l.length + 1 ≤ 1000000) (hbt : (-1099511627776 ≤ (rd_T44 l (m : Int)).f0 ∧ (rd_T44 l (m : Int)).f0 ≤ 1099511627776) ∧ 1 ≤ (rd_T44 l (m : Int)).f1 ∧ (rd_T44 l (m : Int)).f1 ≤ 1125899906842624)
  (h : 1 ≤ r.f1) (hn : nearR r) (hj : joins r (rd_T44 l (m : Int)))
  (hk : k = if r.f1 > 1 ∧ r.f2 = decide (goes r (rd_T44 l (m : Int)) = -1) then r.f1 else 1)
  (hrec : ∀ w' x', x' = (⟨(rd_T44 l (m : Int)).f0, (rd_T44 l (m : Int)).f1 + k, decide (goes r (rd_T44 l (m : Int)) = -1)⟩ : S44) → Bld g v (l.set m x') w' → Below g w w' → KeptB g v w w' → Calls Try.prog 56 #[.pointer (some ⟨g, 0, none⟩), .agg #[.int .i64 (partR r k (r.f1 - k)).f0, .int .i64 (partR r k (r.f1 - k)).f1, .bool (partR r k (r.f1 - k)).f2]] w' fun e w2 => e = .returned (.tuple #[]) ∧ Q e w2) :
  Calls Try.prog 56 #[.pointer (some ⟨g, 0, none⟩), .agg #[.int .i64 r.f0, .int .i64 r.f1, .bool r.f2]] w fun e w' => e = .returned (.tuple #[]) ∧ Q e w' := by
 have HREC := Aside0.mk hrec
 have HKK := Aside0.mk hk
 have hk1 : 1 ≤ k ∧ k ≤ 1099511627776 := by have := hn.2.2; rw [hk]; split <;> omega
 clear hrec hk
 have h1 : decide (r.f1 < 1) = false := by simp; omega
 have hnx := Aside0.mk hn
 have HBW := Aside0.mk ((Below.refl w.heap.size w).alloc (Nat.le_refl _) (.cells #[.int .i64 r.f0, .int .i64 r.f1, .bool r.f2] 44))
 have HB1 := Aside0.mk (hB.below HBW.out)
 have HX1 := World.alloc_heap_new w (.cells #[.int .i64 r.f0, .int .i64 r.f1, .bool r.f2] 44)
 obtain ⟨gO, cO, e, hgO, hgO2, _⟩ := Kd.R_form hB.o (by omega)
 subst e
 have hbo := hB.base (k := gO) rfl
 obtain ⟨ad, ea, hy0, hy1, hy2⟩ := at_T44 (Kd.R_reads' HB1.out.o).2.2 (m : Int) (by omega) (by omega)
 injection ea with ea
 subst ea
 simp only [add_plain, Int.toNat_natCast] at hy0 hy1 hy2
 have hq : (w.alloc (.cells #[.int .i64 r.f0, .int .i64 r.f1, .bool r.f2] 44)).cell? ⟨g, 0, none⟩ = some (.slice (some ⟨gO, 0, none⟩) (m + 1) cO) := by rw [← hm]; exact blk_cell HB1.out.c 0
 have hx1 : (w.alloc (.cells #[.int .i64 r.f0, .int .i64 r.f1, .bool r.f2] 44)).cell? ⟨w.heap.size, 1, none⟩ = some (.int .i64 r.f1) := blk_cell HX1 1
 generalize ht : rd_T44 l (m : Int) = t at *
 have HBY := Aside0.mk (HBW.out.alloc HBW.out.size (.cells #[.int .i64 t.f0, .int .i64 t.f1, .bool t.f2] 44))
 have HK := Aside0.mk (KeptB.below (g := g) (v := .slice (some ⟨gO, 0, none⟩) (m + 1) cO) HBY.out)
 have HB := Aside0.mk (HBY.out.mono (Nat.le_of_lt hB.lt))
 have HB2 := Aside0.mk (hB.below HBY.out)
 have HX := Aside0.mk (blk_alloc HX1 (.cells #[.int .i64 t.f0, .int .i64 t.f1, .bool t.f2] 44))
 have HY := Aside0.mk (World.alloc_heap_new (w.alloc (.cells #[.int .i64 r.f0, .int .i64 r.f1, .bool r.f2] 44)) (.cells #[.int .i64 t.f0, .int .i64 t.f1, .bool t.f2] 44))
 rw [World.size_alloc] at HY
 have HNX := Aside0.mk (show (Value.slice (some ⟨gO, 0, none⟩) (m + 1) cO).ownBlock ≠ some w.heap.size from fun e => by have e2 := Option.some.inj e; have h2 := hbo.2; simp only at e2; omega)
 have HNY := Aside0.mk (show (Value.slice (some ⟨gO, 0, none⟩) (m + 1) cO).ownBlock ≠ some (w.heap.size + 1) from fun e => by have e2 := Option.some.inj e; have h2 := hbo.2; simp only at e2; omega)
 have HL := Aside0.mk hl
 have HZ := Aside0.mk (show g ≤ ((w.alloc (.cells #[.int .i64 r.f0, .int .i64 r.f1, .bool r.f2] 44)).alloc (.cells #[.int .i64 t.f0, .int .i64 t.f1, .bool t.f2] 44)).heap.size by have := hB.lt; simp; omega)
 have HWS := Aside0.mk (show w.heap.size ≤ ((w.alloc (.cells #[.int .i64 r.f0, .int .i64 r.f1, .bool r.f2] 44)).alloc (.cells #[.int .i64 t.f0, .int .i64 t.f1, .bool t.f2] 44)).heap.size by simp; omega)
 have hw1 : IntKind.i64.wrap (m : Int) = (m : Int) := by rw [i64_w]; unfold wrap64; omega
 have hm0 : 0 ≤ (m : Int) := by omega
 have hmt : ((m : Int)).toNat = m := by omega
 have he0 : ((m : Int) + 1 == 0) = false := by simp; omega
 have HM := Aside0.mk hm
 have hnt := Aside0.mk hbt
 have HIM := Aside0.mk (show ∀ W, Calls Try.prog 69 #[.agg #[.int .i64 t.f0, .int .i64 t.f1, .bool t.f2], .int .i64 (wrap64 (t.f1 - 1))] W fun e w' => e = .returned (.int .i64 (img t (t.f1 - 1))) ∧ Below W.heap.size W w' from fun W => by
  have e : wrap64 (t.f1 - 1) = t.f1 - 1 := by unfold wrap64; have := hbt.1; have := hbt.2; omega
  rw [e]
  exact iso_image.calls _ _ _ _ _ W (image_far t (t.f1 - 1) hbt (by have := hbt.2; omega) (by have := hbt.2; omega)))
 have hgoes : wrap64 (r.f0 - img t (t.f1 - 1)) = goes r t := by
  unfold wrap64 goes img
  have := hbt.1; have := hbt.2; have := hn.1; have := hn.2.1
  split <;> omega
 clear hB hn hbo hgO hgO2 hl hbt
 go_enter Try.func56, Try.ntmps56
 go_wp2
 have HC := Aside0.mk (show ((w.alloc (.cells #[.int .i64 r.f0, .int .i64 r.f1, .bool r.f2] 44)).alloc (.cells #[.int .i64 t.f0, .int .i64 t.f1, .bool t.f2] 44)).heap[g]? = some (.cells #[.slice (some ⟨gO, 0, none⟩) (m + 1) cO] 73 (0, 0)) by have := HB2.out.c; rw [hm] at this; exact this)
 have HO := Aside0.mk (show Kd.R k44 44 ((w.alloc (.cells #[.int .i64 r.f0, .int .i64 r.f1, .bool r.f2] 44)).alloc (.cells #[.int .i64 t.f0, .int .i64 t.f1, .bool t.f2] 44)) g (fun k => k ≠ g) (.slice (some ⟨gO, 0, none⟩) (m + 1) cO) l by have := HB2.out.o; rw [hm] at this; exact this)
 clear HB1 HB2 HX1 hq hx1 HBW HBY hy0 hy1 hy2 hw1 hm0 he0
 generalize hv_ : (Value.slice (some ⟨gO, 0, none⟩) (m + 1) cO) = v at *
 generalize (w.alloc (.cells #[.int .i64 r.f0, .int .i64 r.f1, .bool r.f2] 44)).alloc _ = w1 at *
 generalize hgY_ : w.heap.size + 1 = gY at HY HNY ⊢
 generalize hgX_ : w.heap.size = gX at HX HNX ⊢
 refine start_ (n := 9) (S := fun w' => w'.cell? ⟨gX, 0, none⟩ = some (.int .i64 r.f0) ∧ w'.cell? ⟨gY, 0, none⟩ = some (.int .i64 t.f0) ∧ w'.cell? ⟨gY, 1, none⟩ = some (.int .i64 t.f1) ∧ w'.cell? ⟨gY, 2, none⟩ = some (.bool t.f2)) (ds := []) #[false, false, false, false, false, false, false, false, false] (by kernel_rfl) rfl rfl ⟨(blk_cell HX.out 0).trans rfl, (blk_cell HY.out 0).trans rfl, (blk_cell HY.out 1).trans rfl, (blk_cell HY.out 2).trans rfl⟩ (fun hHeld => ?_)
 generalize hwy_ : w1.drew = wy at hHeld ⊢
 replace HC := Aside0.mk (hwy_ ▸ blk_drew HC.out)
 replace HX := Aside0.mk (hwy_ ▸ blk_drew HX.out)
 replace HY := Aside0.mk (hwy_ ▸ blk_drew HY.out)
 replace HO := Aside0.mk (hwy_ ▸ Kd.R_drew HO.out)
 replace HB := Aside0.mk (hwy_ ▸ HB.out.drew)
 replace HZ := Aside0.mk (show g ≤ wy.heap.size from hwy_ ▸ HZ.out)
 replace HWS := Aside0.mk (show w.heap.size ≤ wy.heap.size from hwy_ ▸ HWS.out)
 replace HK := Aside0.mk (show KeptB g v w wy from hwy_ ▸ HK.out)
 clear hwy_
 refine pv_ 0 (some 39) ?_
 refine pv_ 3 (some 42) ?_
 refine tv_ 1 (some 40) hHeld ?_ (hy := .inl ⟨by rfl, by rintro w' ⟨s0, s1, s2, s3⟩; go_simp; with_reducible rfl⟩)
 refine tv_ 2 (some 41) hHeld ?_ (hy := .inl ⟨by rfl, by rintro w' ⟨s0, s1, s2, s3⟩; go_simp; with_reducible rfl⟩)
 refine tv_ 4 (some 43) hHeld ?_ (hy := .inl ⟨by rfl, by rintro w' ⟨s0, s1, s2, s3⟩; go_simp; with_reducible rfl⟩)
 refine pv_ 5 (some 44) ?_
 refine one_ (i := 6) (N := some 45) #[true, true, true, true, true, true, true, false, false] rfl rfl (by kernel_rfl) (by decide) (fun K hK => ?_)
 refine goes_ Try.func69 (by kernel_rfl) rfl #[.agg #[.int .i64 t.f0, .int .i64 t.f1, .bool t.f2], .int .i64 (wrap64 (t.f1 - 1))] (by rfl) rfl rfl (by simp only [List.map_toArray, List.map_cons, List.map_nil]; rfl) ?_
 with_reducible refine (HIM.out _).mono ?_
 rintro e w3 ⟨rfl, hb3⟩
 refine ⟨_, rfl, ?_⟩
 replace HC := Aside0.mk (blk_below HC.out hb3)
 replace HX := Aside0.mk (blk_below HX.out hb3)
 replace HY := Aside0.mk (blk_below HY.out hb3)
 replace HO := Aside0.mk (Kd.R_below HO.out hb3)
 replace HB := Aside0.mk (HB.out.trans (hb3.mono HZ.out))
 replace HK := Aside0.mk (HK.out.trans (KeptB.below hb3) (fun X e => Or.inl e))
 replace HZ := Aside0.mk (Nat.le_trans HZ.out hb3.size)
 replace HWS := Aside0.mk (Nat.le_trans HWS.out hb3.size)
 clear hb3
 refine hK.out _ _ ⟨(blk_cell HX.out 0).trans rfl, (blk_cell HY.out 0).trans rfl, (blk_cell HY.out 1).trans rfl, (blk_cell HY.out 2).trans rfl⟩ (fun hHeld => ?_)
 clear hK K
 refine norm_ (a' := ?_) ?_ ?_
 rotate_left
 ·show Act.put _ (some 45) _ = _
  simp only [Act.put, List.setIfInBounds_toArray, List.set_cons_zero, List.set_cons_succ, i64_w, i32_w]
  rfl
 refine pv_ 7 (some 46) ?_
 refine pv_ 8 (some 6) ?_
 refine done_ (by kernel_rfl) ?_
 rw [hgoes]
 clear hgoes HIM
 have hs1 : goes r t = 1 ∨ goes r t = -1 := hj.1
 have hs2 : 1 < t.f1 → decide (goes r t = -1) = t.f2 := hj.2
 generalize goes r t = s at *
 clear hj ht
 have hwk : wrap64 (t.f1 + k) = t.f1 + k := by unfold wrap64; have := hnt.out.2; omega
 have hwk2 : wrap64 (r.f1 - k) = r.f1 - k := by unfold wrap64; have := hnx.out.2.2; omega
 have HPC := Aside0.mk (show ∀ W, Calls Try.prog 70 #[.agg #[.int .i64 r.f0, .int .i64 r.f1, .bool r.f2], .int .i64 k, .int .i64 (r.f1 - k)] W fun e w' => e = .returned (.agg #[.int .i64 (partR r k (r.f1 - k)).f0, .int .i64 (partR r k (r.f1 - k)).f1, .bool (partR r k (r.f1 - k)).f2]) ∧ Below W.heap.size W w' from fun W => part_calls r k (r.f1 - k) W hnx.out (by omega) (by omega))
 have HPZ := Aside0.mk (show k = r.f1 → ∀ W, Calls Try.prog 70 #[.agg #[.int .i64 r.f0, .int .i64 r.f1, .bool r.f2], .int .i64 k, .int .i64 0] W fun e w' => e = .returned (.agg #[.int .i64 (partR r k (r.f1 - k)).f0, .int .i64 (partR r k (r.f1 - k)).f1, .bool (partR r k (r.f1 - k)).f2]) ∧ Below W.heap.size W w' from fun e W => by rw [show r.f1 - k = 0 by omega]; exact part_calls r k 0 W hnx.out (by omega) (by omega))
 have HGO := Aside0.mk (show g ≠ gO from fun e => HO.out.1 g (by rw [← hv_, e]; rfl) rfl)
 subst hv_
 simp only [hm] at HREC
 obtain ⟨tc, tm, te⟩ := t
 obtain ⟨rc, rn, rb⟩ := r
 dsimp only at hs2 hwk hwk2
 have hxb := blk_cell HX.out 1
 have hxd := blk_cell HX.out 2
 have hya := blk_cell HY.out 0
 have hyc := blk_cell HY.out 1
 have hyd := blk_cell HY.out 2
 have hgc := blk_cell HC.out 0
 have hw1 : IntKind.i64.wrap (m : Int) = (m : Int) := by rw [i64_w]; unfold wrap64; have := HL.out; have := HM.out; omega
 have hm0 : 0 ≤ (m : Int) := by omega
 have hmm : ((m : Int) < (m : Int) + 1) = True := eq_true (by omega)
 have hpath : ∃ b : Bool, decide (s = -1) = b ∧ (s == -1) = b := ⟨_, rfl, rfl⟩
 by_cases htm : 1 < tm
 case' pos =>
  obtain rfl := hs2 htm
  have t3 : decide (1 < tm) = true := by simpa using htm
 case' neg => have t3 : decide (1 < tm) = false := by simpa using htm
 all_goals
  clear hpath htm hs2
  rcases hs1 with rfl | rfl
 all_goals
  by_cases hrn : 1 < rn
 all_goals
  first | have t4 : decide (1 < rn) = true := by simpa using hrn | have t4 : decide (1 < rn) = false := by simpa using hrn
  cases rb
 all_goals
  have hkk := HKK.out
  simp [hrn] at hkk
  subst k
  clear hrn
  go_wp2
  go_still_tail 16, (by kernel_rfl)
  change wpList _ _ _ _ _ w3.drew
  refine run_store g rfl rfl (.tmp 105) (.tmp 104) rfl (m : Int) l _ _ _ (fun k => k ≠ g) rfl (by simp) rfl (Kd.R_drew HO.out) (by omega) (by omega) (below_drew HB.out) ?_
  intro w4 hr4 hb4 hg4
  rw [hmt] at hr4
  simp only [i64_w, hwk] at hr4
  have HX4 := Aside0.mk (blk_grown (blk_drew HX.out) hg4 (fun e => HNX.out e.symm))
  have HC4 := Aside0.mk (blk_grown (blk_drew HC.out) hg4 (fun e => HGO.out (Option.some.inj e)))
  have HO4 := Aside0.mk hr4
  have HB4 := Aside0.mk hb4
  have HK4 := Aside0.mk (KeptB.grown (W := w3.drew) HK.out hg4)
  have HZ4 := Aside0.mk (show g ≤ w4.heap.size from Nat.le_of_lt (blk_lt HC4.out))
  clear hr4 hb4 hg4 hxb hxd hya hyc hyd hgc hw1 hm0 hmm hwk
  have hxa := blk_cell HX4.out 0
  have hxb := blk_cell HX4.out 1
  have hxd := blk_cell HX4.out 2
  go_wp2_with (first | (go_at_call 70; (first | (with_reducible refine (HPC.out _).mono ?_) | (with_reducible refine (HPZ.out (by first | trivial | rfl) _).mono ?_)); rintro e w5 ⟨rfl, hb5⟩; have HB5 := Aside0.mk (HB4.out.trans (hb5.mono HZ4.out)); have HL5 := Aside0.mk (Bld.below (show Bld _ _ _ _ from ⟨HC4.out, HO4.out⟩) hb5); have HK5 := Aside0.mk (HK4.out.trans (KeptB.below hb5) (fun X e => Or.inl e)); clear hb5) | (go_at_call 56; have HQ := HREC.out _ _ (by first | rfl | simp) HL5.out HB5.out HK5.out; (try simp only [Int.sub_self] at HQ); (with_reducible refine HQ.mono ?_); rintro e w6 ⟨rfl, hq6⟩))
  (try simp only [Exit.inBlock, Exit.then]); refine bodyPost_end (results_none rfl _ _ _) rfl ?_
  exact ⟨rfl, hq6⟩
end Go.Proofs.Ytalpegglbfobiaa.G

namespace Go.Proofs.Ytalpegglbfobiaa.G
open Go.RowKit Go.Proofs.YtalpegglbfobiaaW.PrintWords Go.Proofs.YtalpegglbfobiaaW.PrintLast Go.Proofs.YtalpegglbfobiaaW.PrintMore
set_option linter.unusedVariables false
set_option linter.unusedSimpArgs false
theorem partR_part (r : S44) (x n : Int) : partR (partR r x n) 0 n = partR r x n := by
 obtain ⟨a, m, b⟩ := r
 simp only [partR, img]
 cases b <;> by_cases hn : n > 1 <;> simp [hn]
theorem joins_at (r t : S44) (ht : 1 ≤ t.f1) (hj : joins r t) : r.f0 = if decide (goes r t = -1) = true then t.f0 - t.f1 else t.f0 + t.f1 := by
 have h1 := hj.1
 have h2 := hj.2
 obtain ⟨c, m, e⟩ := t
 dsimp only at ht h2 ⊢
 by_cases hm : m > 1
 ·rw [h2 hm]
  simp only [goes, img] at h1 h2
  have h3 := h2 hm
  cases e <;> simp at h1 h3 ⊢ <;> omega
 ·have e1 : m = 1 := by omega
  subst e1
  simp only [goes, img] at h1 ⊢
  cases e <;> simp at h1 ⊢ <;> split <;> omega
theorem not_joins (r t : S44) (ht : 1 ≤ t.f1) (hj : joins r t) (hf : r.f2 ≠ decide (goes r t = -1)) (n : Int) : ¬ joins (partR r 1 n) ⟨t.f0, t.f1 + 1, decide (goes r t = -1)⟩ := by
 intro k
 have k2 := k.2 (by dsimp only; omega)
 have ha := joins_at r t ht hj
 have hg : goes (partR r 1 n) ⟨t.f0, t.f1 + 1, decide (goes r t = -1)⟩ = if r.f2 = true then -1 else 1 := by
  generalize decide (goes r t = -1) = b at ha ⊢
  simp only [goes, img, partR]
  cases r.f2 <;> cases b <;> simp at ha ⊢ <;> omega
 rw [hg] at k2
 dsimp only at k2
 apply hf
 rw [← k2]
 cases r.f2 <;> simp
def sane (r : S44) : Prop := -549755813888 ≤ r.f0 ∧ r.f0 ≤ 549755813888 ∧ r.f1 ≤ 549755813888
theorem sane.near {r : S44} (h : sane r) : nearR r := ⟨by have := h.1; omega, by have := h.2.1; omega, by have := h.2.2; omega⟩
theorem sane.part {r : S44} (h : sane r) {x n : Int} (h0 : 0 ≤ x) (h1 : x ≤ r.f1) (hn : n ≤ r.f1) : nearR (partR r x n) := by
 obtain ⟨a, b, c⟩ := h
 refine ⟨?_, ?_, ?_⟩ <;> simp only [partR, img] <;> (try split) <;> omega
set_option maxHeartbeats 4000000 in
theorem add_main (g : Nat) (v : Value) (l : List S44) (r : S44) (w : World) (hB : Bld g v l w) (hr : sane r) (hl : l.length + 2 ≤ 1000000) (hbt : ∀ t ∈ l, (-1099511627776 ≤ t.f0 ∧ t.f0 ≤ 1099511627776) ∧ 1 ≤ t.f1 ∧ t.f1 ≤ 1125899906842623) :
  Calls Try.prog 56 #[.pointer (some ⟨g, 0, none⟩), .agg #[.int .i64 r.f0, .int .i64 r.f1, .bool r.f2]] w fun e w' => e = .returned (.tuple #[]) ∧ (∃ v', Bld g v' (addOf l r) w' ∧ Own v v' w) ∧ Below g w w' ∧ KeptB g v w w' := by
 by_cases h0 : r.f1 < 1
 ·refine (add_none g v l r w hB h0).mono ?_
  rintro e w' ⟨rfl, h1, h2⟩
  exact ⟨rfl, ⟨v, by rw [addOf, if_pos h0]; exact h1, fun k hk => .inl hk⟩, h2.mono (Nat.le_of_lt hB.lt), KeptB.below h2⟩
 ·have h1 : 1 ≤ r.f1 := by omega
  rcases List.eq_nil_or_concat l with rfl | ⟨d, t, rfl⟩
  ·refine (add_first g v r w hB h1 hr.near).mono ?_
   rintro e w' ⟨rfl, h2, h3, h4⟩
   exact ⟨rfl, by rw [addOf, if_neg h0]; exact h2, h3, h4⟩
  ·rw [List.concat_eq_append] at *
   have hm : (d ++ [t]).length = d.length + 1 := by simp
   have hrd : rd_T44 (d ++ [t]) (d.length : Int) = t := by simp [rd_T44]
   have ht := hbt t (by simp)
   have hset : ∀ x, (d ++ [t]).set d.length x = d ++ [x] := fun x => by simp
   by_cases hj : joins r t
   ·refine add_grow g d.length v (d ++ [t]) r w (if r.f1 > 1 ∧ r.f2 = decide (goes r t = -1) then r.f1 else 1) (fun _ w2 => (∃ v', Bld g v' (addOf (d ++ [t]) r) w2 ∧ Own v v' w) ∧ Below g w w2 ∧ KeptB g v w w2) hB hm (by omega) (by rw [hrd]; omega) h1 hr.near (by rw [hrd]; exact hj) (by rw [hrd]) ?_
    rw [hrd]
    intro w' x' hx hB' hb' hk'
    have hs' := hb'.size
    rw [hset] at hB'
    have hadd : addOf (d ++ [t]) r = if r.f1 > 1 ∧ r.f2 ≠ decide (goes r t = -1) then d ++ [⟨t.f0, t.f1 + 1, decide (goes r t = -1)⟩] ++ [partR r 1 (r.f1 - 1)] else d ++ [⟨t.f0, t.f1 + r.f1, decide (goes r t = -1)⟩] := by
     rw [addOf, if_neg h0]
     simp only [List.reverse_append, List.reverse_cons, List.reverse_nil, List.nil_append, List.singleton_append, addR, if_pos hj]
     split <;> simp
    by_cases hc : r.f1 > 1 ∧ r.f2 ≠ decide (goes r t = -1)
    ·have hk1 : (if r.f1 > 1 ∧ r.f2 = decide (goes r t = -1) then r.f1 else 1) = 1 := if_neg (fun k => hc.2 k.2)
     rw [hk1] at hx ⊢
     have hrd2 : rd_T44 (d ++ [x']) (d.length : Int) = x' := by simp [rd_T44]
     refine (add_new g d.length v (d ++ [x']) (partR r 1 (r.f1 - 1)) w' hB' (by simp) (by simp at hl ⊢; omega) (by rw [hrd2, hx]; dsimp only; omega) (by simp only [partR]; omega) (hr.part (by omega) (by omega) (by omega)) (by rw [hrd2, hx]; exact not_joins r t ht.2.1 hj hc.2 _)).mono ?_
     rintro e w2 ⟨rfl, ⟨v', hB2, hO2⟩, hb2, hk2⟩
     refine ⟨rfl, ⟨v', ?_, fun k hk => (hO2 k hk).imp id (fun h => Nat.le_trans hs' h)⟩, hb'.trans hb2, hk'.trans hk2 (fun X e => Or.inl e)⟩
     rw [hadd, if_pos hc, ← hx, ← partR_part r 1 (r.f1 - 1)]
     exact hB2
    ·have hk1 : (if r.f1 > 1 ∧ r.f2 = decide (goes r t = -1) then r.f1 else 1) = r.f1 := by
      by_cases h2 : r.f1 > 1
      ·rw [if_pos ⟨h2, Classical.byContradiction fun k => hc ⟨h2, k⟩⟩]
      ·rw [if_neg (fun k => h2 k.1)]; omega
     rw [hk1] at hx ⊢
     refine (add_none g v (d ++ [x']) (partR r r.f1 (r.f1 - r.f1)) w' hB' (by simp only [partR]; omega)).mono ?_
     rintro e w2 ⟨rfl, hB2, hb2⟩
     refine ⟨rfl, ⟨v, ?_, fun k hk => .inl hk⟩, hb'.trans (hb2.mono (Nat.le_of_lt hB'.lt)), hk'.trans (KeptB.below hb2) (fun X e => Or.inl e)⟩
     rw [hadd, if_neg hc, ← hx]
     exact hB2
   ·refine (add_new g d.length v (d ++ [t]) r w hB hm (by omega) (by rw [hrd]; omega) h1 hr.near (by rw [hrd]; exact hj)).mono ?_
    rintro e w' ⟨rfl, h2, h3, h4⟩
    refine ⟨rfl, ?_, h3, h4⟩
    have hadd : addOf (d ++ [t]) r = d ++ [t] ++ [partR r 0 r.f1] := by
     rw [addOf, if_neg h0]
     simp only [List.reverse_append, List.reverse_cons, List.reverse_nil, List.nil_append, List.singleton_append, addR, if_neg hj]
     simp
    rw [hadd]
    exact h2
end Go.Proofs.Ytalpegglbfobiaa.G

namespace Go.Proofs.Ytalpegglbfobiaa.G
open Go.RowKit Go.Proofs.YtalpegglbfobiaaW.PrintWords Go.Proofs.YtalpegglbfobiaaW.PrintLast Go.Proofs.YtalpegglbfobiaaW.PrintMore
attribute [local go_sem] max2_int min2_int max_two min_two max_three min_three max_four min_four   -- for this text's walks alone
set_option linter.unusedVariables false
set_option linter.unusedSimpArgs false
theorem goesV_ {P : Program} {ops : Array Oper} {Q : Exit → Act → World → Prop} {oi : Oper} {N : Option Tmp} {a : Act} {w : World} {K : Act → World → Prop} {f : FuncId} {fn : Func} {as_ : Array Operand} {ts : Array TypeId} (j : Tmp) (first captured : Array Value) (hf : P.funcs[f]? = some fn) (hname : (fn.name == "runtime.NumGoroutine") = false) (hb : fn.body.isSome = true) (args : Array Value)
  (hw : Region.wanted oi (yielded ops a.tmps) = true) (hN : oi.dst = N) (hop : oi.op = .call { callee := .value (.tmp j), args := as_, argTypes := ts }) (hc : a.eval (.tmp j) = .func (.func f) first captured) (hargs : first ++ as_.map a.eval ++ captured = args)
  (h : Calls P f args w fun e w' => ∃ v, e = .returned v ∧ K (a.put N v) w') : if Region.wanted oi (yielded ops a.tmps) = true then Oper.wp P oi a w K Q else K (a.put N undef) w := by
 refine call_ f args hw hN ?_ h
 have he := enters_ hf hname hb args w
 unfold execOp
 simp only [hop, resolve, hc, Deferred.ofValue, Sem.run_bind, Sem.run_pure, Result.andThen_ok, invoke, hargs, he]
theorem revL_cons (r : S44) (d : List S44) : revL (r :: d) = revL d ++ [revR r] := by simp [revL]
set_option maxRecDepth 100000 in
set_option maxHeartbeats 16000000 in
theorem reversed_add (g N n : Nat) (Inv : List S44 → World → Prop) (ok : S44 → Prop)
  (Dirty : World → Nat → Prop) (hd : ∀ ps W k, Inv ps W → Dirty W k → k < W.heap.size)
  (hmono : ∀ ps W W', Inv ps W → Below W.heap.size W W' → Inv ps W' ∧ ∀ k, Dirty W' k → Dirty W k)
  (hstep : ∀ ps r W, ps.length < N → Inv ps W → ok r → Calls Try.prog 56 #[.pointer (some ⟨g, 0, none⟩), .agg #[.int .i64 r.f0, .int .i64 r.f1, .bool r.f2]] W fun e W' => e = .returned (.tuple #[]) ∧ Inv (ps ++ [r]) W' ∧ Below n W W' ∧ ∀ X o, W.heap[X]? = some o → ¬ Dirty W X → W'.heap[X]? = some o)
  (A0 : Option Addr) (c0 : Nat) (m : List S44) (ps0 : List S44) (w : World) (hr : ∀ ps W, Inv ps W → Kd.C k44 W A0 m.length m) (hc : m.length ≤ c0) (hn : n ≤ w.heap.size) (hi : Inv ps0 w)
  (hN : ps0.length + m.length ≤ N) (hl : m.length ≤ 65536) (hm : ∀ r ∈ m, 0 ≤ r.f0 ∧ r.f0 ≤ 17179869184 ∧ 1 ≤ r.f1 ∧ r.f1 ≤ 17179869184)
  (hok : ∀ r ∈ m, ok (revR r)) :
  Calls Try.prog 55 #[.slice A0 m.length c0, .func (.func 56) #[.pointer (some ⟨g, 0, none⟩)] #[]] w fun e w' => e = .returned (.tuple #[]) ∧ Inv (ps0 ++ revL m) w' ∧ Below n w w' := by
 have HR := Aside0.mk hr
 have HC := Aside0.mk hc
 have HNN := Aside0.mk hn
 have HM := Aside0.mk hm
 have HOK := Aside0.mk hok
 have HS := Aside0.mk hstep
 have HMo := Aside0.mk hmono
 have HD := Aside0.mk hd
 have HI := Aside0.mk hi
 have HB0 := Aside0.mk (Below.refl n w)
 have hw0 : IntKind.i64.wrap ((m.length : Int) - 1) = (m.length : Int) - 1 := by rw [i64_w]; unfold wrap64; omega
 clear hr hc hn hm hok hstep hmono hi hd
 go_enter Try.func55, Try.ntmps55
 go_wp2
 go_loopw [4] (fun i wr => ∃ x : Int, i = .int .i64 x ∧ Aside0 (-1 ≤ x ∧ x < m.length) ∧ Aside0 (Inv (ps0 ++ revL (m.drop (x + 1).toNat)) wr) ∧ Aside0 (Below n w wr))
  (fun i _ => (intOf i + 1).toNat)
 case atStart => exact ⟨(m.length : Int) - 1, by first | rfl | (congr 1; unfold wrap64; omega), ⟨by omega⟩, ⟨by rw [List.drop_of_length_le (by omega)]; simpa [revL] using HI.out⟩, HB0⟩
 case round =>
  obtain ⟨x, rfl, HK, HI1, HB⟩ := hrel
  have hxx := HK.out
  by_cases hk : 0 ≤ x
  ·have hk1 : x < (m.length : Int) := hxx.2
   have hd0 : decide (0 ≤ x) = true := by simpa using hk
   obtain ⟨ad, rfl, hz0, hz1, hz2⟩ := at_T44 (HR.out _ _ HI1.out) x hk hk1
   have hpl := Aside0.mk (show (ps0 ++ revL (m.drop (x + 1).toNat)).length < N by rw [List.length_append, revL_len, List.length_drop]; omega)
   have hrm := Aside0.mk (show rd_T44 m x ∈ m by simp [rd_T44, List.getD_eq_getElem?_getD, List.getElem?_eq_getElem (show x.toNat < m.length by omega)])
   have hsn := Aside0.mk (show m.drop x.toNat = rd_T44 m x :: m.drop (x + 1).toNat by
    rw [List.drop_eq_getElem_cons (show x.toNat < m.length by omega), show (x + 1).toNat = x.toNat + 1 by omega]
    simp [rd_T44, List.getD_eq_getElem?_getD, List.getElem?_eq_getElem (show x.toNat < m.length by omega)])
   have hv := HM.out _ hrm.out
   have hokr := Aside0.mk (HOK.out _ hrm.out)
   generalize rd_T44 m x = r at *
   have hnr : nearR r := ⟨by omega, by omega, by omega⟩
   have HIM := Aside0.mk (show ∀ W, Calls Try.prog 69 #[.agg #[.int .i64 r.f0, .int .i64 r.f1, .bool r.f2], .int .i64 (wrap64 (r.f1 - 1))] W fun e w' => e = .returned (.int .i64 (img r (r.f1 - 1))) ∧ Below W.heap.size W w' from fun W => by
    have e : wrap64 (r.f1 - 1) = r.f1 - 1 := by unfold wrap64; omega
    rw [e]
    exact iso_image.calls _ _ _ _ _ W (image_is r (r.f1 - 1) hnr (by omega) (by omega)))
   have hxw : wrap64 (x - 1) = x - 1 := by unfold wrap64; omega
   have HX := Aside0.mk (World.alloc_heap_new wr (.cells #[.int .i64 r.f0, .int .i64 r.f1, .bool r.f2] 44))
   have HBw := (Below.refl wr.heap.size wr).alloc (Nat.le_refl _) (.cells #[.int .i64 r.f0, .int .i64 r.f1, .bool r.f2] 44)
   have HB1 := Aside0.mk (HB.out.trans (HBw.mono (Nat.le_trans HNN.out HB.out.size)))
   have HI2 := Aside0.mk (HMo.out _ _ _ HI1.out HBw).1
   have HN := Aside0.mk (show ¬ Dirty (wr.alloc (.cells #[.int .i64 r.f0, .int .i64 r.f1, .bool r.f2] 44)) wr.heap.size from fun h => Nat.lt_irrefl _ (HD.out _ _ _ HI1.out ((HMo.out _ _ _ HI1.out HBw).2 _ h)))
   clear HBw
   go_wp2
   clear hz0 hz1 hz2
   generalize wr.alloc _ = w1 at *
   generalize wr.heap.size = gX at *
   have hbl : r.f2 = true ∨ r.f2 = false := by cases r.f2 <;> simp
   obtain ⟨ra, rn, rb⟩ := r
   rcases hbl with hbl | hbl
   ·dsimp only at hbl
    subst hbl
    refine start_ (n := 18) (S := fun w' => w'.cell? ⟨gX, 0, none⟩ = some (.int .i64 ra) ∧ w'.cell? ⟨gX, 1, none⟩ = some (.int .i64 rn) ∧ w'.cell? ⟨gX, 2, none⟩ = some (.bool true)) (ds := []) #[false, false, false, false, false, false, false, false, false, false, false, false, false, false, false, false, false, false] (by kernel_rfl) rfl rfl ⟨(blk_cell HX.out 0).trans rfl, (blk_cell HX.out 1).trans rfl, (blk_cell HX.out 2).trans rfl⟩ (fun hHeld => ?_)
    generalize hwy_ : w1.drew = wy at hHeld ⊢
    have HBD := hwy_ ▸ below_drew (Below.refl w1.heap.size w1)
    replace HB1 := Aside0.mk (below_then HB1.out (Nat.le_trans HNN.out HB1.out.size) HBD)
    replace HN := Aside0.mk (show ¬ Dirty wy gX from fun h => HN.out ((HMo.out _ _ _ HI2.out HBD).2 _ h))
    replace HI2 := Aside0.mk (HMo.out _ _ _ HI2.out HBD).1
    replace HX := Aside0.mk (blk_below HX.out HBD)
    clear HBD
    clear hwy_
    refine pv_ 0 (some 17) ?_
    refine pv_ 2 (some 19) ?_
    refine pv_ 6 (some 23) ?_
    refine pv_ 8 (some 25) ?_
    refine tv_ 1 (some 18) hHeld ?_ (hy := .inl ⟨by rfl, by rintro w' ⟨s0, s1, s2⟩; go_simp; with_reducible rfl⟩)
    refine tv_ 3 (some 20) hHeld ?_ (hy := .inl ⟨by rfl, by rintro w' ⟨s0, s1, s2⟩; go_simp; with_reducible rfl⟩)
    refine pv_ 4 (some 21) ?_
    refine tv_ 7 (some 24) hHeld ?_ (hy := .inl ⟨by rfl, by rintro w' ⟨s0, s1, s2⟩; go_simp; with_reducible rfl⟩)
    refine tv_ 9 (some 26) hHeld ?_ (hy := .inl ⟨by rfl, by rintro w' ⟨s0, s1, s2⟩; go_simp; with_reducible rfl⟩)
    refine pv_ 10 (some 27) ?_
    refine one_ (i := 5) (N := some 22) #[true, true, true, true, true, true, true, true, true, true, true, false, false, false, false, false, false, false] rfl rfl (by kernel_rfl) (by decide) (fun K hK => ?_)
    refine goes_ Try.func69 (by kernel_rfl) rfl #[.agg #[.int .i64 ra, .int .i64 rn, .bool true], .int .i64 (wrap64 (rn - 1))] (by rfl) rfl rfl (by simp only [List.map_toArray, List.map_cons, List.map_nil]; rfl) ?_
    with_reducible refine (HIM.out _).mono ?_
    rintro e w3 ⟨rfl, hb3⟩
    refine ⟨_, rfl, ?_⟩
    replace HB1 := Aside0.mk (below_then HB1.out (Nat.le_trans HNN.out HB1.out.size) hb3)
    replace HN := Aside0.mk (show ¬ Dirty w3 gX from fun h => HN.out ((HMo.out _ _ _ HI2.out hb3).2 _ h))
    replace HI2 := Aside0.mk (HMo.out _ _ _ HI2.out hb3).1
    replace HX := Aside0.mk (blk_below HX.out hb3)
    clear hb3
    refine hK.out _ _ ⟨(blk_cell HX.out 0).trans rfl, (blk_cell HX.out 1).trans rfl, (blk_cell HX.out 2).trans rfl⟩ (fun hHeld => ?_)
    clear hK K
    refine norm_ (a' := ?_) ?_ ?_
    rotate_left
    ·show Act.put _ (some 22) _ = _
     simp only [Act.put, List.setIfInBounds_toArray, List.set_cons_zero, List.set_cons_succ, i64_w, i32_w]
     rfl
    refine pv_ 11 (some 28) ?_
    refine pure_ (i := 12) (N := some 29) (v := undef) (a' := ?_) #[true, true, true, true, true, true, true, true, true, true, true, true, true, false, false, false, false, false] rfl rfl (by kernel_rfl) (fun _ _ _ h => h) (Or.inr ⟨by rfl, rfl⟩) ?_ ?_
    rotate_left
    ·simp only [Act.put, List.setIfInBounds_toArray, List.set_cons_zero, List.set_cons_succ, i64_w, i32_w]
     rfl
    refine pure_ (i := 13) (N := some 30) (v := undef) (a' := ?_) #[true, true, true, true, true, true, true, true, true, true, true, true, true, true, false, false, false, false] rfl rfl (by kernel_rfl) (fun _ _ _ h => h) (Or.inr ⟨by rfl, rfl⟩) ?_ ?_
    rotate_left
    ·simp only [Act.put, List.setIfInBounds_toArray, List.set_cons_zero, List.set_cons_succ, i64_w, i32_w]
     rfl
    refine pure_ (i := 14) (N := some 31) (v := undef) (a' := ?_) #[true, true, true, true, true, true, true, true, true, true, true, true, true, true, true, false, false, false] rfl rfl (by kernel_rfl) (fun _ _ _ h => h) (Or.inr ⟨by rfl, rfl⟩) ?_ ?_
    rotate_left
    ·simp only [Act.put, List.setIfInBounds_toArray, List.set_cons_zero, List.set_cons_succ, i64_w, i32_w]
     rfl
    refine pv_ 15 (some 32) ?_
    refine pv_ 16 (some 33) ?_
    refine one_ (i := 17) (N := some 34) #[true, true, true, true, true, true, true, true, true, true, true, true, true, true, true, true, true, true] rfl rfl (by kernel_rfl) (by decide) (fun K hK => ?_)
    refine goesV_ 17 #[.pointer (some ⟨g, 0, none⟩)] #[] Try.func56 (by kernel_rfl) rfl #[.pointer (some ⟨g, 0, none⟩), .agg #[.int .i64 (img ⟨ra, rn, true⟩ (rn - 1)), .int .i64 rn, .bool false]] (by rfl) rfl rfl rfl (by simp only [List.map_toArray, List.map_cons, List.map_nil]; rfl) ?_
    refine (HS.out _ (revR ⟨ra, rn, true⟩) _ hpl.out HI2.out hokr.out).mono ?_
    rintro e w4 ⟨rfl, hi4, hb4, hfr4⟩
    refine ⟨_, rfl, ?_⟩
    have HI4 := Aside0.mk hi4
    have HX4 := Aside0.mk (hfr4 _ _ HX.out HN.out)
    have HB4 := Aside0.mk (HB1.out.trans hb4)
    clear hi4 hb4 hfr4
    refine hK.out _ _ ⟨(blk_cell HX4.out 0).trans rfl, (blk_cell HX4.out 1).trans rfl, (blk_cell HX4.out 2).trans rfl⟩ (fun hHeld => ?_)
    clear hK K
    refine norm_ (a' := ?_) ?_ ?_
    rotate_left
    ·show Act.put _ (some 34) _ = _
     simp only [Act.put, List.setIfInBounds_toArray, List.set_cons_zero, List.set_cons_succ, i64_w, i32_w]
     rfl
    refine done_ (by kernel_rfl) ?_
    go_wp2
    go_roundw
    case rel => exact ⟨x - 1, by first | rfl | (rw [hxw]), ⟨by omega⟩, ⟨by rw [show x - 1 + 1 = x by omega, hsn.out, revL_cons, ← List.append_assoc]; exact HI4.out⟩, HB4⟩
    case measure => simp [intOf]; omega
   ·dsimp only at hbl
    subst hbl
    refine start_ (n := 18) (S := fun w' => w'.cell? ⟨gX, 0, none⟩ = some (.int .i64 ra) ∧ w'.cell? ⟨gX, 1, none⟩ = some (.int .i64 rn) ∧ w'.cell? ⟨gX, 2, none⟩ = some (.bool false)) (ds := []) #[false, false, false, false, false, false, false, false, false, false, false, false, false, false, false, false, false, false] (by kernel_rfl) rfl rfl ⟨(blk_cell HX.out 0).trans rfl, (blk_cell HX.out 1).trans rfl, (blk_cell HX.out 2).trans rfl⟩ (fun hHeld => ?_)
    generalize hwy_ : w1.drew = wy at hHeld ⊢
    have HBD := hwy_ ▸ below_drew (Below.refl w1.heap.size w1)
    replace HB1 := Aside0.mk (below_then HB1.out (Nat.le_trans HNN.out HB1.out.size) HBD)
    replace HN := Aside0.mk (show ¬ Dirty wy gX from fun h => HN.out ((HMo.out _ _ _ HI2.out HBD).2 _ h))
    replace HI2 := Aside0.mk (HMo.out _ _ _ HI2.out HBD).1
    replace HX := Aside0.mk (blk_below HX.out HBD)
    clear HBD
    clear hwy_
    refine pv_ 0 (some 17) ?_
    refine pv_ 2 (some 19) ?_
    refine pv_ 6 (some 23) ?_
    refine pv_ 8 (some 25) ?_
    refine tv_ 1 (some 18) hHeld ?_ (hy := .inl ⟨by rfl, by rintro w' ⟨s0, s1, s2⟩; go_simp; with_reducible rfl⟩)
    refine tv_ 3 (some 20) hHeld ?_ (hy := .inl ⟨by rfl, by rintro w' ⟨s0, s1, s2⟩; go_simp; with_reducible rfl⟩)
    refine pv_ 4 (some 21) ?_
    refine tv_ 7 (some 24) hHeld ?_ (hy := .inl ⟨by rfl, by rintro w' ⟨s0, s1, s2⟩; go_simp; with_reducible rfl⟩)
    refine tv_ 9 (some 26) hHeld ?_ (hy := .inl ⟨by rfl, by rintro w' ⟨s0, s1, s2⟩; go_simp; with_reducible rfl⟩)
    refine pv_ 10 (some 27) ?_
    refine one_ (i := 5) (N := some 22) #[true, true, true, true, true, true, true, true, true, true, true, false, false, false, false, false, false, false] rfl rfl (by kernel_rfl) (by decide) (fun K hK => ?_)
    refine goes_ Try.func69 (by kernel_rfl) rfl #[.agg #[.int .i64 ra, .int .i64 rn, .bool false], .int .i64 (wrap64 (rn - 1))] (by rfl) rfl rfl (by simp only [List.map_toArray, List.map_cons, List.map_nil]; rfl) ?_
    with_reducible refine (HIM.out _).mono ?_
    rintro e w3 ⟨rfl, hb3⟩
    refine ⟨_, rfl, ?_⟩
    replace HB1 := Aside0.mk (below_then HB1.out (Nat.le_trans HNN.out HB1.out.size) hb3)
    replace HN := Aside0.mk (show ¬ Dirty w3 gX from fun h => HN.out ((HMo.out _ _ _ HI2.out hb3).2 _ h))
    replace HI2 := Aside0.mk (HMo.out _ _ _ HI2.out hb3).1
    replace HX := Aside0.mk (blk_below HX.out hb3)
    clear hb3
    refine hK.out _ _ ⟨(blk_cell HX.out 0).trans rfl, (blk_cell HX.out 1).trans rfl, (blk_cell HX.out 2).trans rfl⟩ (fun hHeld => ?_)
    clear hK K
    refine norm_ (a' := ?_) ?_ ?_
    rotate_left
    ·show Act.put _ (some 22) _ = _
     simp only [Act.put, List.setIfInBounds_toArray, List.set_cons_zero, List.set_cons_succ, i64_w, i32_w]
     rfl
    refine pv_ 11 (some 28) ?_
    refine pv_ 12 (some 29) ?_
    refine tv_ 13 (some 30) hHeld ?_ (hy := .inl ⟨by rfl, by rintro w' ⟨s0, s1, s2⟩; go_simp; with_reducible rfl⟩)
    refine pv_ 14 (some 31) ?_
    refine pv_ 15 (some 32) ?_
    refine pv_ 16 (some 33) ?_
    refine one_ (i := 17) (N := some 34) #[true, true, true, true, true, true, true, true, true, true, true, true, true, true, true, true, true, true] rfl rfl (by kernel_rfl) (by decide) (fun K hK => ?_)
    refine goesV_ 17 #[.pointer (some ⟨g, 0, none⟩)] #[] Try.func56 (by kernel_rfl) rfl #[.pointer (some ⟨g, 0, none⟩), .agg #[.int .i64 (img ⟨ra, rn, false⟩ (rn - 1)), .int .i64 rn, .bool (decide (1 < rn))]] (by rfl) rfl rfl rfl (by simp only [List.map_toArray, List.map_cons, List.map_nil]; rfl) ?_
    refine (HS.out _ (revR ⟨ra, rn, false⟩) _ hpl.out HI2.out hokr.out).mono ?_
    rintro e w4 ⟨rfl, hi4, hb4, hfr4⟩
    refine ⟨_, rfl, ?_⟩
    have HI4 := Aside0.mk hi4
    have HX4 := Aside0.mk (hfr4 _ _ HX.out HN.out)
    have HB4 := Aside0.mk (HB1.out.trans hb4)
    clear hi4 hb4 hfr4
    refine hK.out _ _ ⟨(blk_cell HX4.out 0).trans rfl, (blk_cell HX4.out 1).trans rfl, (blk_cell HX4.out 2).trans rfl⟩ (fun hHeld => ?_)
    clear hK K
    refine norm_ (a' := ?_) ?_ ?_
    rotate_left
    ·show Act.put _ (some 34) _ = _
     simp only [Act.put, List.setIfInBounds_toArray, List.set_cons_zero, List.set_cons_succ, i64_w, i32_w]
     rfl
    refine done_ (by kernel_rfl) ?_
    go_wp2
    go_roundw
    case rel => exact ⟨x - 1, by first | rfl | (rw [hxw]), ⟨by omega⟩, ⟨by rw [show x - 1 + 1 = x by omega, hsn.out, revL_cons, ← List.append_assoc]; exact HI4.out⟩, HB4⟩
    case measure => simp [intOf]; omega
  ·have hd0 : decide (0 ≤ x) = false := by simpa using hk
   have hfin := Aside0.mk (show m.drop (x + 1).toNat = m from by rw [show (x + 1).toNat = 0 by omega]; rfl)
   go_wp2
   (try simp only [Exit.inBlock, Exit.then]); refine bodyPost_end (results_none rfl _ _ _) rfl ?_
   exact ⟨rfl, by have := HI1.out; rwa [hfin.out] at this, HB.out⟩
end Go.Proofs.Ytalpegglbfobiaa.G

namespace Go.Proofs.Ytalpegglbfobiaa.G
open Go.RowKit Go.Proofs.YtalpegglbfobiaaW.PrintWords Go.Proofs.YtalpegglbfobiaaW.PrintLast Go.Proofs.YtalpegglbfobiaaW.PrintMore
attribute [local go_sem] max2_int min2_int max_two min_two max_three min_three max_four min_four   -- for this text's walks alone
set_option linter.unusedVariables false
set_option linter.unusedSimpArgs false

mutual
def iso_Check.l0 : Nat → Int → List (S44) → Int → Int → Option (Int)
 | 0, _, _, _, _ => none
 | k + 1, x3, x9, x10, x11 => if x11 < x10 then (if 0 ≤ x11 then (if x11 < (x9.length : Int) then (if ((rd_T44 x9 x11).f1) < 1 then (iso_Check.j1 k x3 x9 x10 x11 true ((rd_T44 x9 x11).f0) ((rd_T44 x9 x11).f1) ((rd_T44 x9 x11).f2)) else (if ((rd_T44 x9 x11).f1) > 17179869184 then (iso_Check.j1 k x3 x9 x10 x11 true ((rd_T44 x9 x11).f0) ((rd_T44 x9 x11).f1) ((rd_T44 x9 x11).f2)) else (if ((rd_T44 x9 x11).f0) < 0 then (iso_Check.j1 k x3 x9 x10 x11 true ((rd_T44 x9 x11).f0) ((rd_T44 x9 x11).f1) ((rd_T44 x9 x11).f2)) else (iso_Check.j1 k x3 x9 x10 x11 (decide (((rd_T44 x9 x11).f0) ≥ 17179869184)) ((rd_T44 x9 x11).f0) ((rd_T44 x9 x11).f1) ((rd_T44 x9 x11).f2))))) else (none)) else (none)) else (if x3 > 17179869184 then (some 21) else (some 0))
def iso_Check.j1 : Nat → Int → List (S44) → Int → Int → Bool → Int → Int → Bool → Option (Int)
 | 0, _, _, _, _, _, _, _, _ => none
 | k + 1, x3, x9, x10, x11, x32, x40003000, x40003001, x40003002 => if x32 = true then (some 1) else (if x40003002 = true then (if (wrap64 ((wrap64 (x40003000 - x40003001)) + 1)) < 0 then (some 1) else (iso_Check.l0 k (wrap64 (x3 + x40003001)) x9 x10 (wrap64 (x11 + 1)))) else (if (wrap64 (x40003000 + x40003001)) > 17179869184 then (some 1) else (iso_Check.l0 k (wrap64 (x3 + x40003001)) x9 x10 (wrap64 (x11 + 1)))))
end
def iso_Check.f (k : Nat) (l0 : List (S44)) : Option (Int) := if (l0.length : Int) > 256 then (some 8) else (iso_Check.l0 k 0 l0 (l0.length : Int) 0)
set_option maxHeartbeats 8000000 in
set_option maxRecDepth 100000 in
theorem iso_Check.calls (k : Nat) (A0 : Option Addr) (c0 : Nat) (l0 : List (S44)) (r : Int) (w : World) (hr0 : Kd.C k44 w A0 l0.length l0) (hc0 : l0.length ≤ c0) (h : iso_Check.f k l0 = some r) :
  Calls Try.prog 39 #[.slice A0 l0.length c0] w fun e w' => e = .returned (.int .i64 r) ∧ Below w.heap.size w w' := by
 have hu44 := Try.underlying44
 have HR0 := Aside0.mk hr0
 have HC0 := Aside0.mk hc0
 clear hr0 hc0
 have HB := Aside0.mk (Below.refl w.heap.size w)
 have H : (if (l0.length : Int) > 256 then (some 8) else (iso_Check.l0 k 0 l0 (l0.length : Int) 0)) = some r := h
 clear h
 by_cases c2 : (l0.length : Int) > 256
 ·rw [if_pos c2] at H
  have c2b0 : decide (256 < (l0.length : Int)) = true := decide_eq_true c2
  have c2b1 : decide (256 < l0.length) = true := decide_eq_true (by omega)
  clear c2
  obtain rfl := Option.some.inj H
  go_enter Try.func39, Try.ntmps39
  go_wp2
  go_ret
  exact ⟨by first | rfl | (simp [errW_none, errW_some] <;> rfl) | (simp [*, errW_none, errW_some] <;> rfl), by repeat (first | exact HB.out | apply below_alloc | apply pw_below_drewN | apply below_drew1)⟩
 ·rw [if_neg c2] at H
  have c2b0 : decide (256 < (l0.length : Int)) = false := decide_eq_false c2
  have c2b1 : decide (256 < l0.length) = false := decide_eq_false (by omega)
  clear c2
  have H' := Aside0.mk H
  clear H
  go_enter Try.func39, Try.ntmps39
  go_wp2
  go_loopg [3, 11] k (fun kq v3 v11 w' => ∃ (x3_1 : Int) (x11_1 : Int), v3 = .int .i64 x3_1 ∧ v11 = .int .i64 x11_1 ∧ Aside0 (iso_Check.l0 kq x3_1 l0 (l0.length : Int) x11_1 = some r) ∧ Aside0 (kq ≤ k) ∧ Aside0 (Below w.heap.size w w'))
  case atStart => exact ⟨(0), (0), (by first | rfl | (simp; done) | (simp [*]; done)), (by first | rfl | (simp; done) | (simp [*]; done)), H', ⟨Nat.le_refl _⟩, ⟨by repeat (first | exact HB.out | apply below_alloc | apply pw_below_drewN | apply below_drew1)⟩⟩
  case round =>
   clear H'
   try clear c2
   try clear c2b0
   try clear c2b1
   try clear p2
   obtain ⟨x3_1, x11_1, rfl, rfl, HA, HK1, HB⟩ := hrel
   cases gk with
   | zero => exact absurd HA.out (by simp [iso_Check.l0])
   | succ k1 =>
    have H := HA.out
    clear HA
    simp only [iso_Check.l0] at H
    by_cases c3 : x11_1 < (l0.length : Int)
    ·rw [if_pos c3] at H
     have c3b0 : decide (x11_1 < (l0.length : Int)) = true := decide_eq_true c3
     clear c3
     by_cases c4 : 0 ≤ x11_1
     ·rw [if_pos c4] at H
      have c4b0 : decide (0 ≤ x11_1) = true := decide_eq_true c4
      clear c4
      by_cases c5 : x11_1 < (l0.length : Int)
      ·rw [if_pos c5] at H
       have c5b0 : decide (x11_1 < (l0.length : Int)) = true := decide_eq_true c5
       clear c5
       have HC6 := Aside0.mk H
       clear H
       have p40001 : 0 ≤ (x11_1 : Int) := of_decide_eq_true (by assumption)
       have q40001 : x11_1 < (l0.length : Int) := of_decide_eq_true (by assumption)
       obtain ⟨ad40001, e40001, hx40001_0, hx40001_1, hx40001_2⟩ := at_T44 HR0.out x11_1 p40001 q40001
       cases e40001
       replace hx40001_0 := (HB.out.cell (World.block_lt_of_cell? w _ hx40001_0)).trans hx40001_0
       replace hx40001_1 := (HB.out.cell (World.block_lt_of_cell? w _ hx40001_1)).trans hx40001_1
       replace hx40001_2 := (HB.out.cell (World.block_lt_of_cell? w _ hx40001_2)).trans hx40001_2
       replace p40001 := eq_true p40001
       replace q40001 := eq_true q40001
       go_upto_region 7 with (first | ((with_reducible refine gate_dst (N := 5) rfl ?_); refine box_event ?hg (N := 5) ?hd (cs := #[.int .i64 0, .int .i64 0, .bool false]) (t := 44) ?hr ?_; (case hd => rfl); (case hg => rfl); (case hr => first | (go_simp; done) | (go_simp; rfl)); intro gb40002 hg w7 hbox hb; have BK40002 := Aside0.mk (hbox); have GW40002 := Aside0.mk ((by rw [hg]; exact (below_size (by repeat (first | exact HB.out | apply below_alloc | apply pw_below_drewN | apply below_drew1))) : w.heap.size ≤ gb40002)); have GE40002 := Aside0.mk ((by rw [hg]; exact (below_size (by repeat (first | exact HB.out | apply below_alloc | apply pw_below_drewN | apply below_drew1))) : w.heap.size ≤ gb40002)); replace HB := Aside0.mk (below_step (by repeat (first | exact HB.out | apply below_alloc | apply pw_below_drewN | apply below_drew1)) hb); clear hb hbox hg; have hcz8_0 : w7.cell? ⟨gb40002, 0, none⟩ = some (.int .i64 0) := (blk_cell BK40002.out 0).trans rfl; have hcz8_1 : w7.cell? ⟨gb40002, 1, none⟩ = some (.int .i64 0) := (blk_cell BK40002.out 1).trans rfl; have hcz8_2 : w7.cell? ⟨gb40002, 2, none⟩ = some (.bool false) := (blk_cell BK40002.out 2).trans rfl; have hfz8_0 := blk_frozen BK40002.out 0; have hfz8_1 := blk_frozen BK40002.out 1; have hfz8_2 := blk_frozen BK40002.out 2))
       (try simp only [Act.put, List.setIfInBounds_toArray, List.set_cons_zero, List.set_cons_succ])
       go_cut [32] (fun v32 wc => ∃ (kq : Nat) (x32_5 : Bool), v32 = .bool x32_5 ∧ Aside0 (iso_Check.j1 kq x3_1 l0 (l0.length : Int) x11_1 x32_5 ((rd_T44 l0 x11_1).f0) ((rd_T44 l0 x11_1).f1) ((rd_T44 l0 x11_1).f2) = some r) ∧ Aside0 (kq ≤ k1) ∧ Aside0 (wc.heap[gb40002]? = some (.cells #[.int .i64 ((rd_T44 l0 x11_1).f0), .int .i64 ((rd_T44 l0 x11_1).f1), .bool ((rd_T44 l0 x11_1).f2)] 44 (0, 0))) ∧ Aside0 (Below w.heap.size w wc))
       case first =>
        have H := HC6.out
        clear HC6
        by_cases c9 : ((rd_T44 l0 x11_1).f1) < 1
        ·rw [if_pos c9] at H
         have c9b0 : decide (((rd_T44 l0 x11_1).f1) < 1) = true := decide_eq_true c9
         clear c9
         (first | rw [c9b0] | (simp only [i64_w, i32_w]; rw [c9b0]) | skip)
         have H' := Aside0.mk H
         clear H
         have hcz10_0 : w7.cell? ⟨gb40002, 0, none⟩ = some (.int .i64 0) := (blk_cell BK40002.out 0).trans rfl
         have hcz10_1 : w7.cell? ⟨gb40002, 1, none⟩ = some (.int .i64 0) := (blk_cell BK40002.out 1).trans rfl
         have hcz10_2 : w7.cell? ⟨gb40002, 2, none⟩ = some (.bool false) := (blk_cell BK40002.out 2).trans rfl
         have hfz10_0 := blk_frozen BK40002.out 0
         have hfz10_1 := blk_frozen BK40002.out 1
         have hfz10_2 := blk_frozen BK40002.out 2
         go_wp2
         go_meet
         case rel => exact ⟨_, (true), (by first | rfl | (simp; done) | (simp [*]; done)), H', ⟨by have := HK1.out; first | omega | exact Nat.le_refl _⟩, ⟨by refine blk_put (cs := #[.int .i64 ((rd_T44 l0 x11_1).f0), .int .i64 ((rd_T44 l0 x11_1).f1), .bool false]) ?_ 2 _ rfl; refine blk_put (cs := #[.int .i64 ((rd_T44 l0 x11_1).f0), .int .i64 0, .bool false]) ?_ 1 _ rfl; refine blk_put (cs := #[.int .i64 0, .int .i64 0, .bool false]) ?_ 0 _ rfl; exact BK40002.out⟩, ⟨by repeat (first | exact HB.out | apply below_alloc | apply pw_below_drewN | apply below_drew1 | refine below_set ?_ GE40002.out)⟩⟩
        ·rw [if_neg c9] at H
         have c9b0 : decide (((rd_T44 l0 x11_1).f1) < 1) = false := decide_eq_false c9
         clear c9
         (first | rw [c9b0] | (simp only [i64_w, i32_w]; rw [c9b0]) | skip)
         by_cases c11 : ((rd_T44 l0 x11_1).f1) > 17179869184
         ·rw [if_pos c11] at H
          have c11b0 : decide (17179869184 < ((rd_T44 l0 x11_1).f1)) = true := decide_eq_true c11
          clear c11
          have H' := Aside0.mk H
          clear H
          have hcz12_0 : w7.cell? ⟨gb40002, 0, none⟩ = some (.int .i64 0) := (blk_cell BK40002.out 0).trans rfl
          have hcz12_1 : w7.cell? ⟨gb40002, 1, none⟩ = some (.int .i64 0) := (blk_cell BK40002.out 1).trans rfl
          have hcz12_2 : w7.cell? ⟨gb40002, 2, none⟩ = some (.bool false) := (blk_cell BK40002.out 2).trans rfl
          have hfz12_0 := blk_frozen BK40002.out 0
          have hfz12_1 := blk_frozen BK40002.out 1
          have hfz12_2 := blk_frozen BK40002.out 2
          go_wp2
          go_meet
          case rel => exact ⟨_, (true), (by first | rfl | (simp; done) | (simp [*]; done)), H', ⟨by have := HK1.out; first | omega | exact Nat.le_refl _⟩, ⟨by refine blk_put (cs := #[.int .i64 ((rd_T44 l0 x11_1).f0), .int .i64 ((rd_T44 l0 x11_1).f1), .bool false]) ?_ 2 _ rfl; refine blk_put (cs := #[.int .i64 ((rd_T44 l0 x11_1).f0), .int .i64 0, .bool false]) ?_ 1 _ rfl; refine blk_put (cs := #[.int .i64 0, .int .i64 0, .bool false]) ?_ 0 _ rfl; exact BK40002.out⟩, ⟨by repeat (first | exact HB.out | apply below_alloc | apply pw_below_drewN | apply below_drew1 | refine below_set ?_ GE40002.out)⟩⟩
         ·rw [if_neg c11] at H
          have c11b0 : decide (17179869184 < ((rd_T44 l0 x11_1).f1)) = false := decide_eq_false c11
          clear c11
          by_cases c13 : ((rd_T44 l0 x11_1).f0) < 0
          ·rw [if_pos c13] at H
           have c13b0 : decide (((rd_T44 l0 x11_1).f0) < 0) = true := decide_eq_true c13
           clear c13
           have H' := Aside0.mk H
           clear H
           have hcz14_0 : w7.cell? ⟨gb40002, 0, none⟩ = some (.int .i64 0) := (blk_cell BK40002.out 0).trans rfl
           have hcz14_1 : w7.cell? ⟨gb40002, 1, none⟩ = some (.int .i64 0) := (blk_cell BK40002.out 1).trans rfl
           have hcz14_2 : w7.cell? ⟨gb40002, 2, none⟩ = some (.bool false) := (blk_cell BK40002.out 2).trans rfl
           have hfz14_0 := blk_frozen BK40002.out 0
           have hfz14_1 := blk_frozen BK40002.out 1
           have hfz14_2 := blk_frozen BK40002.out 2
           go_wp2
           go_meet
           case rel => exact ⟨_, (true), (by first | rfl | (simp; done) | (simp [*]; done)), H', ⟨by have := HK1.out; first | omega | exact Nat.le_refl _⟩, ⟨by refine blk_put (cs := #[.int .i64 ((rd_T44 l0 x11_1).f0), .int .i64 ((rd_T44 l0 x11_1).f1), .bool false]) ?_ 2 _ rfl; refine blk_put (cs := #[.int .i64 ((rd_T44 l0 x11_1).f0), .int .i64 0, .bool false]) ?_ 1 _ rfl; refine blk_put (cs := #[.int .i64 0, .int .i64 0, .bool false]) ?_ 0 _ rfl; exact BK40002.out⟩, ⟨by repeat (first | exact HB.out | apply below_alloc | apply pw_below_drewN | apply below_drew1 | refine below_set ?_ GE40002.out)⟩⟩
          ·rw [if_neg c13] at H
           have c13b0 : decide (((rd_T44 l0 x11_1).f0) < 0) = false := decide_eq_false c13
           clear c13
           have H' := Aside0.mk H
           clear H
           have hcz15_0 : w7.cell? ⟨gb40002, 0, none⟩ = some (.int .i64 0) := (blk_cell BK40002.out 0).trans rfl
           have hcz15_1 : w7.cell? ⟨gb40002, 1, none⟩ = some (.int .i64 0) := (blk_cell BK40002.out 1).trans rfl
           have hcz15_2 : w7.cell? ⟨gb40002, 2, none⟩ = some (.bool false) := (blk_cell BK40002.out 2).trans rfl
           have hfz15_0 := blk_frozen BK40002.out 0
           have hfz15_1 := blk_frozen BK40002.out 1
           have hfz15_2 := blk_frozen BK40002.out 2
           go_wp2
           go_meet
           case rel => exact ⟨_, (decide (((rd_T44 l0 x11_1).f0) ≥ 17179869184)), (by first | rfl | (simp; done) | (simp [*]; done)), H', ⟨by have := HK1.out; first | omega | exact Nat.le_refl _⟩, ⟨by refine blk_put (cs := #[.int .i64 ((rd_T44 l0 x11_1).f0), .int .i64 ((rd_T44 l0 x11_1).f1), .bool false]) ?_ 2 _ rfl; refine blk_put (cs := #[.int .i64 ((rd_T44 l0 x11_1).f0), .int .i64 0, .bool false]) ?_ 1 _ rfl; refine blk_put (cs := #[.int .i64 0, .int .i64 0, .bool false]) ?_ 0 _ rfl; exact BK40002.out⟩, ⟨by repeat (first | exact HB.out | apply below_alloc | apply pw_below_drewN | apply below_drew1 | refine below_set ?_ GE40002.out)⟩⟩
       case rest =>
        clear HC6
        try clear c1
        try clear c2
        try clear c2b0
        try clear c2b1
        try clear p2
        try clear c3
        try clear c3b0
        try clear c4
        try clear c4b0
        try clear p4
        try clear q4
        try clear hx4
        try clear c5
        try clear c5b0
        try clear c9
        try clear c9b0
        try clear c11
        try clear c11b0
        try clear c13
        try clear c13b0
        try clear hcz10_0
        try clear hcz10_1
        try clear hcz10_2
        try clear hcz12_0
        try clear hcz12_1
        try clear hcz12_2
        try clear hcz14_0
        try clear hcz14_1
        try clear hcz14_2
        try clear hcz15_0
        try clear hcz15_1
        try clear hcz15_2
        try clear hcz8_0
        try clear hcz8_1
        try clear hcz8_2
        try clear hfz10_0
        try clear hfz10_1
        try clear hfz10_2
        try clear hfz12_0
        try clear hfz12_1
        try clear hfz12_2
        try clear hfz14_0
        try clear hfz14_1
        try clear hfz14_2
        try clear hfz15_0
        try clear hfz15_1
        try clear hfz15_2
        try clear hfz8_0
        try clear hfz8_1
        try clear hfz8_2
        try clear hx40001_0
        try clear hx40001_1
        try clear hx40001_2
        try clear p2
        try clear p40001
        try clear q40001
        obtain ⟨kq, x32_5, rfl, HA, HJ5, BK40002, HB⟩ := hcut
        cases kq with
        | zero => exact absurd HA.out (by simp [iso_Check.j1])
        | succ kj5 =>
         have H := HA.out
         clear HA
         simp only [iso_Check.j1] at H
         by_cases c16 : x32_5 = true
         ·subst c16
          rw [if_pos rfl] at H
          obtain rfl := Option.some.inj H
          go_wp2
          go_ret
          exact ⟨by first | rfl | (simp [errW_none, errW_some] <;> rfl) | (simp [*, errW_none, errW_some] <;> rfl), by repeat (first | exact HB.out | apply below_alloc | apply pw_below_drewN | apply below_drew1 | refine below_set ?_ GE40002.out)⟩
         ·replace c16 := Bool.eq_false_iff.mpr c16
          subst c16
          have H1 : (if ((rd_T44 l0 x11_1).f2) = true then (if (wrap64 ((wrap64 (((rd_T44 l0 x11_1).f0) - ((rd_T44 l0 x11_1).f1))) + 1)) < 0 then (some 1) else (iso_Check.l0 kj5 (wrap64 (x3_1 + ((rd_T44 l0 x11_1).f1))) l0 (l0.length : Int) (wrap64 (x11_1 + 1)))) else (if (wrap64 (((rd_T44 l0 x11_1).f0) + ((rd_T44 l0 x11_1).f1))) > 17179869184 then (some 1) else (iso_Check.l0 kj5 (wrap64 (x3_1 + ((rd_T44 l0 x11_1).f1))) l0 (l0.length : Int) (wrap64 (x11_1 + 1))))) = some r := by rw [if_neg (show ¬ (false = true) by decide)] at H; first | exact H | simpa using H
          clear H
          have H := H1
          clear H1
          by_cases c17 : ((rd_T44 l0 x11_1).f2) = true
          ·rw [if_pos c17] at H
           have c17b0 : ((rd_T44 l0 x11_1).f2) = true := c17
           clear c17
           by_cases c18 : (wrap64 ((wrap64 (((rd_T44 l0 x11_1).f0) - ((rd_T44 l0 x11_1).f1))) + 1)) < 0
           ·rw [if_pos c18] at H
            have c18b0 : decide ((wrap64 ((wrap64 (((rd_T44 l0 x11_1).f0) - ((rd_T44 l0 x11_1).f1))) + 1)) < 0) = true := decide_eq_true c18
            clear c18
            obtain rfl := Option.some.inj H
            have hcz19_0 : wc.cell? ⟨gb40002, 0, none⟩ = some (.int .i64 ((rd_T44 l0 x11_1).f0)) := (blk_cell BK40002.out 0).trans rfl
            have hcz19_1 : wc.cell? ⟨gb40002, 1, none⟩ = some (.int .i64 ((rd_T44 l0 x11_1).f1)) := (blk_cell BK40002.out 1).trans rfl
            have hcz19_2 : wc.cell? ⟨gb40002, 2, none⟩ = some (.bool ((rd_T44 l0 x11_1).f2)) := (blk_cell BK40002.out 2).trans rfl
            have hfz19_0 := blk_frozen BK40002.out 0
            have hfz19_1 := blk_frozen BK40002.out 1
            have hfz19_2 := blk_frozen BK40002.out 2
            go_wp2
            go_ret
            exact ⟨by first | rfl | (simp [errW_none, errW_some] <;> rfl) | (simp [*, errW_none, errW_some] <;> rfl), by repeat (first | exact HB.out | apply below_alloc | apply pw_below_drewN | apply below_drew1 | refine below_set ?_ GE40002.out)⟩
           ·rw [if_neg c18] at H
            have c18b0 : decide ((wrap64 ((wrap64 (((rd_T44 l0 x11_1).f0) - ((rd_T44 l0 x11_1).f1))) + 1)) < 0) = false := decide_eq_false c18
            clear c18
            have H' := Aside0.mk H
            clear H
            have hcz20_0 : wc.cell? ⟨gb40002, 0, none⟩ = some (.int .i64 ((rd_T44 l0 x11_1).f0)) := (blk_cell BK40002.out 0).trans rfl
            have hcz20_1 : wc.cell? ⟨gb40002, 1, none⟩ = some (.int .i64 ((rd_T44 l0 x11_1).f1)) := (blk_cell BK40002.out 1).trans rfl
            have hcz20_2 : wc.cell? ⟨gb40002, 2, none⟩ = some (.bool ((rd_T44 l0 x11_1).f2)) := (blk_cell BK40002.out 2).trans rfl
            have hfz20_0 := blk_frozen BK40002.out 0
            have hfz20_1 := blk_frozen BK40002.out 1
            have hfz20_2 := blk_frozen BK40002.out 2
            go_wp2
            go_roundg kj5
            case measure => have := HK1.out; have := HJ5.out; omega
            case rel => exact ⟨(wrap64 (x3_1 + ((rd_T44 l0 x11_1).f1))), (wrap64 (x11_1 + 1)), (by first | rfl | (simp; done) | (simp [*]; done)), (by first | rfl | (simp; done) | (simp [*]; done)), H', ⟨by have := HK1.out; have := HJ5.out; omega⟩, ⟨by repeat (first | exact HB.out | apply below_alloc | apply pw_below_drewN | apply below_drew1 | refine below_set ?_ GE40002.out)⟩⟩
          ·rw [if_neg c17] at H
           have c17b0 : ((rd_T44 l0 x11_1).f2) = false := by simpa using c17
           clear c17
           by_cases c21 : (wrap64 (((rd_T44 l0 x11_1).f0) + ((rd_T44 l0 x11_1).f1))) > 17179869184
           ·rw [if_pos c21] at H
            have c21b0 : decide (17179869184 < (wrap64 (((rd_T44 l0 x11_1).f0) + ((rd_T44 l0 x11_1).f1)))) = true := decide_eq_true c21
            clear c21
            obtain rfl := Option.some.inj H
            have hcz22_0 : wc.cell? ⟨gb40002, 0, none⟩ = some (.int .i64 ((rd_T44 l0 x11_1).f0)) := (blk_cell BK40002.out 0).trans rfl
            have hcz22_1 : wc.cell? ⟨gb40002, 1, none⟩ = some (.int .i64 ((rd_T44 l0 x11_1).f1)) := (blk_cell BK40002.out 1).trans rfl
            have hcz22_2 : wc.cell? ⟨gb40002, 2, none⟩ = some (.bool ((rd_T44 l0 x11_1).f2)) := (blk_cell BK40002.out 2).trans rfl
            have hfz22_0 := blk_frozen BK40002.out 0
            have hfz22_1 := blk_frozen BK40002.out 1
            have hfz22_2 := blk_frozen BK40002.out 2
            go_wp2
            go_ret
            exact ⟨by first | rfl | (simp [errW_none, errW_some] <;> rfl) | (simp [*, errW_none, errW_some] <;> rfl), by repeat (first | exact HB.out | apply below_alloc | apply pw_below_drewN | apply below_drew1 | refine below_set ?_ GE40002.out)⟩
           ·rw [if_neg c21] at H
            have c21b0 : decide (17179869184 < (wrap64 (((rd_T44 l0 x11_1).f0) + ((rd_T44 l0 x11_1).f1)))) = false := decide_eq_false c21
            clear c21
            have H' := Aside0.mk H
            clear H
            have hcz23_0 : wc.cell? ⟨gb40002, 0, none⟩ = some (.int .i64 ((rd_T44 l0 x11_1).f0)) := (blk_cell BK40002.out 0).trans rfl
            have hcz23_1 : wc.cell? ⟨gb40002, 1, none⟩ = some (.int .i64 ((rd_T44 l0 x11_1).f1)) := (blk_cell BK40002.out 1).trans rfl
            have hcz23_2 : wc.cell? ⟨gb40002, 2, none⟩ = some (.bool ((rd_T44 l0 x11_1).f2)) := (blk_cell BK40002.out 2).trans rfl
            have hfz23_0 := blk_frozen BK40002.out 0
            have hfz23_1 := blk_frozen BK40002.out 1
            have hfz23_2 := blk_frozen BK40002.out 2
            go_wp2
            go_roundg kj5
            case measure => have := HK1.out; have := HJ5.out; omega
            case rel => exact ⟨(wrap64 (x3_1 + ((rd_T44 l0 x11_1).f1))), (wrap64 (x11_1 + 1)), (by first | rfl | (simp; done) | (simp [*]; done)), (by first | rfl | (simp; done) | (simp [*]; done)), H', ⟨by have := HK1.out; have := HJ5.out; omega⟩, ⟨by repeat (first | exact HB.out | apply below_alloc | apply pw_below_drewN | apply below_drew1 | refine below_set ?_ GE40002.out)⟩⟩
      ·rw [if_neg c5] at H
       exact absurd H (by simp)
     ·rw [if_neg c4] at H
      exact absurd H (by simp)
    ·rw [if_neg c3] at H
     have c3b0 : decide (x11_1 < (l0.length : Int)) = false := decide_eq_false c3
     clear c3
     by_cases c24 : x3_1 > 17179869184
     ·rw [if_pos c24] at H
      have c24b0 : decide (17179869184 < x3_1) = true := decide_eq_true c24
      clear c24
      obtain rfl := Option.some.inj H
      go_wp2
      go_ret
      exact ⟨by first | rfl | (simp [errW_none, errW_some] <;> rfl) | (simp [*, errW_none, errW_some] <;> rfl), by repeat (first | exact HB.out | apply below_alloc | apply pw_below_drewN | apply below_drew1)⟩
     ·rw [if_neg c24] at H
      have c24b0 : decide (17179869184 < x3_1) = false := decide_eq_false c24
      clear c24
      obtain rfl := Option.some.inj H
      go_wp2
      go_ret
      exact ⟨by first | rfl | (simp [errW_none, errW_some] <;> rfl) | (simp [*, errW_none, errW_some] <;> rfl), by repeat (first | exact HB.out | apply below_alloc | apply pw_below_drewN | apply below_drew1)⟩

end Go.Proofs.Ytalpegglbfobiaa.G

namespace Go.Proofs.Ytalpegglbfobiaa.G
open Go.RowKit Go.Proofs.YtalpegglbfobiaaW.PrintWords Go.Proofs.YtalpegglbfobiaaW.PrintLast Go.Proofs.YtalpegglbfobiaaW.PrintMore
attribute [local go_sem] max2_int min2_int max_two min_two max_three min_three max_four min_four   -- for this text's walks alone
set_option linter.unusedVariables false
set_option linter.unusedSimpArgs false

def iso_length.l0 : Nat → Int → List (S44) → Int → Int → Option (Int)
 | 0, _, _, _, _ => none
 | k + 1, x3, x6, x7, x8 => if x8 < x7 then (if 0 ≤ x8 then (if x8 < (x6.length : Int) then (iso_length.l0 k (wrap64 (x3 + ((rd_T44 x6 x8).f1))) x6 x7 (wrap64 (x8 + 1))) else (none)) else (none)) else (some x3)
def iso_length.f (k : Nat) (l0 : List (S44)) : Option (Int) := iso_length.l0 k 0 l0 (l0.length : Int) 0
set_option maxHeartbeats 8000000 in
set_option maxRecDepth 100000 in
theorem iso_length.calls (k : Nat) (A0 : Option Addr) (c0 : Nat) (l0 : List (S44)) (r : Int) (w : World) (hr0 : Kd.C k44 w A0 l0.length l0) (hc0 : l0.length ≤ c0) (h : iso_length.f k l0 = some r) :
  Calls Try.prog 64 #[.slice A0 l0.length c0] w fun e w' => e = .returned (.int .i64 r) ∧ Below w.heap.size w w' := by
 have hu44 := Try.underlying44
 have HR0 := Aside0.mk hr0
 have HC0 := Aside0.mk hc0
 clear hr0 hc0
 have HB := Aside0.mk (Below.refl w.heap.size w)
 have H : (iso_length.l0 k 0 l0 (l0.length : Int) 0) = some r := h
 clear h
 have H' := Aside0.mk H
 clear H
 go_enter Try.func64, Try.ntmps64
 go_wp2
 go_loopg [3, 8] k (fun kq v3 v8 w' => ∃ (x3_1 : Int) (x8_1 : Int), v3 = .int .i64 x3_1 ∧ v8 = .int .i64 x8_1 ∧ Aside0 (iso_length.l0 kq x3_1 l0 (l0.length : Int) x8_1 = some r) ∧ Aside0 (kq ≤ k) ∧ Aside0 (Below w.heap.size w w'))
 case atStart => exact ⟨(0), (0), (by first | rfl | (simp; done) | (simp [*]; done)), (by first | rfl | (simp; done) | (simp [*]; done)), H', ⟨Nat.le_refl _⟩, ⟨by repeat (first | exact HB.out | apply below_alloc | apply pw_below_drewN | apply below_drew1)⟩⟩
 case round =>
  clear H'
  obtain ⟨x3_1, x8_1, rfl, rfl, HA, HK1, HB⟩ := hrel
  cases gk with
  | zero => exact absurd HA.out (by simp [iso_length.l0])
  | succ k1 =>
   have H := HA.out
   clear HA
   simp only [iso_length.l0] at H
   by_cases c2 : x8_1 < (l0.length : Int)
   ·rw [if_pos c2] at H
    have c2b0 : decide (x8_1 < (l0.length : Int)) = true := decide_eq_true c2
    clear c2
    by_cases c3 : 0 ≤ x8_1
    ·rw [if_pos c3] at H
     have c3b0 : decide (0 ≤ x8_1) = true := decide_eq_true c3
     clear c3
     by_cases c4 : x8_1 < (l0.length : Int)
     ·rw [if_pos c4] at H
      have c4b0 : decide (x8_1 < (l0.length : Int)) = true := decide_eq_true c4
      clear c4
      have H' := Aside0.mk H
      clear H
      have p65001 : 0 ≤ (x8_1 : Int) := of_decide_eq_true (by assumption)
      have q65001 : x8_1 < (l0.length : Int) := of_decide_eq_true (by assumption)
      obtain ⟨ad65001, e65001, hx65001_0, hx65001_1, hx65001_2⟩ := at_T44 HR0.out x8_1 p65001 q65001
      cases e65001
      replace hx65001_0 := (HB.out.cell (World.block_lt_of_cell? w _ hx65001_0)).trans hx65001_0
      replace hx65001_1 := (HB.out.cell (World.block_lt_of_cell? w _ hx65001_1)).trans hx65001_1
      replace hx65001_2 := (HB.out.cell (World.block_lt_of_cell? w _ hx65001_2)).trans hx65001_2
      replace p65001 := eq_true p65001
      replace q65001 := eq_true q65001
      go_wp2_with (first | ((with_reducible refine gate_dst (N := 5) rfl ?_); refine box_event ?hg (N := 5) ?hd (cs := #[.int .i64 0, .int .i64 0, .bool false]) (t := 44) ?hr ?_; (case hd => rfl); (case hg => rfl); (case hr => first | (go_simp; done) | (go_simp; rfl)); intro gb65002 hg w5 hbox hb; have BK65002 := Aside0.mk (hbox); have GW65002 := Aside0.mk ((by rw [hg]; exact (below_size (by repeat (first | exact HB.out | apply below_alloc | apply pw_below_drewN | apply below_drew1))) : w.heap.size ≤ gb65002)); have GE65002 := Aside0.mk ((by rw [hg]; exact (below_size (by repeat (first | exact HB.out | apply below_alloc | apply pw_below_drewN | apply below_drew1))) : w.heap.size ≤ gb65002)); replace HB := Aside0.mk (below_step (by repeat (first | exact HB.out | apply below_alloc | apply pw_below_drewN | apply below_drew1)) hb); clear hb hbox hg; have hcz6_0 : w5.cell? ⟨gb65002, 0, none⟩ = some (.int .i64 0) := (blk_cell BK65002.out 0).trans rfl; have hcz6_1 : w5.cell? ⟨gb65002, 1, none⟩ = some (.int .i64 0) := (blk_cell BK65002.out 1).trans rfl; have hcz6_2 : w5.cell? ⟨gb65002, 2, none⟩ = some (.bool false) := (blk_cell BK65002.out 2).trans rfl; have hfz6_0 := blk_frozen BK65002.out 0; have hfz6_1 := blk_frozen BK65002.out 1; have hfz6_2 := blk_frozen BK65002.out 2))
      go_roundg k1
      case measure => have := HK1.out; omega
      case rel => exact ⟨(wrap64 (x3_1 + ((rd_T44 l0 x8_1).f1))), (wrap64 (x8_1 + 1)), (by first | rfl | (simp; done) | (simp [*]; done)), (by first | rfl | (simp; done) | (simp [*]; done)), H', ⟨by have := HK1.out; omega⟩, ⟨by repeat (first | exact HB.out | apply below_alloc | apply pw_below_drewN | apply below_drew1 | refine below_set ?_ GE65002.out)⟩⟩
     ·rw [if_neg c4] at H
      exact absurd H (by simp)
    ·rw [if_neg c3] at H
     exact absurd H (by simp)
   ·rw [if_neg c2] at H
    have c2b0 : decide (x8_1 < (l0.length : Int)) = false := decide_eq_false c2
    clear c2
    obtain rfl := Option.some.inj H
    go_wp2
    go_ret
    exact ⟨by first | rfl | (simp [errW_none, errW_some] <;> rfl) | (simp [*, errW_none, errW_some] <;> rfl), by repeat (first | exact HB.out | apply below_alloc | apply pw_below_drewN | apply below_drew1)⟩

end Go.Proofs.Ytalpegglbfobiaa.G

namespace Go.Proofs.Ytalpegglbfobiaa.G
open Go.RowKit Go.Proofs.YtalpegglbfobiaaW.PrintWords Go.Proofs.YtalpegglbfobiaaW.PrintLast Go.Proofs.YtalpegglbfobiaaW.PrintMore
set_option linter.unusedVariables false
set_option linter.unusedSimpArgs false
theorem rdR (l : List S44) (i : Nat) (h : i < l.length) : rd_T44 l i = l[i] := by simp [rd_T44, List.getD_eq_getElem?_getD, List.getElem?_eq_getElem h]
theorem dropR (l : List S44) (i : Nat) (h : i < l.length) : l.drop i = rd_T44 l i :: l.drop (i + 1) := by rw [rdR l i h]; exact List.drop_eq_getElem_cons h
def badR (r : S44) : Prop := r.f1 < 1 ∨ r.f1 > 17179869184 ∨ r.f0 < 0 ∨ r.f0 ≥ 17179869184 ∨ (r.f2 = true ∧ r.f0 - r.f1 + 1 < 0) ∨ (r.f2 = false ∧ r.f0 + r.f1 > 17179869184)
instance (r : S44) : Decidable (badR r) := by unfold badR; infer_instance
def anyBad (l : List S44) : Bool := l.any fun r => decide (badR r)
def check13 (l : List S44) : Int := if l.length > 256 then 8 else if anyBad l = true then 1 else if tot13 l > 17179869184 then 21 else 0
def fitR (r : S44) : Prop := 0 ≤ r.f0 ∧ r.f0 ≤ 17179869184 ∧ 1 ≤ r.f1 ∧ r.f1 ≤ 17179869184
theorem fit_of {r : S44} (h : ¬ badR r) : fitR r := by unfold badR at h; unfold fitR; omega
theorem check13_zero {l : List S44} (h : check13 l = 0) : l.length ≤ 256 ∧ (∀ r ∈ l, ¬ badR r) ∧ tot13 l ≤ 17179869184 := by
 unfold check13 at h
 split at h
 ·cases h
 ·split at h
  ·cases h
  ·split at h
   ·cases h
   ·rename_i h1 h2 h3; exact ⟨by omega, fun s hs k => h2 (List.any_eq_true.mpr ⟨s, hs, by simpa using k⟩), by omega⟩
theorem anyBad_cons (r : S44) (l : List S44) : anyBad (r :: l) = (decide (badR r) || anyBad l) := by simp [anyBad]
theorem icheck_j1 (l : List S44) (n i b q : Int) (r : S44) (z : Bool) (hz : z = decide (r.f1 < 1 ∨ r.f1 > 17179869184 ∨ r.f0 < 0 ∨ r.f0 ≥ 17179869184)) (h : ¬ badR r → Ends (fun k => iso_Check.l0 k (wrap64 (n + r.f1)) l i (wrap64 (b + 1))) q) (h1 : badR r → q = 1) :
  Ends (fun k => iso_Check.j1 k n l i b z r.f0 r.f1 r.f2) q := by
 refine Ends.succ ?_
 simp only [iso_Check.j1]
 by_cases hb : r.f1 < 1 ∨ r.f1 > 17179869184 ∨ r.f0 < 0 ∨ r.f0 ≥ 17179869184
 ·have e : z = true := by rw [hz]; simpa using hb
  rw [h1 (by unfold badR; omega)]
  exact Ends.pos e (Ends.ret _)
 ·have e : ¬ z = true := by rw [hz]; simpa using hb
  refine Ends.neg e ?_
  cases hf : r.f2 with
  | true =>
   have ew : wrap64 (wrap64 (r.f0 - r.f1) + 1) = r.f0 - r.f1 + 1 := by
    have : wrap64 (r.f0 - r.f1) = r.f0 - r.f1 := by unfold wrap64; omega
    rw [this]; unfold wrap64; omega
   refine Ends.pos rfl ?_
   rw [ew]
   by_cases hc : r.f0 - r.f1 + 1 < 0
   ·rw [h1 (by unfold badR; simp [hf]; omega)]
    exact Ends.pos hc (Ends.ret _)
   ·exact Ends.neg hc (h (by unfold badR; simp [hf]; omega))
  | false =>
   have ew : wrap64 (r.f0 + r.f1) = r.f0 + r.f1 := by unfold wrap64; omega
   refine Ends.neg (by simp) ?_
   rw [ew]
   by_cases hc : r.f0 + r.f1 > 17179869184
   ·rw [h1 (by unfold badR; simp [hf]; omega)]
    exact Ends.pos hc (Ends.ret _)
   ·exact Ends.neg hc (h (by unfold badR; simp [hf]; omega))
theorem icheck_l0 (l : List S44) (hl : l.length ≤ 256) : ∀ (d i : Nat) (n : Int), l.length - i = d → i ≤ l.length → 0 ≤ n → n ≤ i * 17179869184 → Ends (fun k => iso_Check.l0 k n l (l.length : Int) (i : Int)) (if anyBad (l.drop i) = true then 1 else if n + tot13 (l.drop i) > 17179869184 then 21 else 0) := by
 intro d
 induction d with
 | zero =>
  intro i n hd hi h0 h1
  refine Ends.succ ?_
  simp only [iso_Check.l0]
  rw [List.drop_of_length_le (by omega)]
  refine Ends.neg (by omega) ?_
  by_cases hn : n > 17179869184
  ·exact Ends.pos hn ((Ends.ret 21).congr (by rw [if_neg (by simp [anyBad]), if_pos (by simpa [tot13] using hn)]))
  ·exact Ends.neg hn ((Ends.ret 0).congr (by rw [if_neg (by simp [anyBad]), if_neg (by simpa [tot13] using hn)]))
 | succ d ih =>
  intro i n hd hi h0 h1
  refine Ends.succ ?_
  rw [dropR l i (by omega)]
  simp only [iso_Check.l0]
  generalize rd_T44 l (i : Int) = r
  have key : ∀ z : Bool, z = decide (r.f1 < 1 ∨ r.f1 > 17179869184 ∨ r.f0 < 0 ∨ r.f0 ≥ 17179869184) → Ends (fun k => iso_Check.j1 k n l (l.length : Int) (i : Int) z r.f0 r.f1 r.f2) (if anyBad (r :: l.drop (i + 1)) = true then 1 else if n + tot13 (r :: l.drop (i + 1)) > 17179869184 then 21 else 0) := fun z hz => by
   refine icheck_j1 l n _ _ _ r z hz (fun hg => ?_) (fun hb => ?_)
   ·have hf := fit_of hg
    unfold fitR at hf
    have ew : wrap64 (n + r.f1) = n + r.f1 := by unfold wrap64; omega
    rw [ew, wrap_nat i (by omega)]
    refine (ih (i + 1) (n + r.f1) (by omega) (by omega) (by omega) (by omega)).congr ?_
    rw [tot13_cons, ← Int.add_assoc]
    rw [anyBad_cons, show decide (badR r) = false by simpa using hg, Bool.false_or]
   ·rw [if_pos (by rw [anyBad_cons, show decide (badR r) = true by simpa using hb]; rfl)]
  refine Ends.pos (by omega) (Ends.pos (by omega) (Ends.pos (by omega) ?_))
  by_cases c1 : r.f1 < 1
  ·exact Ends.pos c1 (key true (by simp [c1]))
  ·refine Ends.neg c1 ?_
   by_cases c2 : r.f1 > 17179869184
   ·exact Ends.pos c2 (key true (by simp [c2]))
   ·refine Ends.neg c2 ?_
    by_cases c3 : r.f0 < 0
    ·exact Ends.pos c3 (key true (by simp [c3]))
    ·exact Ends.neg c3 (key _ (by simp [c1, c2, c3]))
theorem icheck_ends (l : List S44) : Ends (fun k => iso_Check.f k l) (check13 l) := by
 unfold iso_Check.f check13
 by_cases h : l.length > 256
 ·rw [if_pos h]; exact Ends.pos (by omega) (Ends.ret _)
 ·rw [if_neg h]
  refine Ends.neg (by omega) ((icheck_l0 l (by omega) _ 0 0 rfl (by omega) (by omega) (by omega)).congr ?_)
  simp
theorem ilength_l0 (l : List S44) (hl : l.length ≤ 65536) (hv : ∀ r ∈ l, 0 ≤ r.f1 ∧ r.f1 ≤ 17179869184) : ∀ (d i : Nat) (n : Int), l.length - i = d → i ≤ l.length → 0 ≤ n → n ≤ i * 17179869184 → Ends (fun k => iso_length.l0 k n l (l.length : Int) (i : Int)) (n + tot13 (l.drop i)) := by
 intro d
 induction d with
 | zero =>
  intro i n hd hi h0 h1
  refine Ends.succ ?_
  simp only [iso_length.l0]
  rw [List.drop_of_length_le (by omega)]
  exact Ends.neg (by omega) ((Ends.ret _).congr (by simp [tot13]))
 | succ d ih =>
  intro i n hd hi h0 h1
  refine Ends.succ ?_
  have hx := hv (rd_T44 l (i : Int)) (by rw [rdR l i (by omega)]; exact List.getElem_mem _)
  rw [dropR l i (by omega), tot13_cons]
  simp only [iso_length.l0, wrap_nat i (by omega)]
  generalize rd_T44 l (i : Int) = r at *
  have ew : wrap64 (n + r.f1) = n + r.f1 := by unfold wrap64; omega
  rw [ew]
  exact Ends.pos (by omega) (Ends.pos (by omega) (Ends.pos (by omega) ((ih (i + 1) (n + r.f1) (by omega) (by omega) (by omega) (by omega)).congr (by rw [Int.add_assoc]))))
theorem ilength_ends (l : List S44) (hl : l.length ≤ 65536) (hv : ∀ r ∈ l, 0 ≤ r.f1 ∧ r.f1 ≤ 17179869184) : Ends (fun k => iso_length.f k l) (tot13 l) := by
 unfold iso_length.f
 exact (ilength_l0 l hl hv _ 0 0 rfl (by omega) (by omega) (by omega)).congr (by simp)
end Go.Proofs.Ytalpegglbfobiaa.G

namespace Go.Proofs.Ytalpegglbfobiaa.G
open Go.RowKit Go.Proofs.YtalpegglbfobiaaW.PrintWords Go.Proofs.YtalpegglbfobiaaW.PrintLast Go.Proofs.YtalpegglbfobiaaW.PrintMore
attribute [local go_sem] max2_int min2_int max_two min_two max_three min_three max_four min_four   -- for this text's walks alone
set_option linter.unusedVariables false
set_option linter.unusedSimpArgs false
def okPce (r : S44) : Prop := 0 ≤ r.f0 ∧ r.f0 ≤ 17179869184 ∧ r.f1 ≤ 17179869184
def inB (B : Int) (t : S44) : Prop := -1 ≤ t.f0 ∧ t.f0 ≤ 17179869185 ∧ 1 ≤ t.f1 ∧ t.f1 ≤ B
theorem addR_in (r : S44) (h : okPce r) (h1 : 1 ≤ r.f1) (B : Int) (hB : 0 ≤ B) : ∀ l : List S44, (∀ t ∈ l, inB B t) → ∀ t ∈ addR r l, inB (B + 17179869184) t := by
 obtain ⟨a, b, c⟩ := h
 intro l hl
 have grow : ∀ t ∈ l, inB (B + 17179869184) t := fun t ht => by have := hl t ht; unfold inB at *; omega
 have h0 : inB (B + 17179869184) (partR r 0 r.f1) := by unfold inB partR img; dsimp only; split <;> omega
 match l with
 | [] => intro t ht; simp only [addR, List.mem_singleton] at ht; rw [ht]; exact h0
 | t :: d =>
  intro u hu
  have ht := hl t (by simp)
  unfold inB at ht
  simp only [addR] at hu
  split at hu
  ·split at hu
   ·simp only [List.mem_cons] at hu
    rcases hu with rfl | rfl | hu
    ·rename_i hc; have := hc.1; unfold inB partR img; dsimp only; split <;> omega
    ·unfold inB; dsimp only; omega
    ·exact grow u (by simp [hu])
   ·simp only [List.mem_cons] at hu
    rcases hu with rfl | hu
    ·unfold inB; dsimp only; omega
    ·exact grow u (by simp [hu])
  ·simp only [List.mem_cons] at hu
   rcases hu with rfl | hu
   ·exact h0
   ·exact grow u (by simpa using hu)
theorem addOf_in (l : List S44) (r : S44) (h : okPce r) (B : Int) (hB : 0 ≤ B) (hl : ∀ t ∈ l, inB B t) : ∀ t ∈ addOf l r, inB (B + 17179869184) t := by
 unfold addOf
 split
 ·intro t ht; have := hl t ht; unfold inB at *; omega
 ·intro t ht
  exact addR_in r h (by omega) B hB l.reverse (fun t ht => hl t (by simpa using ht)) t (by simpa using ht)
theorem fold_in (ps : List S44) : ∀ (l : List S44) (B : Int), 0 ≤ B → (∀ t ∈ l, inB B t) → (∀ r ∈ ps, okPce r) → ∀ t ∈ ps.foldl addOf l, inB (B + ps.length * 17179869184) t := by
 induction ps with
 | nil => intro l B hB hl _ t ht; simpa using hl t ht
 | cons r ps ih =>
  intro l B hB hl hp t ht
  have := ih (addOf l r) (B + 17179869184) (by omega) (addOf_in l r (hp r (by simp)) B hB hl) (fun x hx => hp x (by simp [hx])) t ht
  unfold inB at *
  simp only [List.length_cons]
  omega
def BInv (g : Nat) (ps : List S44) (W : World) : Prop := (∀ r ∈ ps, okPce r) ∧ ∃ v, Bld g v (ps.foldl addOf []) W
def BDirty (g : Nat) (W : World) (k : Nat) : Prop := k = g ∨ ∃ v, W.cell? ⟨g, 0, none⟩ = some v ∧ v.ownBlock = some k
theorem Bld.cell {g : Nat} {v : Value} {l : List S44} {W : World} (h : Bld g v l W) : W.cell? ⟨g, 0, none⟩ = some v := blk_cell h.c 0
theorem BInv.dirty {g : Nat} : ∀ ps W k, BInv g ps W → BDirty g W k → k < W.heap.size := by
 rintro ps W k ⟨_, v, hB⟩ (rfl | ⟨u, hu, hk⟩)
 ·exact hB.lt
 ·rw [hB.cell] at hu
  cases hu
  exact (hB.base hk).2
theorem BInv.mono {g : Nat} : ∀ ps W W', BInv g ps W → Below W.heap.size W W' → BInv g ps W' ∧ ∀ k, BDirty g W' k → BDirty g W k := by
 rintro ps W W' ⟨h1, v, hB⟩ hb
 refine ⟨⟨h1, v, hB.below hb⟩, ?_⟩
 rintro k (rfl | ⟨u, hu, hk⟩)
 ·exact .inl rfl
 ·rw [(hB.below hb).cell] at hu
  cases hu
  exact .inr ⟨v, hB.cell, hk⟩
theorem BInv.step {g : Nat} : ∀ ps r W, ps.length < 65536 → BInv g ps W → okPce r → Calls Try.prog 56 #[.pointer (some ⟨g, 0, none⟩), .agg #[.int .i64 r.f0, .int .i64 r.f1, .bool r.f2]] W fun e W' => e = .returned (.tuple #[]) ∧ BInv g (ps ++ [r]) W' ∧ Below g W W' ∧ ∀ X o, W.heap[X]? = some o → ¬ BDirty g W X → W'.heap[X]? = some o := by
 rintro ps r W hn ⟨h1, v, hB⟩ hr
 have hin := fold_in ps [] 0 (by omega) (by simp) h1
 have hlen := addAll_len ps []
 simp only [List.length_nil] at hlen
 refine (add_main g v _ r W hB ⟨by have := hr.1; omega, by have := hr.2.1; omega, by have := hr.2.2; omega⟩ (by omega) (fun t ht => by have := hin t ht; unfold inB at this; omega)).mono ?_
 rintro e W' ⟨rfl, ⟨v', hB', hO⟩, hb, hk⟩
 refine ⟨rfl, ⟨fun x hx => ?_, v', by rw [List.foldl_append]; exact hB'⟩, hb, fun X o hX hd => hk X o hX (fun e => hd (.inl e)) (fun e => hd (.inr ⟨v, hB.cell, e⟩))⟩
 rcases List.mem_append.mp hx with hx | hx
 ·exact h1 x hx
 ·rw [List.mem_singleton.mp hx]; exact hr
def BRun (g : Nat) (w1 : World) (ps : List S44) (W : World) : Prop := BInv g ps W ∧ Below g w1 W
theorem BInv.glt {g : Nat} {ps : List S44} {W : World} (h : BInv g ps W) : g < W.heap.size := by obtain ⟨_, v, hB⟩ := h; exact hB.lt
theorem BRun.dirty {g : Nat} {w1 : World} : ∀ ps W k, BRun g w1 ps W → BDirty g W k → k < W.heap.size := fun ps W k h => BInv.dirty ps W k h.1
theorem BRun.mono {g : Nat} {w1 : World} : ∀ ps W W', BRun g w1 ps W → Below W.heap.size W W' → BRun g w1 ps W' ∧ ∀ k, BDirty g W' k → BDirty g W k := fun ps W W' h hb =>
 have h2 := BInv.mono ps W W' h.1 hb
 ⟨⟨h2.1, h.2.trans (hb.mono (Nat.le_of_lt h.1.glt))⟩, h2.2⟩
theorem BRun.step {g : Nat} {w1 : World} : ∀ ps r W, ps.length < 65536 → BRun g w1 ps W → okPce r → Calls Try.prog 56 #[.pointer (some ⟨g, 0, none⟩), .agg #[.int .i64 r.f0, .int .i64 r.f1, .bool r.f2]] W fun e W' => e = .returned (.tuple #[]) ∧ BRun g w1 (ps ++ [r]) W' ∧ Below g W W' ∧ ∀ X o, W.heap[X]? = some o → ¬ BDirty g W X → W'.heap[X]? = some o := by
 intro ps r W hn h hr
 refine (BInv.step ps r W hn h.1 hr).mono ?_
 rintro e W' ⟨rfl, h1, h2, h3⟩
 exact ⟨rfl, ⟨h1, h.2.trans h2⟩, h2, h3⟩
theorem BInv.new (w : World) : BInv w.heap.size [] (w.alloc (.cells #[.slice none 0 0] 73)) := ⟨by simp, .slice none 0 0, World.alloc_heap_new w _, Kd.R_nil _ _ _ _ _⟩
theorem okPce_part {r : S44} (h : ¬ badR r) (a n : Int) (h0 : 0 ≤ a) (h1 : 1 ≤ n) (h2 : a + n ≤ r.f1) : okPce (partR r a n) := by
 unfold badR at h
 unfold okPce partR img
 cases hf : r.f2 <;> simp [hf] at h ⊢ <;> omega
theorem okPce_rev {r : S44} (h : ¬ badR r) : okPce (revR r) := by
 unfold badR at h
 unfold okPce revR img
 cases hf : r.f2 <;> simp [hf] at h ⊢ <;> omega
set_option maxRecDepth 100000 in
set_option maxHeartbeats 4000000 in
theorem done_calls (g : Nat) (v : Value) (l : List S44) (w : World) (hB : Bld g v l w) (hl : l.length ≤ 1000000) :
  Calls Try.prog 57 #[.pointer (some ⟨g, 0, none⟩)] w fun e w' => e = .returned (if l.length > 256 then .tuple #[.slice none 0 0, .int .i64 8] else .tuple #[v, .int .i64 0]) ∧ w' = w := by
 obtain ⟨A, c, rfl, _, _⟩ := Kd.R_reads hB.o
 have hq := hB.cell
 by_cases h : l.length > 256
 ·have hd : decide ((256 : Int) < (l.length : Int)) = true := decide_eq_true (by omega)
  rw [if_pos h]
  clear hB h
  go_enter Try.func57, Try.ntmps57
  go_wp2
  refine bodyPost_ret (results_tmp2 rfl _ _ _) rfl ?_
  exact ⟨rfl, rfl⟩
 ·have hd : decide ((256 : Int) < (l.length : Int)) = false := decide_eq_false (by omega)
  rw [if_neg h]
  clear hB h
  go_enter Try.func57, Try.ntmps57
  go_wp2
  refine bodyPost_ret (results_tmp2 rfl _ _ _) rfl ?_
  exact ⟨rfl, rfl⟩
end Go.Proofs.Ytalpegglbfobiaa.G

namespace Go.Proofs.Ytalpegglbfobiaa.G
open Go.RowKit Go.Proofs.YtalpegglbfobiaaW.PrintWords Go.Proofs.YtalpegglbfobiaaW.PrintLast Go.Proofs.YtalpegglbfobiaaW.PrintMore
attribute [local go_sem] max2_int min2_int max_two min_two max_three min_three max_four min_four   -- for this text's walks alone
set_option linter.unusedVariables false
set_option linter.unusedSimpArgs false
theorem part_fold (l : List S44) (h : check13 l = 0) (f t : Int) : ([] ++ pieces l 0 f t).foldl addOf [] = nrm (((sem l).take t.toNat).drop f.toNat) := by
 have hg := (check13_zero h).2.1
 rw [List.nil_append, addAll _ (pieces_pos l 0 f t), sem_pieces l 0 f t (fun r hr => (fit_of (hg r hr)).2.2.1), Int.sub_zero, Int.sub_zero]
theorem part_len (l : List S44) (f t : Int) : (([] ++ pieces l 0 f t).foldl addOf []).length ≤ l.length := by
 have := addAll_len ([] ++ pieces l 0 f t) []
 have := pieces_len l 0 f t
 simp only [List.nil_append, List.length_nil] at *
 omega
theorem rev_fold (l : List S44) (h : check13 l = 0) : ([] ++ revL l).foldl addOf [] = nrm (sem l).reverse := by
 have hg := (check13_zero h).2.1
 rw [List.nil_append, addAll _ (revL_pos l (fun r hr => (fit_of (hg r hr)).2.2.1)), sem_rev l (fun r hr => (fit_of (hg r hr)).2.2.1)]
theorem sem_tot {l : List S44} (h : check13 l = 0) : ((sem l).length : Int) = tot13 l := sem_len l (fun r hr => by have := (fit_of ((check13_zero h).2.1 r hr)).2.2.1; omega)
theorem tot_nonneg {l : List S44} (h : check13 l = 0) : 0 ≤ tot13 l := by rw [← sem_tot h]; omega
theorem done_few (g : Nat) (ps : List S44) (w : World) (hI : BInv g ps w) (hl : (ps.foldl addOf []).length ≤ 256) :
  Calls Try.prog 57 #[.pointer (some ⟨g, 0, none⟩)] w fun e w' => ∃ v, e = .returned (.tuple #[v, .int .i64 0]) ∧ Kd.R k44 44 w' g (fun _ => True) v (ps.foldl addOf []) ∧ w' = w := by
 obtain ⟨_, v, hB⟩ := hI
 refine (done_calls g v _ w hB (by omega)).mono ?_
 rintro e w' ⟨rfl, rfl⟩
 rw [if_neg (by omega)]
 exact ⟨v, rfl, Kd.R_mono hB.o (fun _ _ => trivial), rfl⟩
def normOf (l : List S44) : List S44 × Int := if check13 l = 0 then (nrm (sem l), 0) else ([], check13 l)
def iso_Norm.f (l0 : List S44) : Option (List S44 × Int) := some (normOf l0)
set_option maxRecDepth 100000 in
set_option maxHeartbeats 8000000 in
theorem norm_main (A0 : Option Addr) (c0 : Nat) (l : List S44) (w : World) (hr : Kd.C k44 w A0 l.length l) (hc : l.length ≤ c0) :
  Calls Try.prog 54 #[.slice A0 l.length c0] w fun e w' => ∃ v, e = .returned (.tuple #[v, .int .i64 (normOf l).2]) ∧ Kd.R k44 44 w' w.heap.size (fun _ => True) v (normOf l).1 ∧ Below w.heap.size w w' := by
 have HR := Aside0.mk hr
 have HC := Aside0.mk hc
 clear hr hc
 obtain ⟨k1, hk1⟩ := (icheck_ends l).get
 unfold normOf
 by_cases h0 : check13 l = 0
 ·obtain ⟨hl, hg, ht⟩ := check13_zero h0
  have hfit : ∀ r ∈ l, fitR r := fun r hr => fit_of (hg r hr)
  obtain ⟨k2, hk2⟩ := (ilength_ends l (by omega) (fun r hr => by have := hfit r hr; unfold fitR at this; omega)).get
  have HK2 := Aside0.mk hk2
  rw [h0] at hk1
  have HK1 := Aside0.mk hk1
  have HLL := Aside0.mk hl
  have HFI := Aside0.mk (show ∀ r ∈ l, 0 ≤ r.f0 ∧ r.f0 ≤ 17179869184 ∧ 1 ≤ r.f1 ∧ r.f1 ≤ 17179869184 from hfit)
  have HG := Aside0.mk hg
  have hT := Aside0.mk (show 0 ≤ tot13 l ∧ tot13 l ≤ 1099511627776 by have := tot_nonneg h0; omega)
  have HE := Aside0.mk (show ([] ++ pieces l 0 0 (tot13 l)).foldl addOf [] = nrm (sem l) by rw [part_fold l h0, ← sem_tot h0]; simp)
  have HEL := Aside0.mk (show (([] ++ pieces l 0 0 (tot13 l)).foldl addOf []).length ≤ 256 by have := part_len l 0 (tot13 l); omega)
  rw [if_pos h0]
  clear hk1 hk2 h0 hl hg ht hfit
  generalize tot13 l = T at *
  go_enter Try.func54, Try.ntmps54
  go_wp2_with (first | (go_at_call 39; (with_reducible refine (iso_Check.calls k1 A0 c0 l 0 _ HR.out HC.out HK1.out).mono ?_); rintro e w1 ⟨rfl, hb⟩; have HB1 := Aside0.mk hb; have HR1 := Aside0.mk (Kd.C_below HR.out hb); clear hb) | (go_at_call 64; (with_reducible refine (iso_length.calls k2 A0 c0 l T _ (Kd.C_alloc HR1.out _) HC.out HK2.out).mono ?_); rintro e w3 ⟨rfl, hb⟩; have HB3 := Aside0.mk (((Below.refl w1.heap.size w1).alloc (Nat.le_refl _) (.cells #[.slice none 0 0] 73)).trans (hb.mono (by simp))); have HI3 := Aside0.mk (BInv.mono _ _ _ (BInv.new w1) hb).1; clear hb) | (go_at_call 65; (with_reducible refine (each_add w1.heap.size 65536 (BInv w1.heap.size) okPce (BDirty w1.heap.size) BInv.dirty BInv.mono BInv.step A0 c0 l 0 T [] w1 w3 HR1.out HC.out (Nat.le_refl _) HB3.out HI3.out (by have := HLL.out; simp; omega) (by have := HLL.out; omega) HFI.out (by omega) hT.out (fun r hr a n h1 h2 h3 => okPce_part (HG.out r hr) a n h1 h2 h3)).mono ?_); rintro e w4 ⟨rfl, hi, hb⟩; have HI4 := Aside0.mk hi; have HB4 := Aside0.mk hb; clear hi hb) | (go_at_call 57; (with_reducible refine (done_few w1.heap.size _ w4 HI4.out HEL.out).mono ?_); rintro e w5 ⟨v, rfl, ho, rfl⟩; have HO := Aside0.mk ho; clear ho))
  refine bodyPost_ret (results_tmp2 rfl _ _ _) rfl ?_
  exact ⟨v, rfl, by rw [← HE.out]; exact Kd.R_lower HO.out HB1.out.size, HB1.out.trans (HB4.out.mono HB1.out.size)⟩
 ·have HK1 := Aside0.mk hk1
  have hne : (check13 l == 0) = false := by simpa using h0
  have hne1 : (check13 l != 0) = true := by simpa using h0
  rw [if_neg h0]
  clear hk1 h0
  generalize check13 l = q at *
  go_enter Try.func54, Try.ntmps54
  go_wp2_with (go_at_call 39; (with_reducible refine (iso_Check.calls k1 A0 c0 l q _ HR.out HC.out HK1.out).mono ?_); rintro e w1 ⟨rfl, hb⟩; have HB1 := Aside0.mk hb; clear hb)
  refine bodyPost_ret (results_tmp2 rfl _ _ _) rfl ?_
  exact ⟨_, rfl, Kd.R_nil _ _ _ _ _, HB1.out⟩
theorem iso_Norm.calls (A0 : Option Addr) (c0 : Nat) (l0 : List (S44)) (r1 : List (S44)) (r2 : Int) (w : World) (hr0 : Kd.C k44 w A0 l0.length l0) (hc0 : l0.length ≤ c0) (h : iso_Norm.f l0 = some (r1, r2)) :
  Calls Try.prog 54 #[.slice A0 l0.length c0] w fun e w' => ∃ v0_ : Value, e = .returned (.tuple #[v0_, .int .i64 r2]) ∧ Kd.R k44 44 w' w.heap.size (fun _ => True) v0_ r1 ∧ Below w.heap.size w w' := by
 have e : normOf l0 = (r1, r2) := Option.some.inj h
 have := norm_main A0 c0 l0 w hr0 hc0
 rw [e] at this
 exact this
end Go.Proofs.Ytalpegglbfobiaa.G

namespace Go.Proofs.Ytalpegglbfobiaa.G
open Go.RowKit Go.Proofs.YtalpegglbfobiaaW.PrintWords Go.Proofs.YtalpegglbfobiaaW.PrintLast Go.Proofs.YtalpegglbfobiaaW.PrintMore
attribute [local go_sem] max2_int min2_int max_two min_two max_three min_three max_four min_four   -- for this text's walks alone
set_option linter.unusedVariables false
set_option linter.unusedSimpArgs false
def revOf (l : List S44) : List S44 × Int := if check13 l = 0 then (nrm (sem l).reverse, 0) else ([], check13 l)
def iso_Reverse.f (l0 : List S44) : Option (List S44 × Int) := some (revOf l0)
set_option maxRecDepth 100000 in
set_option maxHeartbeats 8000000 in
theorem rev_main (A0 : Option Addr) (c0 : Nat) (l : List S44) (w : World) (hr : Kd.C k44 w A0 l.length l) (hc : l.length ≤ c0) :
  Calls Try.prog 35 #[.slice A0 l.length c0] w fun e w' => ∃ v, e = .returned (.tuple #[v, .int .i64 (revOf l).2]) ∧ Kd.R k44 44 w' w.heap.size (fun _ => True) v (revOf l).1 ∧ Below w.heap.size w w' := by
 have HR := Aside0.mk hr
 have HC := Aside0.mk hc
 clear hr hc
 obtain ⟨k1, hk1⟩ := (icheck_ends l).get
 unfold revOf
 by_cases h0 : check13 l = 0
 ·obtain ⟨hl, hg, ht⟩ := check13_zero h0
  have hfit : ∀ r ∈ l, fitR r := fun r hr => fit_of (hg r hr)
  rw [h0] at hk1
  have HK1 := Aside0.mk hk1
  have HLL := Aside0.mk hl
  have HFI := Aside0.mk (show ∀ r ∈ l, 0 ≤ r.f0 ∧ r.f0 ≤ 17179869184 ∧ 1 ≤ r.f1 ∧ r.f1 ≤ 17179869184 from hfit)
  have HG := Aside0.mk hg
  have HE := Aside0.mk (show ([] ++ revL l).foldl addOf [] = nrm (sem l).reverse from rev_fold l h0)
  have HEL := Aside0.mk (show (([] ++ revL l).foldl addOf []).length ≤ 256 by have := addAll_len ([] ++ revL l) []; have := revL_len l; simp only [List.nil_append, List.length_nil] at *; omega)
  rw [if_pos h0]
  clear hk1 h0 hl hg ht hfit
  go_enter Try.func35, Try.ntmps35
  go_wp2_with (first | (go_at_call 39; (with_reducible refine (iso_Check.calls k1 A0 c0 l 0 _ HR.out HC.out HK1.out).mono ?_); rintro e w1 ⟨rfl, hb⟩; have HB1 := Aside0.mk hb; have HR1 := Aside0.mk (Kd.C_below HR.out hb); clear hb) | (go_at_call 55; (refine (reversed_add w1.heap.size 65536 w1.heap.size (BRun w1.heap.size w1) okPce (BDirty w1.heap.size) BRun.dirty BRun.mono BRun.step A0 c0 l [] _ (fun ps W h => Kd.C_below HR1.out h.2) HC.out (by simp) ⟨BInv.new w1, (Below.refl _ _).alloc (Nat.le_refl _) _⟩ (by have := HLL.out; simp; omega) (by have := HLL.out; omega) HFI.out (fun r hr => okPce_rev (HG.out r hr))).mono ?_); rintro e w4 ⟨rfl, hi, _⟩; have HI4 := Aside0.mk hi.1; have HB4 := Aside0.mk hi.2; clear hi) | (go_at_call 57; (with_reducible refine (done_few w1.heap.size _ w4 HI4.out HEL.out).mono ?_); rintro e w5 ⟨v, rfl, ho, rfl⟩; have HO := Aside0.mk ho; clear ho))
  refine bodyPost_ret (results_tmp2 rfl _ _ _) rfl ?_
  exact ⟨v, rfl, by rw [← HE.out]; exact Kd.R_lower HO.out HB1.out.size, HB1.out.trans (HB4.out.mono HB1.out.size)⟩
 ·have HK1 := Aside0.mk hk1
  have hne : (check13 l == 0) = false := by simpa using h0
  have hne1 : (check13 l != 0) = true := by simpa using h0
  rw [if_neg h0]
  clear hk1 h0
  generalize check13 l = q at *
  go_enter Try.func35, Try.ntmps35
  go_wp2_with (go_at_call 39; (with_reducible refine (iso_Check.calls k1 A0 c0 l q _ HR.out HC.out HK1.out).mono ?_); rintro e w1 ⟨rfl, hb⟩; have HB1 := Aside0.mk hb; clear hb)
  refine bodyPost_ret (results_tmp2 rfl _ _ _) rfl ?_
  exact ⟨_, rfl, Kd.R_nil _ _ _ _ _, HB1.out⟩
theorem iso_Reverse.calls (A0 : Option Addr) (c0 : Nat) (l0 : List (S44)) (r1 : List (S44)) (r2 : Int) (w : World) (hr0 : Kd.C k44 w A0 l0.length l0) (hc0 : l0.length ≤ c0) (h : iso_Reverse.f l0 = some (r1, r2)) :
  Calls Try.prog 35 #[.slice A0 l0.length c0] w fun e w' => ∃ v0_ : Value, e = .returned (.tuple #[v0_, .int .i64 r2]) ∧ Kd.R k44 44 w' w.heap.size (fun _ => True) v0_ r1 ∧ Below w.heap.size w w' := by
 have e : revOf l0 = (r1, r2) := Option.some.inj h
 have := rev_main A0 c0 l0 w hr0 hc0
 rw [e] at this
 exact this
end Go.Proofs.Ytalpegglbfobiaa.G

namespace Go.Proofs.Ytalpegglbfobiaa.G
open Go.RowKit Go.Proofs.YtalpegglbfobiaaW.PrintWords Go.Proofs.YtalpegglbfobiaaW.PrintLast Go.Proofs.YtalpegglbfobiaaW.PrintMore
attribute [local go_sem] max2_int min2_int max_two min_two max_three min_three max_four min_four   -- for this text's walks alone
set_option linter.unusedVariables false
set_option linter.unusedSimpArgs false
set_option maxRecDepth 100000 in
set_option maxHeartbeats 8000000 in
theorem each_app (g N : Nat) (Inv : List S44 → World → Prop) (ok : S44 → Prop)
  (Dirty : World → Nat → Prop) (hd : ∀ ps W k, Inv ps W → Dirty W k → k < W.heap.size)
  (hmono : ∀ ps W W', Inv ps W → Below W.heap.size W W' → Inv ps W' ∧ ∀ k, Dirty W' k → Dirty W k)
  (hstep : ∀ ps r W, ps.length < N → Inv ps W → ok r → Calls Try.prog 73 #[.agg #[.int .i64 r.f0, .int .i64 r.f1, .bool r.f2], .pointer (some ⟨g, 0, none⟩)] W fun e W' => e = .returned (.tuple #[]) ∧ Inv (ps ++ [r]) W' ∧ Below g W W' ∧ ∀ X o, W.heap[X]? = some o → ¬ Dirty W X → W'.heap[X]? = some o)
  (A0 : Option Addr) (c0 : Nat) (m : List S44) (f t : Int) (ps0 : List S44) (w0 w : World) (hr : Kd.C k44 w0 A0 m.length m) (hc : m.length ≤ c0) (hg : w0.heap.size ≤ g) (hb : Below w0.heap.size w0 w) (hi : Inv ps0 w)
  (hN : ps0.length + m.length ≤ N) (hl : m.length ≤ 65536) (hm : ∀ r ∈ m, 0 ≤ r.f0 ∧ r.f0 ≤ 17179869184 ∧ 1 ≤ r.f1 ∧ r.f1 ≤ 17179869184) (hf : 0 ≤ f ∧ f ≤ 1099511627776) (ht : 0 ≤ t ∧ t ≤ 1099511627776)
  (hok : ∀ r ∈ m, ∀ a n, 0 ≤ a → 1 ≤ n → a + n ≤ r.f1 → ok (partR r a n)) :
  Calls Try.prog 65 #[.slice A0 m.length c0, .int .i64 f, .int .i64 t, .func (.func 73) #[] #[.pointer (some ⟨g, 0, none⟩)]] w fun e w' => e = .returned (.tuple #[]) ∧ Inv (ps0 ++ pieces m 0 f t) w' ∧ Below w0.heap.size w0 w' := by
 have HR := Aside0.mk hr
 have HC := Aside0.mk hc
 have HG := Aside0.mk hg
 have HM := Aside0.mk hm
 have HOK := Aside0.mk hok
 have HS := Aside0.mk hstep
 have HMo := Aside0.mk hmono
 have HD := Aside0.mk hd
 have HI := Aside0.mk hi
 have HB0 := Aside0.mk hb
 have HF := Aside0.mk hf
 have HT := Aside0.mk ht
 clear hr hc hg hm hok hstep hmono hi hb hf ht hd
 go_enter Try.func65, Try.ntmps65
 go_wp2
 go_loopw [8, 15] (fun a i wr => ∃ kk : Nat, i = .int .i64 kk ∧ a = .int .i64 (tot13 (m.take kk)) ∧ Aside0 (kk ≤ m.length) ∧ Aside0 (Inv (ps0 ++ pieces (m.take kk) 0 f t) wr) ∧ Aside0 (Below w0.heap.size w0 wr))
  (fun _ i _ => m.length - (intOf i).toNat)
 case atStart => exact ⟨0, rfl, by simp [tot13], ⟨Nat.zero_le _⟩, ⟨by simpa [pieces] using HI.out⟩, HB0⟩
 case round =>
  obtain ⟨kk, rfl, rfl, HK, HI1, HB⟩ := hrel
  by_cases hk : kk < m.length
  ·have hk1 : (kk : Int) < (m.length : Int) := by omega
   have hd0 : decide (kk < m.length) = true := by simpa using hk
   obtain ⟨ad, rfl, hz0, hz1, hz2⟩ := at_T44 (Kd.C_below HR.out HB.out) (kk : Int) (by omega) hk1
   simp only [Int.toNat_natCast] at hz0 hz1 hz2
   have hpl := Aside0.mk (show (ps0 ++ pieces (m.take kk) 0 f t).length < N by have := pieces_len (m.take kk) 0 f t; rw [List.length_take] at this; rw [List.length_append]; omega)
   have hrm := Aside0.mk (show rd_T44 m kk ∈ m by simp [rd_T44, List.getD_eq_getElem?_getD, List.getElem?_eq_getElem hk])
   have hsn := Aside0.mk (show m.take (kk + 1) = m.take kk ++ [rd_T44 m kk] by rw [List.take_succ_eq_append_getElem hk]; simp [rd_T44, List.getD_eq_getElem?_getD, List.getElem?_eq_getElem hk])
   have hv := HM.out _ hrm.out
   have htb := tot13_bound (m.take kk) (fun r hr => by have := HM.out r (List.mem_of_mem_take hr); omega)
   have htl : (m.take kk).length ≤ 65536 := by rw [List.length_take]; omega
   have hpn := Aside0.mk (show pieces (m.take (kk + 1)) 0 f t = pieces (m.take kk) 0 f t ++ (if max f (tot13 (m.take kk)) < min t (tot13 (m.take kk) + (rd_T44 m kk).f1) then [partR (rd_T44 m kk) (max f (tot13 (m.take kk)) - tot13 (m.take kk)) (min t (tot13 (m.take kk) + (rd_T44 m kk).f1) - max f (tot13 (m.take kk)))] else []) by rw [hsn.out, pieces_append]; simp [pieces])
   have htn := Aside0.mk (show tot13 (m.take (kk + 1)) = tot13 (m.take kk) + (rd_T44 m kk).f1 by rw [hsn.out, tot13_append]; simp [tot13])
   have hokr := Aside0.mk (HOK.out _ hrm.out)
   generalize tot13 (m.take kk) = a at *
   generalize rd_T44 m kk = x at *
   have hw1 : wrap64 (a + x.f1) = a + x.f1 := by unfold wrap64; omega
   go_wp2
   go_quiet (fail)
   rename_i nq
   have e1 : (if f < a then a else f) = max f a := by split <;> omega
   have e2 : (if a + x.f1 < t then a + x.f1 else t) = min t (a + x.f1) := by split <;> omega
   rw [e1, e2]
   clear e1 e2
   have hp : 0 ≤ max f a ∧ max f a ≤ 1125904201809920 := by have := HF.out; omega
   have hq : min t (a + x.f1) ≤ 1099511627776 := by have := HT.out; omega
   have hp2 : a ≤ max f a := by omega
   have hq2 : min t (a + x.f1) ≤ a + x.f1 := by omega
   have HB1 := Aside0.mk (pw_below_drewN (HB.out.alloc HB.out.size (.cells #[.int .i64 x.f0, .int .i64 x.f1, .bool x.f2] 44)) nq)
   have HBw := Aside0.mk (pw_below_drewN ((Below.refl wr.heap.size wr).alloc (Nat.le_refl _) (.cells #[.int .i64 x.f0, .int .i64 x.f1, .bool x.f2] 44)) nq)
   have HX := Aside0.mk (blk_drewN (World.alloc_heap_new wr (.cells #[.int .i64 x.f0, .int .i64 x.f1, .bool x.f2] 44)) nq)
   have HI2 := Aside0.mk (HMo.out _ _ _ HI1.out HBw.out).1
   have HN := Aside0.mk (show ¬ Dirty ((wr.alloc (.cells #[.int .i64 x.f0, .int .i64 x.f1, .bool x.f2] 44)).drewN nq) wr.heap.size from fun h => Nat.lt_irrefl _ (HD.out _ _ _ HI1.out ((HMo.out _ _ _ HI1.out HBw.out).2 _ h)))
   generalize max f a = p at *
   generalize min t (a + x.f1) = q at *
   generalize (wr.alloc (.cells #[.int .i64 x.f0, .int .i64 x.f1, .bool x.f2] 44)).drewN nq = w1 at *
   have hz0' := blk_cell HX.out 0
   have hz1' := blk_cell HX.out 1
   have hz2' := blk_cell HX.out 2
   by_cases hpq : p < q
   ·have hpqb : decide (p < q) = true := by simpa using hpq
    have e3 : wrap64 (p - a) = p - a := by unfold wrap64; omega
    have e4 : wrap64 (q - p) = q - p := by unfold wrap64; omega
    have hnx : nearR x := ⟨by omega, by omega, by omega⟩
    go_wp2_with (first | (go_at_call 70; (with_reducible refine (part_calls x (p - a) (q - p) _ hnx (by omega) (by omega)).mono ?_); rintro e w2 ⟨rfl, hb2⟩; have HB2 := Aside0.mk (below_then HB1.out HB1.out.size hb2); have HI3 := Aside0.mk (HMo.out _ _ _ HI2.out hb2).1; have HN3 := Aside0.mk (show ¬ Dirty w2 wr.heap.size from fun h => HN.out ((HMo.out _ _ _ HI2.out hb2).2 _ h)); have HX2 := Aside0.mk (blk_below HX.out hb2); clear hb2) | (go_at_call 73; (with_reducible refine (HS.out _ (partR x (p - a) (q - p)) _ hpl.out HI3.out (hokr.out _ _ (by omega) (by omega) (by omega))).mono ?_); rintro e w3 ⟨rfl, hi4, hb3, hfr⟩; have HI4 := Aside0.mk hi4; have HX3 := Aside0.mk (hfr _ _ HX2.out HN3.out); have HB3 := Aside0.mk (HB2.out.trans (hb3.mono HG.out)); clear hi4 hb3 hfr; have hy1 := blk_cell HX3.out 1))
    go_roundw
    case rel => exact ⟨kk + 1, by go_num, by rw [htn.out], ⟨by omega⟩, ⟨by rw [hpn.out, if_pos hpq, ← List.append_assoc]; exact HI4.out⟩, HB3⟩
    case measure => simp [intOf]; omega
   ·have hpqb : decide (p < q) = false := by simpa using hpq
    go_wp2
    go_roundw
    case rel => exact ⟨kk + 1, by go_num, by rw [htn.out], ⟨by omega⟩, ⟨by rw [hpn.out, if_neg hpq, List.append_nil]; exact HI2.out⟩, HB1⟩
    case measure => simp [intOf]; omega
  ·have hd0 : decide (kk < m.length) = false := by simpa using hk
   have hfin := Aside0.mk (show m.take kk = m from List.take_of_length_le (by omega))
   go_wp2
   (try simp only [Exit.inBlock, Exit.then]); refine bodyPost_end (results_none rfl _ _ _) rfl ?_
   exact ⟨rfl, by have := HI1.out; rwa [hfin.out] at this, HB.out⟩
set_option maxRecDepth 100000 in
set_option maxHeartbeats 8000000 in
theorem each_at (g N : Nat) (Inv : List S44 → World → Prop) (ok : S44 → Prop)
  (Dirty : World → Nat → Prop) (hd : ∀ ps W k, Inv ps W → Dirty W k → k < W.heap.size)
  (hmono : ∀ ps W W', Inv ps W → Below W.heap.size W W' → Inv ps W' ∧ ∀ k, Dirty W' k → Dirty W k)
  (hstep : ∀ ps r W, ps.length < N → Inv ps W → ok r → Calls Try.prog 66 #[.agg #[.int .i64 r.f0, .int .i64 r.f1, .bool r.f2], .pointer (some ⟨g, 0, none⟩)] W fun e W' => e = .returned (.tuple #[]) ∧ Inv (ps ++ [r]) W' ∧ Below g W W' ∧ ∀ X o, W.heap[X]? = some o → ¬ Dirty W X → W'.heap[X]? = some o)
  (A0 : Option Addr) (c0 : Nat) (m : List S44) (f t : Int) (ps0 : List S44) (w0 w : World) (hr : Kd.C k44 w0 A0 m.length m) (hc : m.length ≤ c0) (hg : w0.heap.size ≤ g) (hb : Below w0.heap.size w0 w) (hi : Inv ps0 w)
  (hN : ps0.length + m.length ≤ N) (hl : m.length ≤ 65536) (hm : ∀ r ∈ m, 0 ≤ r.f0 ∧ r.f0 ≤ 17179869184 ∧ 1 ≤ r.f1 ∧ r.f1 ≤ 17179869184) (hf : 0 ≤ f ∧ f ≤ 1099511627776) (ht : 0 ≤ t ∧ t ≤ 1099511627776)
  (hok : ∀ r ∈ m, ∀ a n, 0 ≤ a → 1 ≤ n → a + n ≤ r.f1 → ok (partR r a n)) :
  Calls Try.prog 65 #[.slice A0 m.length c0, .int .i64 f, .int .i64 t, .func (.func 66) #[] #[.pointer (some ⟨g, 0, none⟩)]] w fun e w' => e = .returned (.tuple #[]) ∧ Inv (ps0 ++ pieces m 0 f t) w' ∧ Below w0.heap.size w0 w' := by
 have HR := Aside0.mk hr
 have HC := Aside0.mk hc
 have HG := Aside0.mk hg
 have HM := Aside0.mk hm
 have HOK := Aside0.mk hok
 have HS := Aside0.mk hstep
 have HMo := Aside0.mk hmono
 have HD := Aside0.mk hd
 have HI := Aside0.mk hi
 have HB0 := Aside0.mk hb
 have HF := Aside0.mk hf
 have HT := Aside0.mk ht
 clear hr hc hg hm hok hstep hmono hi hb hf ht hd
 go_enter Try.func65, Try.ntmps65
 go_wp2
 go_loopw [8, 15] (fun a i wr => ∃ kk : Nat, i = .int .i64 kk ∧ a = .int .i64 (tot13 (m.take kk)) ∧ Aside0 (kk ≤ m.length) ∧ Aside0 (Inv (ps0 ++ pieces (m.take kk) 0 f t) wr) ∧ Aside0 (Below w0.heap.size w0 wr))
  (fun _ i _ => m.length - (intOf i).toNat)
 case atStart => exact ⟨0, rfl, by simp [tot13], ⟨Nat.zero_le _⟩, ⟨by simpa [pieces] using HI.out⟩, HB0⟩
 case round =>
  obtain ⟨kk, rfl, rfl, HK, HI1, HB⟩ := hrel
  by_cases hk : kk < m.length
  ·have hk1 : (kk : Int) < (m.length : Int) := by omega
   have hd0 : decide (kk < m.length) = true := by simpa using hk
   obtain ⟨ad, rfl, hz0, hz1, hz2⟩ := at_T44 (Kd.C_below HR.out HB.out) (kk : Int) (by omega) hk1
   simp only [Int.toNat_natCast] at hz0 hz1 hz2
   have hpl := Aside0.mk (show (ps0 ++ pieces (m.take kk) 0 f t).length < N by have := pieces_len (m.take kk) 0 f t; rw [List.length_take] at this; rw [List.length_append]; omega)
   have hrm := Aside0.mk (show rd_T44 m kk ∈ m by simp [rd_T44, List.getD_eq_getElem?_getD, List.getElem?_eq_getElem hk])
   have hsn := Aside0.mk (show m.take (kk + 1) = m.take kk ++ [rd_T44 m kk] by rw [List.take_succ_eq_append_getElem hk]; simp [rd_T44, List.getD_eq_getElem?_getD, List.getElem?_eq_getElem hk])
   have hv := HM.out _ hrm.out
   have htb := tot13_bound (m.take kk) (fun r hr => by have := HM.out r (List.mem_of_mem_take hr); omega)
   have htl : (m.take kk).length ≤ 65536 := by rw [List.length_take]; omega
   have hpn := Aside0.mk (show pieces (m.take (kk + 1)) 0 f t = pieces (m.take kk) 0 f t ++ (if max f (tot13 (m.take kk)) < min t (tot13 (m.take kk) + (rd_T44 m kk).f1) then [partR (rd_T44 m kk) (max f (tot13 (m.take kk)) - tot13 (m.take kk)) (min t (tot13 (m.take kk) + (rd_T44 m kk).f1) - max f (tot13 (m.take kk)))] else []) by rw [hsn.out, pieces_append]; simp [pieces])
   have htn := Aside0.mk (show tot13 (m.take (kk + 1)) = tot13 (m.take kk) + (rd_T44 m kk).f1 by rw [hsn.out, tot13_append]; simp [tot13])
   have hokr := Aside0.mk (HOK.out _ hrm.out)
   generalize tot13 (m.take kk) = a at *
   generalize rd_T44 m kk = x at *
   have hw1 : wrap64 (a + x.f1) = a + x.f1 := by unfold wrap64; omega
   go_wp2
   go_quiet (fail)
   rename_i nq
   have e1 : (if f < a then a else f) = max f a := by split <;> omega
   have e2 : (if a + x.f1 < t then a + x.f1 else t) = min t (a + x.f1) := by split <;> omega
   rw [e1, e2]
   clear e1 e2
   have hp : 0 ≤ max f a ∧ max f a ≤ 1125904201809920 := by have := HF.out; omega
   have hq : min t (a + x.f1) ≤ 1099511627776 := by have := HT.out; omega
   have hp2 : a ≤ max f a := by omega
   have hq2 : min t (a + x.f1) ≤ a + x.f1 := by omega
   have HB1 := Aside0.mk (pw_below_drewN (HB.out.alloc HB.out.size (.cells #[.int .i64 x.f0, .int .i64 x.f1, .bool x.f2] 44)) nq)
   have HBw := Aside0.mk (pw_below_drewN ((Below.refl wr.heap.size wr).alloc (Nat.le_refl _) (.cells #[.int .i64 x.f0, .int .i64 x.f1, .bool x.f2] 44)) nq)
   have HX := Aside0.mk (blk_drewN (World.alloc_heap_new wr (.cells #[.int .i64 x.f0, .int .i64 x.f1, .bool x.f2] 44)) nq)
   have HI2 := Aside0.mk (HMo.out _ _ _ HI1.out HBw.out).1
   have HN := Aside0.mk (show ¬ Dirty ((wr.alloc (.cells #[.int .i64 x.f0, .int .i64 x.f1, .bool x.f2] 44)).drewN nq) wr.heap.size from fun h => Nat.lt_irrefl _ (HD.out _ _ _ HI1.out ((HMo.out _ _ _ HI1.out HBw.out).2 _ h)))
   generalize max f a = p at *
   generalize min t (a + x.f1) = q at *
   generalize (wr.alloc (.cells #[.int .i64 x.f0, .int .i64 x.f1, .bool x.f2] 44)).drewN nq = w1 at *
   have hz0' := blk_cell HX.out 0
   have hz1' := blk_cell HX.out 1
   have hz2' := blk_cell HX.out 2
   by_cases hpq : p < q
   ·have hpqb : decide (p < q) = true := by simpa using hpq
    have e3 : wrap64 (p - a) = p - a := by unfold wrap64; omega
    have e4 : wrap64 (q - p) = q - p := by unfold wrap64; omega
    have hnx : nearR x := ⟨by omega, by omega, by omega⟩
    go_wp2_with (first | (go_at_call 70; (with_reducible refine (part_calls x (p - a) (q - p) _ hnx (by omega) (by omega)).mono ?_); rintro e w2 ⟨rfl, hb2⟩; have HB2 := Aside0.mk (below_then HB1.out HB1.out.size hb2); have HI3 := Aside0.mk (HMo.out _ _ _ HI2.out hb2).1; have HN3 := Aside0.mk (show ¬ Dirty w2 wr.heap.size from fun h => HN.out ((HMo.out _ _ _ HI2.out hb2).2 _ h)); have HX2 := Aside0.mk (blk_below HX.out hb2); clear hb2) | (go_at_call 66; (with_reducible refine (HS.out _ (partR x (p - a) (q - p)) _ hpl.out HI3.out (hokr.out _ _ (by omega) (by omega) (by omega))).mono ?_); rintro e w3 ⟨rfl, hi4, hb3, hfr⟩; have HI4 := Aside0.mk hi4; have HX3 := Aside0.mk (hfr _ _ HX2.out HN3.out); have HB3 := Aside0.mk (HB2.out.trans (hb3.mono HG.out)); clear hi4 hb3 hfr; have hy1 := blk_cell HX3.out 1))
    go_roundw
    case rel => exact ⟨kk + 1, by go_num, by rw [htn.out], ⟨by omega⟩, ⟨by rw [hpn.out, if_pos hpq, ← List.append_assoc]; exact HI4.out⟩, HB3⟩
    case measure => simp [intOf]; omega
   ·have hpqb : decide (p < q) = false := by simpa using hpq
    go_wp2
    go_roundw
    case rel => exact ⟨kk + 1, by go_num, by rw [htn.out], ⟨by omega⟩, ⟨by rw [hpn.out, if_neg hpq, List.append_nil]; exact HI2.out⟩, HB1⟩
    case measure => simp [intOf]; omega
  ·have hd0 : decide (kk < m.length) = false := by simpa using hk
   have hfin := Aside0.mk (show m.take kk = m from List.take_of_length_le (by omega))
   go_wp2
   (try simp only [Exit.inBlock, Exit.then]); refine bodyPost_end (results_none rfl _ _ _) rfl ?_
   exact ⟨rfl, by have := HI1.out; rwa [hfin.out] at this, HB.out⟩
end Go.Proofs.Ytalpegglbfobiaa.G

namespace Go.Proofs.Ytalpegglbfobiaa.G
open Go.RowKit Go.Proofs.YtalpegglbfobiaaW.PrintWords Go.Proofs.YtalpegglbfobiaaW.PrintLast Go.Proofs.YtalpegglbfobiaaW.PrintMore
attribute [local go_sem] max2_int min2_int max_two min_two max_three min_three max_four min_four   -- for this text's walks alone
set_option linter.unusedVariables false
set_option linter.unusedSimpArgs false
def lastF (ps : List S44) : Int := ps.foldl (fun _ r => r.f0) 0
def YInv (g : Nat) (ps : List S44) (W : World) : Prop := W.heap[g]? = some (.cells #[.int .i64 (lastF ps)] 3 (0, 0))
def YDirty (g : Nat) (W : World) (k : Nat) : Prop := k = g ∧ k < W.heap.size
theorem YInv.dirty {g : Nat} : ∀ ps W k, YInv g ps W → YDirty g W k → k < W.heap.size := fun _ _ _ _ h => h.2
theorem YInv.mono {g : Nat} : ∀ ps W W', YInv g ps W → Below W.heap.size W W' → YInv g ps W' ∧ ∀ k, YDirty g W' k → YDirty g W k :=
 fun ps W W' h hb => ⟨blk_below h hb, fun k hk => ⟨hk.1, by rw [hk.1]; exact blk_lt h⟩⟩
set_option maxRecDepth 100000 in
set_option maxHeartbeats 4000000 in
theorem YInv.step {g : Nat} : ∀ ps r W, ps.length < 65536 → YInv g ps W → True → Calls Try.prog 66 #[.agg #[.int .i64 r.f0, .int .i64 r.f1, .bool r.f2], .pointer (some ⟨g, 0, none⟩)] W fun e W' => e = .returned (.tuple #[]) ∧ YInv g (ps ++ [r]) W' ∧ Below g W W' ∧ ∀ X o, W.heap[X]? = some o → ¬ YDirty g W X → W'.heap[X]? = some o := by
 intro ps r W _ hI _
 have HI := Aside0.mk hI
 have hq : (W.alloc (.cells #[.int .i64 r.f0, .int .i64 r.f1, .bool r.f2] 44)).heap[g]? = some (.cells #[.int .i64 (lastF ps)] 3 (0, 0)) := blk_alloc hI _
 have hc := blk_cell hq 0
 have hf : (W.alloc (.cells #[.int .i64 r.f0, .int .i64 r.f1, .bool r.f2] 44)).frozen? ⟨g, 0, none⟩ = false := by simp [World.frozen?, hq]
 have HQ := Aside0.mk hq
 clear hI hq
 go_enter Try.func66, Try.ntmps66
 go_wp2
 (try simp only [Exit.inBlock, Exit.then]); refine bodyPost_end (results_none rfl _ _ _) rfl ?_
 refine ⟨rfl, ?_, ((Below.refl g W).alloc (Nat.le_of_lt (blk_lt HI.out)) _).setCell (p := ⟨g, 0, none⟩) (Nat.le_refl _) _, fun X o hX hd => ?_⟩
 ·unfold YInv
  rw [show lastF (ps ++ [r]) = r.f0 by simp [lastF]]
  exact blk_set HQ.out 0 _
 ·have hne : X ≠ g := fun e => hd ⟨e, blk_lt hX⟩
  exact (Below.heap_setCell _ ⟨g, 0, none⟩ _ X hne).trans (blk_alloc hX _)
theorem last_one (l : List S44) (h : check13 l = 0) (x : Int) (h0 : 0 ≤ x) (h1 : x < tot13 l) : lastF ([] ++ pieces l 0 x (x + 1)) = (sem l).getD x.toNat 0 := by
 have hg := (check13_zero h).2.1
 have hs := sem_pieces l 0 x (x + 1) (fun r hr => (fit_of (hg r hr)).2.2.1)
 have ht := sem_tot h
 have hp := pieces_pos l 0 x (x + 1)
 rw [List.nil_append]
 have hlt : x.toNat < (sem l).length := by omega
 have hs2 : sem (pieces l 0 x (x + 1)) = [(sem l).getD x.toNat 0] := by
  rw [hs, show (x + 1 - 0).toNat = x.toNat + 1 by omega, show (x - 0).toNat = x.toNat by omega, List.take_succ_eq_append_getElem hlt, List.drop_append, List.drop_of_length_le (by rw [List.length_take]; omega), List.length_take]
  simp [Nat.min_eq_left (Nat.le_of_lt hlt), List.getElem?_eq_getElem hlt]
 generalize pieces l 0 x (x + 1) = ps at *
 match ps, hs2 with
 | [], e => simp [sem] at e
 | r :: q, e =>
  have h1 := hp r (by simp)
  rw [sem_cons] at e
  have hl := congrArg List.length e
  rw [List.length_append, imgs_len] at hl
  simp only [List.length_cons, List.length_nil] at hl
  have hq0 : q = [] := by
   match q with
   | [] => rfl
   | r2 :: q2 => have := hp r2 (by simp); rw [sem_cons, List.length_append, imgs_len] at hl; omega
  subst hq0
  obtain ⟨a, n, b⟩ := r
  dsimp only at hl h1
  obtain rfl : n = 1 := by omega
  rw [imgs_one] at e
  simp only [sem_nil, List.append_nil, List.cons.injEq, and_true] at e
  exact e
def atOf13 (l : List S44) (x : Int) : Int × Int := if check13 l = 0 then (if x < 0 ∨ x ≥ tot13 l then (0, 1) else ((sem l).getD x.toNat 0, 0)) else (0, check13 l)
def iso_At.f (l0 : List S44) (a1 : Int) : Option (Int × Int) := some (atOf13 l0 a1)
set_option maxRecDepth 100000 in
set_option maxHeartbeats 16553600 in
theorem at_main (A0 : Option Addr) (c0 : Nat) (l : List S44) (x : Int) (w : World) (hr : Kd.C k44 w A0 l.length l) (hc : l.length ≤ c0) :
  Calls Try.prog 44 #[.slice A0 l.length c0, .int .i64 x] w fun e w' => e = .returned (.tuple #[.int .i64 (atOf13 l x).1, .int .i64 (atOf13 l x).2]) ∧ Below w.heap.size w w' := by
 have HR := Aside0.mk hr
 have HC := Aside0.mk hc
 clear hr hc
 obtain ⟨k1, hk1⟩ := (icheck_ends l).get
 unfold atOf13
 by_cases h0 : check13 l = 0
 ·obtain ⟨hl, hg, ht⟩ := check13_zero h0
  have hfit : ∀ r ∈ l, fitR r := fun r hr => fit_of (hg r hr)
  obtain ⟨k2, hk2⟩ := (ilength_ends l (by omega) (fun r hr => by have := hfit r hr; unfold fitR at this; omega)).get
  have HK2 := Aside0.mk hk2
  rw [h0] at hk1
  have HK1 := Aside0.mk hk1
  have HLL := Aside0.mk hl
  have HFI := Aside0.mk (show ∀ r ∈ l, 0 ≤ r.f0 ∧ r.f0 ≤ 17179869184 ∧ 1 ≤ r.f1 ∧ r.f1 ≤ 17179869184 from hfit)
  have hT := Aside0.mk (show 0 ≤ tot13 l ∧ tot13 l ≤ 17179869184 by have := tot_nonneg h0; omega)
  have HLA := Aside0.mk (last_one l h0 x)
  rw [if_pos h0]
  clear hk1 hk2 h0 hl hg ht hfit
  generalize tot13 l = T at *
  by_cases hx0 : x < 0
  ·have hxb : decide (x < 0) = true := by simpa using hx0
   rw [if_pos (.inl hx0)]
   clear hx0
   go_enter Try.func44, Try.ntmps44
   go_wp2_with (go_at_call 39; (with_reducible refine (iso_Check.calls k1 A0 c0 l 0 _ HR.out HC.out HK1.out).mono ?_); rintro e w1 ⟨rfl, hb⟩; have HB1 := Aside0.mk hb; clear hb)
   refine bodyPost_ret (results_tmp2 rfl _ _ _) rfl ?_
   exact ⟨rfl, HB1.out⟩
  ·have hxb : decide (x < 0) = false := by simpa using hx0
   by_cases hxT : T ≤ x
   ·have hTb : decide (T ≤ x) = true := by simpa using hxT
    rw [if_pos (.inr hxT)]
    clear hx0
    go_enter Try.func44, Try.ntmps44
    go_wp2_with (first | (go_at_call 39; (with_reducible refine (iso_Check.calls k1 A0 c0 l 0 _ HR.out HC.out HK1.out).mono ?_); rintro e w1 ⟨rfl, hb⟩; have HB1 := Aside0.mk hb; have HR1 := Aside0.mk (Kd.C_below HR.out hb); clear hb) | (go_at_call 64; (with_reducible refine (iso_length.calls k2 A0 c0 l T _ HR1.out HC.out HK2.out).mono ?_); rintro e w3 ⟨rfl, hb⟩; have HB3 := Aside0.mk (below_then HB1.out HB1.out.size hb); clear hb))
    refine bodyPost_ret (results_tmp2 rfl _ _ _) rfl ?_
    exact ⟨rfl, HB3.out⟩
   ·have hTb : decide (T ≤ x) = false := by simpa using hxT
    have hTb2 : decide (x < T) = true := by simp; omega
    have hxw : wrap64 (x + 1) = x + 1 := by unfold wrap64; have := hT.out; omega
    have hx2 : (0 ≤ x ∧ x ≤ 1099511627776) ∧ 0 ≤ x + 1 ∧ x + 1 ≤ 1099511627776 := by have := hT.out; omega
    have HE := Aside0.mk (HLA.out (by omega) (by omega))
    rw [if_neg (by omega)]
    clear hx0
    go_enter Try.func44, Try.ntmps44
    go_wp2_with (first | (go_at_call 39; (with_reducible refine (iso_Check.calls k1 A0 c0 l 0 _ HR.out HC.out HK1.out).mono ?_); rintro e w1 ⟨rfl, hb⟩; have HB1 := Aside0.mk hb; have HR1 := Aside0.mk (Kd.C_below HR.out hb); clear hb) | (go_at_call 64; (with_reducible refine (iso_length.calls k2 A0 c0 l T _ HR1.out HC.out HK2.out).mono ?_); rintro e w3 ⟨rfl, hb⟩; have HB3 := Aside0.mk (below_then HB1.out HB1.out.size hb); have HR3 := Aside0.mk (Kd.C_below HR1.out hb); clear hb) | (go_at_call 65; (refine (each_at w3.heap.size 65536 (YInv w3.heap.size) (fun _ => True) (YDirty w3.heap.size) YInv.dirty YInv.mono YInv.step A0 c0 l x (x + 1) [] w3 _ HR3.out HC.out (Nat.le_refl _) ((Below.refl _ _).alloc (Nat.le_refl _) _) (World.alloc_heap_new w3 _) (by have := HLL.out; simp; omega) (by have := HLL.out; omega) HFI.out hx2.1 hx2.2 (fun r hr a n h1 h2 h3 => trivial)).mono ?_); rintro e w4 ⟨rfl, hi, hb⟩; have HI4 := Aside0.mk hi; have HB4 := Aside0.mk hb; clear hi hb; have hyc := blk_cell HI4.out 0))
    refine bodyPost_ret (results_tmp2 rfl _ _ _) rfl ?_
    exact ⟨by rw [← HE.out]; rfl, HB3.out.trans (HB4.out.mono HB3.out.size)⟩
 ·have HK1 := Aside0.mk hk1
  have hne : (check13 l == 0) = false := by simpa using h0
  have hne1 : (check13 l != 0) = true := by simpa using h0
  rw [if_neg h0]
  clear hk1 h0
  generalize check13 l = q at *
  go_enter Try.func44, Try.ntmps44
  go_wp2_with (go_at_call 39; (with_reducible refine (iso_Check.calls k1 A0 c0 l q _ HR.out HC.out HK1.out).mono ?_); rintro e w1 ⟨rfl, hb⟩; have HB1 := Aside0.mk hb; clear hb)
  refine bodyPost_ret (results_tmp2 rfl _ _ _) rfl ?_
  exact ⟨rfl, HB1.out⟩
theorem iso_At.calls (A0 : Option Addr) (c0 : Nat) (l0 : List (S44)) (a1 : Int) (r1 : Int) (r2 : Int) (w : World) (hr0 : Kd.C k44 w A0 l0.length l0) (hc0 : l0.length ≤ c0) (h : iso_At.f l0 a1 = some (r1, r2)) :
  Calls Try.prog 44 #[.slice A0 l0.length c0, .int .i64 a1] w fun e w' => e = .returned (.tuple #[.int .i64 r1, .int .i64 r2]) ∧ Below w.heap.size w w' := by
 have e : atOf13 l0 a1 = (r1, r2) := Option.some.inj h
 have := at_main A0 c0 l0 a1 w hr0 hc0
 rw [e] at this
 exact this
end Go.Proofs.Ytalpegglbfobiaa.G

namespace Go.Proofs.Ytalpegglbfobiaa.G
open Go.RowKit Go.Proofs.YtalpegglbfobiaaW.PrintWords Go.Proofs.YtalpegglbfobiaaW.PrintLast Go.Proofs.YtalpegglbfobiaaW.PrintMore
set_option linter.unusedVariables false
set_option linter.unusedSimpArgs false
def fitX (xs : List Int) : Prop := ∀ x ∈ xs, 0 ≤ x ∧ x < 17179869184
theorem img_in {r : S44} (h : ¬ badR r) (i : Int) (h0 : 0 ≤ i) (h1 : i < r.f1) : 0 ≤ img r i ∧ img r i < 17179869184 := by
 unfold badR at h
 unfold img
 cases hb : r.f2 <;> simp [hb] at h ⊢ <;> omega
theorem sem_fit {l : List S44} (h : ∀ r ∈ l, ¬ badR r) : fitX (sem l) := by
 intro x hx
 obtain ⟨r, hr, hx⟩ := List.mem_flatMap.mp hx
 simp only [imgs, List.mem_map, List.mem_range] at hx
 obtain ⟨i, hi, rfl⟩ := hx
 exact img_in (h r hr) i (by omega) (by omega)
theorem mem_sem {l : List S44} {t : S44} (h : t ∈ l) (i : Nat) (hi : (i : Int) < t.f1) : img t i ∈ sem l := by
 refine List.mem_flatMap.mpr ⟨t, h, ?_⟩
 exact List.mem_iff_getElem?.mpr ⟨i, imgs_get t i hi⟩
theorem len_sem_mem {l : List S44} {t : S44} (h : t ∈ l) : t.f1.toNat ≤ (sem l).length := by
 induction l with
 | nil => simp at h
 | cons r l ih =>
  rw [sem_cons, List.length_append, imgs_len]
  rcases List.mem_cons.mp h with rfl | h
  ·omega
  ·have := ih h; omega
theorem check_nrm (xs : List Int) (h : fitX xs) (hl : xs.length ≤ 17179869184) (hn : (nrm xs).length ≤ 256) : check13 (nrm xs) = 0 := by
 have hok := nrm_ok xs
 have hg : ∀ t ∈ nrm xs, ¬ badR t := by
  intro t ht
  have h1 := (hok t ht).1
  have m0 := mem_sem ht 0 (by omega)
  have m1 := mem_sem ht (t.f1 - 1).toNat (by omega)
  have hlen := len_sem_mem ht
  rw [sem_nrm] at m0 m1 hlen
  have b0 := h _ m0
  have b1 := h _ m1
  rw [show (((t.f1 - 1).toNat : Nat) : Int) = t.f1 - 1 by omega] at b1
  unfold img at b0 b1
  unfold badR
  cases hb : t.f2 <;> simp [hb] at b0 b1 ⊢ <;> omega
 have ht := sem_len (nrm xs) (fun r hr => by have := (hok r hr).1; omega)
 rw [sem_nrm] at ht
 unfold check13
 rw [if_neg (by omega), if_neg, if_neg (by omega)]
 intro hb
 obtain ⟨t, ht2, hb⟩ := List.any_eq_true.mp hb
 exact hg t ht2 (by simpa using hb)
theorem tot_nrm (xs : List Int) : tot13 (nrm xs) = xs.length := by
 rw [← sem_len (nrm xs) (fun r hr => by have := (nrm_ok xs r hr).1; omega), sem_nrm]
theorem sem_small {l : List S44} (h : check13 l = 0) : (sem l).length ≤ 17179869184 := by
 have h1 := sem_tot h
 have h2 := (check13_zero h).2.2
 omega
theorem nrm_few {l : List S44} (h : check13 l = 0) : (nrm (sem l)).length ≤ l.length :=
 nrm_len l (fun r hr => (fit_of ((check13_zero h).2.1 r hr)).2.2.1)
theorem nrm_fair {l : List S44} (h : check13 l = 0) : check13 (nrm (sem l)) = 0 :=
 check_nrm _ (sem_fit (check13_zero h).2.1) (sem_small h) (by have := nrm_few h; have := (check13_zero h).1; omega)
theorem rev_few {l : List S44} (h : check13 l = 0) : (nrm (sem l).reverse).length ≤ l.length := by
 have hp : ∀ r ∈ l, 1 ≤ r.f1 := fun r hr => (fit_of ((check13_zero h).2.1 r hr)).2.2.1
 have := nrm_len (revL l) (revL_pos l hp)
 rw [sem_rev l hp, revL_len] at this
 exact this
theorem rev_fair {l : List S44} (h : check13 l = 0) : check13 (nrm (sem l).reverse) = 0 :=
 check_nrm _ (fun x hx => sem_fit (check13_zero h).2.1 x (List.mem_reverse.mp hx)) (by rw [List.length_reverse]; exact sem_small h) (by have := rev_few h; have := (check13_zero h).1; omega)
theorem normOf_nrm {l : List S44} (h : check13 l = 0) : normOf (nrm (sem l)) = (nrm (sem l), 0) := by unfold normOf; rw [if_pos (nrm_fair h), sem_nrm]
theorem at_nrm {l : List S44} (h : check13 l = 0) (x : Int) : atOf13 (nrm (sem l)) x = atOf13 l x := by
 unfold atOf13
 rw [if_pos (nrm_fair h), if_pos h, tot_nrm, ← sem_tot h, sem_nrm]
end Go.Proofs.Ytalpegglbfobiaa.G

namespace Go.Proofs.Ytalpegglbfobiaa.G
open Go.RowKit Go.Proofs.YtalpegglbfobiaaW.PrintWords Go.Proofs.YtalpegglbfobiaaW.PrintLast Go.Proofs.YtalpegglbfobiaaW.PrintMore
attribute [local go_sem] max2_int min2_int max_two min_two max_three min_three max_four min_four   -- for this text's walks alone
set_option linter.unusedVariables false
set_option linter.unusedSimpArgs false
structure PBld (g : Nat) (v : Value) (l : List S44) (W : World) : Prop where
 c : W.heap[g]? = some (.cells #[v] 22 (0, 0))
 o : Kd.R k44 44 W g (fun k => k ≠ g) v l
def PInv (g : Nat) (ps : List S44) (W : World) : Prop := ∃ v, PBld g v ps W
theorem PBld.cell {g : Nat} {v : Value} {l : List S44} {W : World} (h : PBld g v l W) : W.cell? ⟨g, 0, none⟩ = some v := blk_cell h.c 0
theorem PInv.dirty {g : Nat} : ∀ ps W k, PInv g ps W → BDirty g W k → k < W.heap.size := by
 rintro ps W k ⟨v, hB⟩ (rfl | ⟨u, hu, hk⟩)
 ·exact blk_lt hB.c
 ·rw [hB.cell] at hu
  cases hu
  exact Kd.R_lt hB.o k hk
theorem PInv.mono {g : Nat} : ∀ ps W W', PInv g ps W → Below W.heap.size W W' → PInv g ps W' ∧ ∀ k, BDirty g W' k → BDirty g W k := by
 rintro ps W W' ⟨v, hB⟩ hb
 have hB' : PBld g v ps W' := ⟨blk_below hB.c hb, Kd.R_below hB.o hb⟩
 refine ⟨⟨v, hB'⟩, ?_⟩
 rintro k (rfl | ⟨u, hu, hk⟩)
 ·exact .inl rfl
 ·rw [hB'.cell] at hu
  cases hu
  exact .inr ⟨v, hB.cell, hk⟩
theorem PInv.new (w : World) : PInv w.heap.size [] (w.alloc (.cells #[.slice none 0 0] 22)) := ⟨.slice none 0 0, World.alloc_heap_new w _, Kd.R_nil _ _ _ _ _⟩
set_option maxRecDepth 100000 in
set_option maxHeartbeats 8000000 in
theorem PInv.step {g : Nat} : ∀ ps r W, ps.length < 65536 → PInv g ps W → True → Calls Try.prog 73 #[.agg #[.int .i64 r.f0, .int .i64 r.f1, .bool r.f2], .pointer (some ⟨g, 0, none⟩)] W fun e W' => e = .returned (.tuple #[]) ∧ PInv g (ps ++ [r]) W' ∧ Below g W W' ∧ ∀ X o, W.heap[X]? = some o → ¬ BDirty g W X → W'.heap[X]? = some o := by
 rintro l r W hn ⟨v, hB⟩ _
 obtain ⟨A, c, e, _, _⟩ := Kd.R_reads hB.o
 subst e
 have HDR := Aside0.mk (show ∀ X, ¬ BDirty g W X → X ≠ g ∧ some X ≠ (Value.slice A l.length c).ownBlock from fun X h => ⟨fun e => h (.inl e), fun e => h (.inr ⟨_, hB.cell, e.symm⟩)⟩)
 have hBW := (Below.refl W.heap.size W).alloc (Nat.le_refl _) (.cells #[.int .i64 r.f0, .int .i64 r.f1, .bool r.f2] 44)
 have HC := Aside0.mk (blk_below hB.c hBW)
 have HO := Aside0.mk (Kd.R_below hB.o hBW)
 have HB := Aside0.mk (hBW.mono (Nat.le_of_lt (blk_lt hB.c)))
 have HBW := Aside0.mk hBW
 have HZ := Aside0.mk (Nat.le_trans (Nat.le_of_lt (blk_lt hB.c)) hBW.size)
 have HL := Aside0.mk hn
 have hq := blk_cell HC.out 0
 have hr0 := blk_cell (World.alloc_heap_new W (.cells #[.int .i64 r.f0, .int .i64 r.f1, .bool r.f2] 44)) 0
 clear hB hBW hn
 go_enter Try.func73, Try.ntmps73
 go_wp2_with (at_builtin; refine Kd.R_append k44 (w0 := W) g rfl (.tmp 3) (.tmp 5) 22 44 (.agg #[(.int .i64 0), (.int .i64 0), (.bool false)]) 24 rfl Try.underlying22 info44 rfl (by decide) (by omega) (.slice A l.length c) l r [.int .i64 r.f0, .int .i64 r.f1, .bool r.f2] (fun k => k ≠ g) (fun _ => False) rfl ?ax ?aP (fun _ hk => hk.elim) ?aF ?aO ?aB ?aS ?aL ?_; (case ax => first | rfl | (rw [World.size_alloc]; rfl) | (simp; done) | (simp; rfl)); (case aP => exact k44_mkM _ _ _ r); (case aB => exact HB.out); (case aF => exact fun k hk => by have := blk_lt HC.out; omega); (case aO => exact HO.out); (case aS => exact HZ.out); (case aL => have := HL.out; omega); intro v' w5 ho hb5 hg5 hat5; have HC5 := Aside0.mk (blk_grown HC.out hg5 (fun e => HO.out.1 g e.symm rfl)); have HO5 := Aside0.mk ho; have HB5 := Aside0.mk hb5; have HG5 := Aside0.mk hg5; clear ho hb5 hg5 hat5; obtain ⟨A5, c5, e5, _, _⟩ := Kd.R_reads HO5.out; subst e5; have hgc := blk_cell HC5.out 0; have hgf : w5.frozen? ⟨g, 0, none⟩ = false := (by simp [World.frozen?, HC5.out]))
 (try simp only [Exit.inBlock, Exit.then]); refine bodyPost_end (results_none rfl _ _ _) rfl ?_
 have e2 : l.length + 1 = (l ++ [r]).length := by simp
 rw [e2]
 refine ⟨rfl, ⟨_, blk_set HC5.out 0 _, Kd.R_far HO5.out (fun k hk => hk) _⟩, HB5.out.setCell (p := ⟨g, 0, none⟩) (Nat.le_refl _) _, fun X o hX hd => ?_⟩
 obtain ⟨h1, h2⟩ := HDR.out X hd
 exact (Below.heap_setCell w5 ⟨g, 0, none⟩ _ X h1).trans (blk_grown (blk_below hX HBW.out) HG5.out h2)
def CInv (g : Nat) (w1 : World) (v2 : Value) (q ps : List S44) (W : World) : Prop :=
 (∀ r ∈ ps, okPce r) ∧ (∃ v, Bld g v (ps.foldl addOf []) W ∧ ∀ k, v2.ownBlock = some k → v.ownBlock ≠ some k ∧ k ≠ g) ∧ Kd.R k44 44 W 0 (fun k => v2.ownBlock = some k) v2 q ∧ Below g w1 W
theorem CInv.run {g : Nat} {w1 : World} {v2 : Value} {q ps : List S44} {W : World} (h : CInv g w1 v2 q ps W) : BRun g w1 ps W := by
 obtain ⟨h1, ⟨v, hB, _⟩, _, h4⟩ := h
 exact ⟨⟨h1, v, hB⟩, h4⟩
theorem CInv.dirty {g : Nat} {w1 : World} {v2 : Value} {q : List S44} : ∀ ps W k, CInv g w1 v2 q ps W → BDirty g W k → k < W.heap.size := fun ps W k h => BRun.dirty ps W k h.run
theorem CInv.mono {g : Nat} {w1 : World} {v2 : Value} {q : List S44} : ∀ ps W W', CInv g w1 v2 q ps W → Below W.heap.size W W' → CInv g w1 v2 q ps W' ∧ ∀ k, BDirty g W' k → BDirty g W k := by
 intro ps W W' h hb
 have h2 := BRun.mono ps W W' h.run hb
 obtain ⟨h1, ⟨v, hB, hv⟩, h3, h4⟩ := h
 exact ⟨⟨h1, ⟨v, hB.below hb, hv⟩, Kd.R_below h3 hb, h2.1.2⟩, h2.2⟩
theorem CInv.step {g : Nat} {w1 : World} {v2 : Value} {q : List S44} : ∀ ps r W, ps.length < 65536 → CInv g w1 v2 q ps W → okPce r → Calls Try.prog 56 #[.pointer (some ⟨g, 0, none⟩), .agg #[.int .i64 r.f0, .int .i64 r.f1, .bool r.f2]] W fun e W' => e = .returned (.tuple #[]) ∧ CInv g w1 v2 q (ps ++ [r]) W' ∧ Below g W W' ∧ ∀ X o, W.heap[X]? = some o → ¬ BDirty g W X → W'.heap[X]? = some o := by
 rintro ps r W hn ⟨h1, ⟨v, hB, hv⟩, h3, h4⟩ hr
 have hin := fold_in ps [] 0 (by omega) (by simp) h1
 have hlen := addAll_len ps []
 simp only [List.length_nil] at hlen
 refine (add_main g v _ r W hB ⟨by have := hr.1; omega, by have := hr.2.1; omega, by have := hr.2.2; omega⟩ (by omega) (fun t ht => by have := hin t ht; unfold inB at this; omega)).mono ?_
 rintro e W' ⟨rfl, ⟨v', hB', hO⟩, hb, hk⟩
 have hlt : ∀ k, v2.ownBlock = some k → k < W.heap.size := Kd.R_lt h3
 refine ⟨rfl, ⟨fun x hx => ?_, ⟨v', by rw [List.foldl_append]; exact hB', fun k hk2 => ⟨fun e => ?_, (hv k hk2).2⟩⟩, Kd.R_move h3 (fun k hk2 => ?_), h4.trans hb⟩, hb, fun X o hX hd => hk X o hX (fun e => hd (.inl e)) (fun e => hd (.inr ⟨v, hB.cell, e⟩))⟩
 ·rcases List.mem_append.mp hx with hx | hx
  ·exact h1 x hx
  ·rw [List.mem_singleton.mp hx]; exact hr
 ·rcases hO k e with e2 | e2
  ·exact (hv k hk2).1 e2
  ·have := hlt k hk2; omega
 ·have hl := hlt k hk2
  obtain ⟨o, ho⟩ : ∃ o, W.heap[k]? = some o := ⟨W.heap[k], Array.getElem?_eq_getElem hl⟩
  rw [ho]
  exact hk k o ho (hv k hk2).2 (hv k hk2).1
end Go.Proofs.Ytalpegglbfobiaa.G

namespace Go.Proofs.Ytalpegglbfobiaa.G
open Go.RowKit Go.Proofs.YtalpegglbfobiaaW.PrintWords Go.Proofs.YtalpegglbfobiaaW.PrintLast Go.Proofs.YtalpegglbfobiaaW.PrintMore
set_option linter.unusedVariables false
set_option linter.unusedSimpArgs false
theorem pieces_mem (b : List S44) : ∀ (at_ f t : Int), ∀ p ∈ pieces b at_ f t, ∃ r ∈ b, ∃ x n, p = partR r x n ∧ 0 ≤ x ∧ 1 ≤ n ∧ x + n ≤ r.f1 := by
 induction b with
 | nil => intro at_ f t p hp; simp [pieces] at hp
 | cons r b ih =>
  intro at_ f t p hp
  simp only [pieces, List.mem_append] at hp
  rcases hp with hp | hp
  ·split at hp
   ·rename_i hc
    simp only [List.mem_singleton] at hp
    exact ⟨r, by simp, _, _, hp, by omega, by omega, by omega⟩
   ·simp at hp
  ·obtain ⟨q, hq, h⟩ := ih _ _ _ p hp
   exact ⟨q, by simp [hq], h⟩
theorem piece_fit {r : S44} (h : ¬ badR r) (x n : Int) (h0 : 0 ≤ x) (h1 : 1 ≤ n) (h2 : x + n ≤ r.f1) : (0 ≤ (partR r x n).f0 ∧ (partR r x n).f0 ≤ 17179869184 ∧ 1 ≤ (partR r x n).f1 ∧ (partR r x n).f1 ≤ 17179869184) ∧ okPce (revR (partR r x n)) := by
 have e := img_part r x n (n - 1) (by omega) (by omega)
 unfold badR at h
 have hf1 : (partR r x n).f1 = n := rfl
 have hf0 : (partR r x n).f0 = img r x := rfl
 have hr0 : (revR (partR r x n)).f0 = img r (x + (n - 1)) := by rw [← e]; rfl
 have hr1 : (revR (partR r x n)).f1 = n := rfl
 unfold okPce
 rw [hf1, hf0, hr0, hr1]
 unfold img
 cases hb : r.f2 <;> simp [hb] at h ⊢ <;> omega
def lookOf (b : List Int) (y : Int) : Int := b.getD y.toNat 0
def farR (n : Int) (r : S44) : Bool := decide (n ≤ max r.f0 (img r (r.f1 - 1)))
def compP (b : List S44) (r : S44) : List S44 := if r.f2 = true then revL (pieces b 0 (r.f0 - r.f1 + 1) (r.f0 + 1)) else pieces b 0 r.f0 (r.f0 + r.f1)
def psOf (b a : List S44) : List S44 := a.flatMap (compP b)
theorem compP_pos (b : List S44) (r : S44) : ∀ p ∈ compP b r, 1 ≤ p.f1 := by
 unfold compP
 split
 ·exact revL_pos _ (pieces_pos b _ _ _)
 ·exact pieces_pos b _ _ _
theorem compP_len (b : List S44) (r : S44) : (compP b r).length ≤ b.length := by
 unfold compP
 split
 ·rw [revL_len]; exact pieces_len b _ _ _
 ·exact pieces_len b _ _ _
theorem psOf_len (b : List S44) : ∀ a : List S44, (psOf b a).length ≤ a.length * b.length
 | [] => by simp [psOf]
 | r :: a => by
  have h1 := psOf_len b a
  have h2 := compP_len b r
  have e : psOf b (r :: a) = compP b r ++ psOf b a := by simp [psOf]
  rw [e, List.length_append, List.length_cons, Nat.add_mul]
  omega
theorem psOf_snoc (b a : List S44) (r : S44) : psOf b (a ++ [r]) = psOf b a ++ compP b r := by simp [psOf]
theorem sem_compP (b : List S44) (hb : check13 b = 0) (r : S44) (hr : ¬ badR r) (hf : farR (tot13 b) r = false) : sem (compP b r) = (imgs r).map (lookOf (sem b)) := by
 have hg := (check13_zero hb).2.1
 have hp1 : ∀ x ∈ b, 1 ≤ x.f1 := fun x hx => (fit_of (hg x hx)).2.2.1
 have hT := sem_tot hb
 unfold farR at hf
 simp only [decide_eq_false_iff_not, Int.not_le] at hf
 have hfit := fit_of hr
 unfold fitR at hfit
 have hbad := hr
 unfold badR at hbad
 obtain ⟨f, n, q⟩ := r
 dsimp only at *
 cases q with
 | false =>
  have hi : img (⟨f, n, false⟩ : S44) (n - 1) = f + (n - 1) := by simp [img]
  rw [hi] at hf
  have e0 : compP b ⟨f, n, false⟩ = pieces b 0 f (f + n) := by simp [compP]
  rw [e0, sem_pieces b 0 f (f + n) hp1, Int.sub_zero, Int.sub_zero]
  apply List.ext_getElem?
  intro i
  rw [List.getElem?_drop, List.getElem?_take, List.getElem?_map]
  by_cases hin : (i : Int) < n
  ·rw [if_pos (by omega), imgs_get _ _ hin]
   have hlt : f.toNat + i < (sem b).length := by omega
   have e1 : img (⟨f, n, false⟩ : S44) (i : Int) = f + i := by simp [img]
   have e2 : (f + (i : Int)).toNat = f.toNat + i := by omega
   rw [List.getElem?_eq_getElem hlt, e1]
   simp [lookOf, e2, List.getD_eq_getElem?_getD, List.getElem?_eq_getElem hlt]
  ·rw [if_neg (by omega), List.getElem?_eq_none (by rw [imgs_len]; dsimp only; omega)]
   rfl
 | true =>
  have hi : img (⟨f, n, true⟩ : S44) (n - 1) = f - (n - 1) := by simp [img]
  rw [hi] at hf
  simp at hbad
  have e0 : compP b ⟨f, n, true⟩ = revL (pieces b 0 (f - n + 1) (f + 1)) := by simp [compP]
  rw [e0, sem_rev _ (pieces_pos b _ _ _), sem_pieces b 0 (f - n + 1) (f + 1) hp1, Int.sub_zero, Int.sub_zero]
  have hlen : (((sem b).take (f + 1).toNat).drop (f - n + 1).toNat).length = n.toNat := by rw [List.length_drop, List.length_take]; omega
  apply List.ext_getElem?
  intro i
  rw [List.getElem?_map]
  by_cases hin : (i : Int) < n
  ·rw [List.getElem?_reverse (by omega), hlen, List.getElem?_drop, List.getElem?_take, if_pos (by omega), imgs_get _ _ hin]
   have hlt : (f - n + 1).toNat + (n.toNat - 1 - i) < (sem b).length := by omega
   have e1 : img (⟨f, n, true⟩ : S44) (i : Int) = f - i := by simp [img]
   have e2 : (f - (i : Int)).toNat = (f - n + 1).toNat + (n.toNat - 1 - i) := by omega
   rw [List.getElem?_eq_getElem hlt, e1]
   simp [lookOf, e2, List.getD_eq_getElem?_getD, List.getElem?_eq_getElem hlt]
  ·rw [List.getElem?_eq_none (by rw [List.length_reverse]; omega), List.getElem?_eq_none (by rw [imgs_len]; dsimp only; omega)]
   rfl
theorem sem_psOf (b : List S44) (hb : check13 b = 0) : ∀ a : List S44, (∀ r ∈ a, ¬ badR r) → (∀ r ∈ a, farR (tot13 b) r = false) → sem (psOf b a) = (sem a).map (lookOf (sem b))
 | [], _, _ => rfl
 | r :: a, h1, h2 => by
  have e : psOf b (r :: a) = compP b r ++ psOf b a := by simp [psOf]
  rw [e, sem_append, sem_psOf b hb a (fun x hx => h1 x (by simp [hx])) (fun x hx => h2 x (by simp [hx])), sem_compP b hb r (h1 r (by simp)) (h2 r (by simp)), sem_cons, List.map_append]
theorem comp_fold (a b : List S44) (hb : check13 b = 0) (h1 : ∀ r ∈ a, ¬ badR r) (h2 : ∀ r ∈ a, farR (tot13 b) r = false) : (psOf b a).foldl addOf [] = nrm ((sem a).map (lookOf (sem b))) := by
 rw [addAll _ (fun p hp => by
  obtain ⟨r, _, hp⟩ := List.mem_flatMap.mp hp
  exact compP_pos b r p hp), sem_psOf b hb a h1 h2]
end Go.Proofs.Ytalpegglbfobiaa.G
