import Derived.Test.YtfdfpdiemeomiaaGxreelCheck
import Derived.Test.YtfdfpdiemeomiaaGxpapermillref34Check
namespace Go.Proofs.Ytfdfpdiemeomiaa.G
open Go.RowKit Go.Proofs.YtfdfpdiemeomiaaW.PrintWords Go.Proofs.YtfdfpdiemeomiaaW.PrintLast Go.Proofs.YtfdfpdiemeomiaaW.PrintMore
set_option linter.unusedVariables false
set_option linter.unusedSimpArgs false

/-- From some number of rounds on, the answer is r. -/
def Ends {α : Type} (g : Nat → Option α) (r : α) : Prop := ∃ n, ∀ k, n ≤ k → g k = some r
theorem Ends.const {α : Type} {a : Option α} {r : α} (h : a = some r) : Ends (fun _ => a) r := ⟨0, fun _ _ => h⟩
theorem Ends.ret {α : Type} (r : α) : Ends (fun _ => some r) r := ⟨0, fun _ _ => rfl⟩
theorem Ends.bind {α β : Type} {g : Nat → Option α} {f : Nat → α → Option β} {r : α} {q : β} (h : Ends g r) (k : Ends (fun k => f k r) q) : Ends (fun k => (g k).bind (f k)) q := by
  obtain ⟨n, h⟩ := h
  obtain ⟨m, k⟩ := k
  exact ⟨n + m, fun j hj => by show (g j).bind (f j) = _; rw [h j (by omega)]; exact k j (by omega)⟩
theorem Ends.pos {α : Type} {c : Prop} [Decidable c] {a b : Nat → Option α} {r : α} (hc : c) (h : Ends a r) : Ends (fun k => if c then a k else b k) r := by simpa only [if_pos hc] using h
theorem Ends.neg {α : Type} {c : Prop} [Decidable c] {a b : Nat → Option α} {r : α} (hc : ¬ c) (h : Ends b r) : Ends (fun k => if c then a k else b k) r := by simpa only [if_neg hc] using h
theorem Ends.succ {α : Type} {g : Nat → Option α} {r : α} (h : Ends (fun k => g (k + 1)) r) : Ends g r := by
  obtain ⟨n, h⟩ := h
  exact ⟨n + 1, fun k hk => by obtain ⟨j, rfl⟩ : ∃ j, k = j + 1 := ⟨k - 1, by omega⟩; exact h j (by omega)⟩
theorem Ends.get {α : Type} {g : Nat → Option α} {r : α} (h : Ends g r) : ∃ k, g k = some r := by obtain ⟨n, h⟩ := h; exact ⟨n, h n (Nat.le_refl _)⟩
theorem wrap_nat (i : Nat) (h : i < 4000000000000000000) : wrap64 ((i : Int) + 1) = ((i + 1 : Nat) : Int) := by unfold wrap64; omega
theorem wrap_pred (i : Nat) (h : i < 4000000000000000000) (h1 : 1 ≤ i) : wrap64 ((i : Int) - 1) = ((i - 1 : Nat) : Int) := by unfold wrap64; omega
theorem rd44 (l : List S44) (i : Nat) (h : i < l.length) : rd_T44 l i = l[i] := by simp [rd_T44, List.getD_eq_getElem?_getD, List.getElem?_eq_getElem h]
theorem rdI (l : List Int) (i : Nat) (h : i < l.length) : rd l i = l[i] := by simp [rd, List.getD_eq_getElem?_getD, List.getElem?_eq_getElem h]

/-! ### the check of sections -/
def secErr (x : S44) : Int := if x.f0 < 0 ∨ x.f0 ≥ x.f1 ∨ x.f1 > 17179869184 then 1 else if x.f2 < 1 ∨ x.f2 > 3 then 17 else if x.f3 < -1 ∨ x.f3 ≥ 16 then 22 else if x.f4 < 0 ∨ x.f4 > 2048 then 1 else 0
def firstErr : List S44 → Int
  | [] => 0
  | x :: r => if secErr x = 0 then firstErr r else secErr x
def ordErr : Int → Int → List S44 → Int
  | _, _, [] => 0
  | e, p, x :: r => if x.f0 = e ∧ ¬ x.f4 < p then ordErr x.f1 x.f4 r else 9
def checkOf (l : List S44) : Int := if l.length > 512 then 8 else if firstErr l = 0 then ordErr 0 0 l else firstErr l

theorem or3 {α : Type} (F : Bool → α) (p q r : Prop) [Decidable p] [Decidable q] [Decidable r] : (if p then F true else if q then F true else F (decide r)) = F (decide (p ∨ q ∨ r)) := by
  by_cases h1 : p
  · simp [h1]
  · by_cases h2 : q <;> simp [h1, h2]
theorem or2 {α : Type} (F : Bool → α) (p r : Prop) [Decidable p] [Decidable r] : (if p then F true else F (decide r)) = F (decide (p ∨ r)) := by
  by_cases h1 : p <;> simp [h1]
theorem one_j2 (k : Nat) (A : Prop) [Decidable A] (a b c d e : Int) : reel_checkOne.j2 (k + 1) (decide A) a b c d e = some (if A then 22 else if e < 0 ∨ e > 2048 then 1 else 0) := by
  simp only [reel_checkOne.j2, decide_eq_true_eq]
  by_cases h : A
  · simp [h]
  · by_cases h1 : e < 0
    · simp [h, h1]
    · by_cases h2 : e > 2048 <;> simp [h, h1, h2]
theorem one_j1 (k : Nat) (A : Prop) [Decidable A] (a b c d e : Int) : reel_checkOne.j1 (k + 1 + 1) (decide A) a b c d e = some (if A then 17 else if d < -1 ∨ d ≥ 16 then 22 else if e < 0 ∨ e > 2048 then 1 else 0) := by
  rw [reel_checkOne.j1, or2 (fun q => reel_checkOne.j2 (k + 1) q a b c d e), one_j2]
  by_cases h : A <;> simp [h]
theorem one_j0 (k : Nat) (A : Prop) [Decidable A] (a b c d e : Int) : reel_checkOne.j0 (k + 1 + 1 + 1) (decide A) a b c d e = some (if A then 1 else if c < 1 ∨ c > 3 then 17 else if d < -1 ∨ d ≥ 16 then 22 else if e < 0 ∨ e > 2048 then 1 else 0) := by
  rw [reel_checkOne.j0, or2 (fun q => reel_checkOne.j1 (k + 1 + 1) q a b c d e), one_j1]
  by_cases h : A <;> simp [h]
theorem one_ends (x : S44) : Ends (fun k => reel_checkOne.f k x.f0 x.f1 x.f2 x.f3 x.f4) (secErr x) := by
  refine ⟨3, fun k hk => ?_⟩
  obtain ⟨k, rfl⟩ : ∃ j, k = j + 1 + 1 + 1 := ⟨k - 3, by omega⟩
  show reel_checkOne.f _ _ _ _ _ _ = _
  unfold reel_checkOne.f secErr
  rw [or3 (fun q => reel_checkOne.j0 (k + 1 + 1 + 1) q x.f0 x.f1 x.f2 x.f3 x.f4), one_j0]

theorem drop44 (l : List S44) (i : Nat) (h : i < l.length) : l.drop i = rd_T44 l i :: l.drop (i + 1) := by rw [rd44 l i h]; exact List.drop_eq_getElem_cons h

theorem ord_ends (l : List S44) (hl : l.length ≤ 512) : ∀ (d i : Nat) (e p : Int), l.length - i = d → i ≤ l.length → Ends (fun k => reel_Check.l1 k e p l (l.length : Int) (i : Int)) (ordErr e p (l.drop i)) := by
  intro d
  induction d with
  | zero =>
    intro i e p hd hi
    rw [List.drop_of_length_le (by omega)]
    refine Ends.succ ?_
    simp only [reel_Check.l1]
    exact Ends.neg (by omega) (Ends.ret _)
  | succ d ih =>
    intro i e p hd hi
    rw [drop44 l i (by omega)]
    refine Ends.succ ?_
    simp only [reel_Check.l1, ordErr]
    refine Ends.pos (by omega) (Ends.pos (by omega) (Ends.pos (by omega) ?_))
    by_cases h1 : (rd_T44 l i).f0 = e
    · refine Ends.pos h1 ?_
      by_cases h2 : (rd_T44 l i).f4 < p
      · rw [if_neg (fun h => h.2 h2)]; exact Ends.pos h2 (Ends.ret _)
      · rw [if_pos ⟨h1, h2⟩, wrap_nat i (by omega)]; exact Ends.neg h2 (ih (i + 1) _ _ (by omega) (by omega))
    · rw [if_neg (fun h => h1 h.1)]; exact Ends.neg h1 (Ends.ret _)
theorem first_step (x : S44) (r : List S44) (q : Int) : (if firstErr (x :: r) = 0 then q else firstErr (x :: r)) = (if secErr x = 0 then (if firstErr r = 0 then q else firstErr r) else secErr x) := by
  simp only [firstErr]
  by_cases h : secErr x = 0
  · simp only [if_pos h]
  · simp only [if_neg h]
theorem first_ends (l : List S44) (hl : l.length ≤ 512) : ∀ (d i : Nat), l.length - i = d → i ≤ l.length → Ends (fun k => reel_Check.l0 k l l (l.length : Int) (i : Int)) (if firstErr (l.drop i) = 0 then ordErr 0 0 l else firstErr (l.drop i)) := by
  intro d
  induction d with
  | zero =>
    intro i hd hi
    rw [List.drop_of_length_le (by omega)]
    refine Ends.succ ?_
    simp only [reel_Check.l0]
    refine Ends.neg (by omega) ?_
    simpa [firstErr] using ord_ends l hl l.length 0 0 0 rfl (Nat.zero_le _)
  | succ d ih =>
    intro i hd hi
    rw [drop44 l i (by omega)]
    refine Ends.succ ?_
    rw [first_step]
    simp only [reel_Check.l0]
    refine Ends.pos (by omega) (Ends.pos (by omega) (Ends.pos (by omega) (Ends.bind (one_ends _) ?_)))
    by_cases h1 : secErr (rd_T44 l i) = 0
    · rw [if_pos h1, wrap_nat i (by omega)]; exact Ends.pos h1 (ih (i + 1) (by omega) (by omega))
    · rw [if_neg h1]; exact Ends.neg h1 (Ends.ret _)
theorem check_ends (l : List S44) : Ends (fun k => reel_Check.f k l) (checkOf l) := by
  simp only [reel_Check.f, checkOf]
  by_cases h : l.length > 512
  · rw [if_pos h]; exact Ends.pos (by omega) (Ends.ret _)
  · rw [if_neg h]; exact Ends.neg (by omega) (by simpa using first_ends l (by omega) l.length 0 rfl (Nat.zero_le _))

theorem ref_j (l : List S44) (i : Nat) (x : S44) (A : Prop) [Decidable A] (r : Int) (hA : A ↔ (x.f0 < 0 ∨ x.f0 ≥ x.f1 ∨ x.f1 > 17179869184)) (hi : i < 1000) (h : secErr x = 0 → Ends (fun k => papermillref34_Check.l0 k l ((i + 1 : Nat) : Int)) r) : Ends (fun k => papermillref34_Check.j1 k l (i : Int) (decide A) x.f0 x.f1 x.f2 x.f3 x.f4) (if secErr x = 0 then r else secErr x) := by
  refine Ends.succ ?_
  simp only [papermillref34_Check.j1, decide_eq_true_eq]
  by_cases h1 : A
  · have e : secErr x = 1 := by unfold secErr; rw [if_pos (hA.1 h1)]
    rw [e]; exact Ends.pos h1 (Ends.ret _)
  · refine Ends.neg h1 ?_
    have n1 := fun q => h1 (hA.2 q)
    refine Ends.succ ?_
    have e2 : (fun k => if x.f2 < 1 then papermillref34_Check.j2 (k + 1) l (i : Int) true x.f0 x.f1 x.f2 x.f3 x.f4 else papermillref34_Check.j2 (k + 1) l (i : Int) (decide (x.f2 > 3)) x.f0 x.f1 x.f2 x.f3 x.f4) = fun k => papermillref34_Check.j2 (k + 1) l (i : Int) (decide (x.f2 < 1 ∨ x.f2 > 3)) x.f0 x.f1 x.f2 x.f3 x.f4 := funext fun k => or2 (fun q => papermillref34_Check.j2 (k + 1) l (i : Int) q x.f0 x.f1 x.f2 x.f3 x.f4) _ _
    rw [e2]
    simp only [papermillref34_Check.j2, decide_eq_true_eq]
    by_cases h2 : x.f2 < 1 ∨ x.f2 > 3
    · have e : secErr x = 17 := by unfold secErr; rw [if_neg n1, if_pos h2]
      rw [e]; exact Ends.pos h2 (Ends.ret _)
    · refine Ends.neg h2 ?_
      refine Ends.succ ?_
      have e3 : (fun k => if x.f3 < -1 then papermillref34_Check.j3 (k + 1) l (i : Int) true x.f0 x.f1 x.f2 x.f3 x.f4 else papermillref34_Check.j3 (k + 1) l (i : Int) (decide (x.f3 ≥ 16)) x.f0 x.f1 x.f2 x.f3 x.f4) = fun k => papermillref34_Check.j3 (k + 1) l (i : Int) (decide (x.f3 < -1 ∨ x.f3 ≥ 16)) x.f0 x.f1 x.f2 x.f3 x.f4 := funext fun k => or2 (fun q => papermillref34_Check.j3 (k + 1) l (i : Int) q x.f0 x.f1 x.f2 x.f3 x.f4) _ _
      rw [e3]
      simp only [papermillref34_Check.j3, decide_eq_true_eq]
      by_cases h3 : x.f3 < -1 ∨ x.f3 ≥ 16
      · have e : secErr x = 22 := by unfold secErr; rw [if_neg n1, if_neg h2, if_pos h3]
        rw [e]; exact Ends.pos h3 (Ends.ret _)
      · refine Ends.neg h3 ?_
        by_cases h4 : x.f4 < 0
        · have e : secErr x = 1 := by unfold secErr; rw [if_neg n1, if_neg h2, if_neg h3, if_pos (.inl h4)]
          rw [e]; exact Ends.pos h4 (Ends.ret _)
        · refine Ends.neg h4 ?_
          by_cases h5 : x.f4 > 2048
          · have e : secErr x = 1 := by unfold secErr; rw [if_neg n1, if_neg h2, if_neg h3, if_pos (.inr h5)]
            rw [e]; exact Ends.pos h5 (Ends.ret _)
          · have e : secErr x = 0 := by unfold secErr; rw [if_neg n1, if_neg h2, if_neg h3, if_neg (by omega)]
            rw [if_pos e, wrap_nat i (by omega)]; exact Ends.neg h5 (h e)
theorem sec_phase {x : S44} (h : secErr x = 0) : 0 ≤ x.f4 := by
  unfold secErr at h
  repeat' split at h
  all_goals first | omega | (simp at h)
theorem first_all : ∀ {l : List S44}, firstErr l = 0 → ∀ x ∈ l, secErr x = 0
  | [], _, x, hx => by simp at hx
  | y :: r, h, x, hx => by
    unfold firstErr at h
    split at h
    · rcases List.mem_cons.1 hx with rfl | hx
      · assumption
      · exact first_all h x hx
    · contradiction
theorem ref_ord (l : List S44) (hl : l.length ≤ 512) : ∀ (d i : Nat), l.length - i = d → 1 ≤ i → i ≤ l.length → Ends (fun k => papermillref34_Check.l1 k l (i : Int)) (ordErr (rd_T44 l (i - 1 : Nat)).f1 (rd_T44 l (i - 1 : Nat)).f4 (l.drop i)) := by
  intro d
  induction d with
  | zero =>
    intro i hd h1 hi
    rw [List.drop_of_length_le (by omega)]
    refine Ends.succ ?_
    simp only [papermillref34_Check.l1]
    exact Ends.neg (by omega) (Ends.ret _)
  | succ d ih =>
    intro i hd h1 hi
    rw [drop44 l i (by omega)]
    refine Ends.succ ?_
    simp only [papermillref34_Check.l1, ordErr, wrap_pred i (by omega) h1]
    refine Ends.pos (by omega) (Ends.neg (by omega) (Ends.pos (by omega) (Ends.pos (by omega) (Ends.pos (by omega) (Ends.pos (by omega) ?_)))))
    by_cases h2 : (rd_T44 l i).f0 = (rd_T44 l (i - 1 : Nat)).f1
    · refine Ends.pos h2 ?_
      by_cases h3 : (rd_T44 l i).f4 < (rd_T44 l (i - 1 : Nat)).f4
      · rw [if_neg (fun h => h.2 h3)]; exact Ends.pos h3 (Ends.ret _)
      · rw [if_pos ⟨h2, h3⟩, wrap_nat i (by omega)]; exact Ends.neg h3 (ih (i + 1) (by omega) (by omega) (by omega))
    · rw [if_neg (fun h => h2 h.1)]; exact Ends.neg h2 (Ends.ret _)
theorem ref_ord0 (l : List S44) (hl : l.length ≤ 512) (hp : ∀ x ∈ l, secErr x = 0) : Ends (fun k => papermillref34_Check.l1 k l 0) (ordErr 0 0 l) := by
  refine Ends.succ ?_
  simp only [papermillref34_Check.l1]
  match l, hl, hp with
  | [], _, _ => exact Ends.neg (by simp) (Ends.ret _)
  | x :: r, hl, hp =>
    have e : rd_T44 (x :: r) 0 = x := rfl
    have h0 := sec_phase (hp x (by simp))
    simp only [e, ordErr]
    refine Ends.pos (by simp) (Ends.pos (by trivial) (Ends.pos (by trivial) ?_))
    by_cases h1 : x.f0 = 0
    · rw [if_pos ⟨h1, by omega⟩]
      have := ref_ord (x :: r) hl r.length 1 (by simp) (Nat.le_refl _) (by simp)
      refine Ends.pos h1 (Ends.neg (by omega) ?_)
      rw [show ((1 - 1 : Nat)) = 0 from rfl, show rd_T44 (x :: r) (0 : Nat) = x from rfl] at this
      simpa [wrap64] using this
    · rw [if_neg (fun h => h1 h.1)]; exact Ends.neg h1 (Ends.ret _)
theorem ref_first (l : List S44) (hl : l.length ≤ 512) : ∀ (d i : Nat), l.length - i = d → i ≤ l.length → (∀ x ∈ l.take i, secErr x = 0) → Ends (fun k => papermillref34_Check.l0 k l (i : Int)) (if firstErr (l.drop i) = 0 then ordErr 0 0 l else firstErr (l.drop i)) := by
  intro d
  induction d with
  | zero =>
    intro i hd hi hp
    rw [List.drop_of_length_le (by omega)]
    rw [List.take_of_length_le (by omega)] at hp
    refine Ends.succ ?_
    simp only [papermillref34_Check.l0]
    exact Ends.neg (by omega) (by simpa [firstErr] using ref_ord0 l hl hp)
  | succ d ih =>
    intro i hd hi hp
    rw [drop44 l i (by omega)]
    refine Ends.succ ?_
    have e2 : (fun k => papermillref34_Check.l0 (k + 1) l (i : Int)) = fun k => if (i : Int) < (l.length : Int) then (if 0 ≤ (i : Int) then papermillref34_Check.j1 k l (i : Int) (decide ((rd_T44 l i).f0 < 0 ∨ (rd_T44 l i).f0 ≥ (rd_T44 l i).f1 ∨ (rd_T44 l i).f1 > 17179869184)) (rd_T44 l i).f0 (rd_T44 l i).f1 (rd_T44 l i).f2 (rd_T44 l i).f3 (rd_T44 l i).f4 else none) else papermillref34_Check.l1 k l 0 := by
      funext k
      simp only [papermillref34_Check.l0]
      rw [or3 (fun q => papermillref34_Check.j1 k l (i : Int) q (rd_T44 l i).f0 (rd_T44 l i).f1 (rd_T44 l i).f2 (rd_T44 l i).f3 (rd_T44 l i).f4)]
    rw [e2]
    refine Ends.pos (by omega) (Ends.pos (by omega) ?_)
    have hj := ref_j l i (rd_T44 l i) _ (if firstErr (l.drop (i + 1)) = 0 then ordErr 0 0 l else firstErr (l.drop (i + 1))) Iff.rfl (by omega) (fun h0 => ih (i + 1) (by omega) (by omega) (fun x hx => by
      rw [List.take_succ_eq_append_getElem (by omega)] at hx
      rcases List.mem_append.1 hx with hx | hx
      · exact hp x hx
      · rw [List.mem_singleton.1 hx, ← rd44 l i (by omega)]; exact h0))
    rw [first_step]; exact hj
theorem ref_ends (l : List S44) : Ends (fun k => papermillref34_Check.f k l) (checkOf l) := by
  simp only [papermillref34_Check.f, checkOf]
  by_cases h : l.length > 512
  · rw [if_pos h]; exact Ends.pos (by omega) (Ends.ret _)
  · rw [if_neg h]; exact Ends.neg (by omega) (by simpa using ref_first l (by omega) l.length 0 rfl (Nat.zero_le _) (by simp))
end Go.Proofs.Ytfdfpdiemeomiaa.G
