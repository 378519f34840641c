import Derived.Test.YtnfcpcgbdoiiiaaQ1
import Derived.Test.YtnfcpcgbdoiiiaaQ3
import Derived.Test.YtnfcpcgbdoiiiaaQ4
import Derived.Deep.Slices
import Derived.Deep.Fields
import Derived.ChangeSame
import Derived.ChangeArms
namespace Go.Proofs.Ytnfcpcgbdoiiiaa.G
open Go.RowKit Go.Proofs.YtnfcpcgbdoiiiaaW.PrintWords Go.Proofs.YtnfcpcgbdoiiiaaW.PrintLast Go.Proofs.YtnfcpcgbdoiiiaaW.PrintMore
set_option linter.unusedVariables false
set_option linter.unusedSimpArgs false
theorem k25_openF {W : World} {ok : Nat → Prop} {x : S25} {cs : List Value} (h : Kd.FK k25 W ok x cs) : ∃ A1 c1, cs = [.int .i64 x.f0, .slice A1 x.f1.length c1, .int .i64 x.f2] ∧ x.f1.length ≤ c1 ∧ Kd.F k50 W ok A1 x.f1.length x.f1 := by
 obtain ⟨A1, c1, rfl, l1, _⟩ := k25_open (Kd.FK_now h)
 exact ⟨A1, c1, rfl, l1, (fun W' hW => by obtain ⟨A1_, c1_, he, l1_, g1_⟩ := k25_open (h W' hW); injection (Option.some.inj (show some (Value.slice A1 x.f1.length c1) = some (Value.slice A1_ x.f1.length c1_) from congrArg (fun l => l[1]?) he)) with ha_ _ _; rw [ha_]; exact g1_)⟩
theorem k25_mkF (W : World) (ok : Nat → Prop) (x : S25) {A1 : Option Addr} {c1 : Nat} (l1 : x.f1.length ≤ c1) (g1 : Kd.F k50 W ok A1 x.f1.length x.f1) : Kd.FK k25 W ok x [.int .i64 x.f0, .slice A1 x.f1.length c1, .int .i64 x.f2] := fun W2 hW => k25_mk W2 x l1 (g1 W2 hW)
end Go.Proofs.Ytnfcpcgbdoiiiaa.G

namespace Go.Proofs.Ytnfcpcgbdoiiiaa.G
open Go.RowKit Go.Proofs.YtnfcpcgbdoiiiaaW.PrintWords Go.Proofs.YtnfcpcgbdoiiiaaW.PrintLast Go.Proofs.YtnfcpcgbdoiiiaaW.PrintMore
set_option linter.unusedVariables false
set_option linter.unusedSimpArgs false
def rightB (a b : Int) : Bool := decide (0 ≤ a ∧ a ≤ 17179869184 ∧ 1 ≤ b ∧ b ≤ 17179869184)
theorem right_f (a b : Int) : sheet_right.f a b = some (rightB a b) := by
  unfold sheet_right.f rightB
  split
  · split
    · split
      · congr 1; rw [decide_eq_decide]; omega
      · congr 1; rw [eq_comm, decide_eq_false_iff_not]; omega
    · congr 1; rw [eq_comm, decide_eq_false_iff_not]; omega
  · congr 1; rw [eq_comm, decide_eq_false_iff_not]; omega
theorem rightB_iff (a b : Int) : rightB a b = true ↔ 0 ≤ a ∧ a ≤ 17179869184 ∧ 1 ≤ b ∧ b ≤ 17179869184 := by unfold rightB; simp
def sheetOf (n z x : Int) : Int × Int := if rightB n z = true then (if x < 0 ∨ x ≥ n then (0, 21) else if x < n % z then (0, 7) else ((n - 1 - x) / z, 0)) else (0, 1)
theorem div_le_self' (a z : Int) (h0 : 0 ≤ a) (h1 : 1 ≤ z) : 0 ≤ a / z ∧ a / z ≤ a := ⟨Int.ediv_nonneg h0 (by omega), Int.ediv_le_self z h0⟩
theorem sheet_j (n z x : Int) (hr : rightB n z = true) (c : Bool) (hc : c = decide (x < 0 ∨ x ≥ n)) : Ends (fun k => sheet_Sheet.j0 k n z x c) (sheetOf n z x) := by
  obtain ⟨h0, h1, h2, h3⟩ := (rightB_iff n z).1 hr
  refine Ends.succ ?_
  simp only [sheet_Sheet.j0]
  unfold sheetOf
  rw [if_pos hr]
  by_cases h : x < 0 ∨ x ≥ n
  · rw [if_pos h]
    exact Ends.pos (by rw [hc]; simpa using h) (Ends.ret _)
  · rw [if_neg h]
    refine Ends.neg (by rw [hc]; simpa using h) (Ends.neg (by omega) ?_)
    rw [Int.tmod_eq_emod_of_nonneg h0]
    by_cases hm : x < n % z
    · exact (Ends.pos hm (Ends.ret _)).congr (by rw [if_pos hm])
    · refine Ends.neg hm ((Ends.ret _).congr ?_)
      rw [if_neg hm]
      have e1 : wrap64 (n - 1) = n - 1 := by unfold wrap64; omega
      have e2 : wrap64 (n - 1 - x) = n - 1 - x := by unfold wrap64; omega
      have := div_le_self' (n - 1 - x) z (by omega) h2
      rw [e1, e2, Int.tdiv_eq_ediv_of_nonneg (by omega)]
      generalize (n - 1 - x) / z = q at *
      have e3 : wrap64 q = q := by unfold wrap64; omega
      rw [e3]
theorem sheet_ends (n z x : Int) : Ends (fun k => sheet_Sheet.f k n z x) (sheetOf n z x) := by
  unfold sheet_Sheet.f
  simp only [right_f, Option.bind_some]
  by_cases hr : rightB n z = true
  · refine Ends.pos hr ?_
    by_cases hx : x < 0
    · exact Ends.pos hx (sheet_j n z x hr true (by simp [hx]))
    · exact Ends.neg hx (sheet_j n z x hr _ (by simp [hx]))
  · refine Ends.neg hr ((Ends.ret _).congr ?_)
    unfold sheetOf
    rw [if_neg hr]
def placeOf (n z k y : Int) : Int × Int := if rightB n z = true then (if k < 0 ∨ k ≥ n / z then (0, 7) else if y < 0 ∨ y ≥ z then (0, 21) else (n - 1 - k * z - y, 0)) else (0, 1)
theorem mul_le_of_lt_div (n z k : Int) (h0 : 0 ≤ n) (h2 : 1 ≤ z) (hk : 0 ≤ k) (h : k < n / z) : 0 ≤ k * z ∧ k * z + z ≤ n := by
  have h1 : (k + 1) * z ≤ n := Int.le_trans (Int.mul_le_mul_of_nonneg_right (by omega) (by omega)) (Int.ediv_mul_le n (by omega))
  rw [Int.add_mul, Int.one_mul] at h1
  exact ⟨Int.mul_nonneg hk (by omega), h1⟩
theorem place_j (n z k y : Int) (hr : rightB n z = true) (c : Bool) (hc : c = decide (k < 0 ∨ k ≥ n / z)) : Ends (fun q => sheet_Place.j0 q n z k y c) (placeOf n z k y) := by
  obtain ⟨h0, h1, h2, h3⟩ := (rightB_iff n z).1 hr
  refine Ends.succ ?_
  simp only [sheet_Place.j0]
  unfold placeOf
  rw [if_pos hr]
  by_cases h : k < 0 ∨ k ≥ n / z
  · rw [if_pos h]
    exact Ends.pos (by rw [hc]; simpa using h) (Ends.ret _)
  · rw [if_neg h]
    refine Ends.neg (by rw [hc]; simpa using h) ?_
    have hm := mul_le_of_lt_div n z k h0 h2 (by omega) (by omega)
    by_cases hy : y < 0
    · exact (Ends.pos hy (Ends.ret _)).congr (by rw [if_pos (Or.inl hy)])
    · by_cases hz : y ≥ z
      · exact (Ends.neg hy (Ends.pos hz (Ends.ret _))).congr (by rw [if_pos (Or.inr hz)])
      · refine Ends.neg hy (Ends.neg hz ((Ends.ret _).congr ?_))
        rw [if_neg (show ¬ (y < 0 ∨ y ≥ z) by omega)]
        generalize k * z = q at *
        have e1 : wrap64 (n - 1) = n - 1 := by unfold wrap64; omega
        have e2 : wrap64 q = q := by unfold wrap64; omega
        have e3 : wrap64 (n - 1 - q) = n - 1 - q := by unfold wrap64; omega
        have e4 : wrap64 (n - 1 - q - y) = n - 1 - q - y := by unfold wrap64; omega
        rw [e1, e2, e3, e4]
theorem place_ends (n z k y : Int) : Ends (fun q => sheet_Place.f q n z k y) (placeOf n z k y) := by
  unfold sheet_Place.f
  simp only [right_f, Option.bind_some]
  by_cases hr : rightB n z = true
  · obtain ⟨h0, h1, h2, h3⟩ := (rightB_iff n z).1 hr
    refine Ends.pos hr ?_
    by_cases hx : k < 0
    · exact Ends.pos hx (place_j n z k y hr true (by simp [hx]))
    · refine Ends.neg hx (Ends.neg (by omega) ?_)
      have := div_le_self' n z h0 h2
      have e : wrap64 (Int.tdiv n z) = n / z := by
        rw [Int.tdiv_eq_ediv_of_nonneg h0]
        generalize n / z = q at *
        unfold wrap64; omega
      rw [e]
      exact place_j n z k y hr _ (by simp [hx])
  · refine Ends.neg hr ((Ends.ret _).congr ?_)
    unfold placeOf
    rw [if_neg hr]
end Go.Proofs.Ytnfcpcgbdoiiiaa.G

namespace Go.Proofs.Ytnfcpcgbdoiiiaa.G
open Go.RowKit Go.Proofs.YtnfcpcgbdoiiiaaW.PrintWords Go.Proofs.YtnfcpcgbdoiiiaaW.PrintLast Go.Proofs.YtnfcpcgbdoiiiaaW.PrintMore
set_option linter.unusedVariables false
set_option linter.unusedSimpArgs false
def sameL : List S50 → List S50 → Bool
  | [], [] => true
  | x :: a, y :: b => (x.f0 == y.f0 && x.f1 == y.f1) && sameL a b
  | _, _ => false
theorem sameL_iff : ∀ (a b : List S50), sameL a b = true ↔ a = b
  | [], [] => by simp [sameL]
  | [], y :: b => by simp [sameL]
  | x :: a, [] => by simp [sameL]
  | x :: a, y :: b => by
    rw [sameL, Bool.and_eq_true, sameL_iff a b, Bool.and_eq_true, beq_iff_eq, beq_iff_eq]
    constructor
    · rintro ⟨⟨h1, h2⟩, rfl⟩
      cases x; cases y; simp_all
    · intro h
      injection h with h1 h2
      subst h1; subst h2
      simp
theorem sameL_len : ∀ (a b : List S50), a.length ≠ b.length → sameL a b = false := by
  intro a b h
  cases hs : sameL a b with
  | false => rfl
  | true => exact absurd (congrArg List.length ((sameL_iff a b).1 hs)) h
theorem equal_l0 (a b : List S50) (hl : a.length = b.length) (ha : a.length ≤ 1000000) : ∀ (d i : Nat), a.length - i = d → i ≤ a.length → Ends (fun k => slices_Equal_api_Span_api_Span.l0 k a b (a.length : Int) (i : Int)) (sameL (a.drop i) (b.drop i)) := by
  intro d
  induction d with
  | zero =>
    intro i hd hi
    refine Ends.succ ?_
    simp only [slices_Equal_api_Span_api_Span.l0]
    rw [List.drop_of_length_le (by omega), List.drop_of_length_le (by omega)]
    exact Ends.neg (by omega) (Ends.ret _)
  | succ d ih =>
    intro i hd hi
    refine Ends.succ ?_
    simp only [slices_Equal_api_Span_api_Span.l0, wrap_nat i (by omega)]
    rw [drop36 a i (by omega), drop36 b i (by omega)]
    generalize rd_T50 a (i : Int) = x
    generalize rd_T50 b (i : Int) = y
    refine Ends.pos (by omega) (Ends.pos (by omega) (Ends.pos (by omega) (Ends.pos (by omega) ?_)))
    rw [sameL]
    cases hc : (x.f0 == y.f0) with
    | false => exact Ends.pos (by simp) ((Ends.ret _).congr (by simp))
    | true =>
      cases hc2 : (x.f1 == y.f1) with
      | false => exact Ends.pos (by simp) ((Ends.ret _).congr (by simp))
      | true => exact Ends.neg (by simp) ((ih (i + 1) (by omega) (by omega)).congr (by simp))
theorem equal_ends (a b : List S50) (ha : a.length ≤ 1000000) : Ends (fun k => slices_Equal_api_Span_api_Span.f k a b) (sameL a b) := by
  unfold slices_Equal_api_Span_api_Span.f
  by_cases h : a.length = b.length
  · exact Ends.pos (by omega) (equal_l0 a b h ha _ 0 rfl (by omega))
  · exact Ends.neg (by omega) ((Ends.ret _).congr (sameL_len a b h).symm)
def overOf (l : List S50) (c : Int) : Int := if 0 < l.length then (if (rd_T50 l ((l.length - 1 : Nat) : Int)).f1 > c then 1 else 0) else 0
def oneOf (c : Int) (g : List S50) : Int := if c < 0 ∨ c > 17179869184 then 1 else if check04 g = 0 then (if sameL (joinOf g) g = true then overOf (joinOf g) c else 9) else check04 g
theorem one_j (c : Int) (g : List S50) (r : Int) (b : Bool) (hb : b = decide (c < 0 ∨ c > 17179869184)) : Ends (fun k => sheet_one.j0 k b c g r) (oneOf c g) := by
  refine Ends.succ ?_
  simp only [sheet_one.j0]
  unfold oneOf
  by_cases h : c < 0 ∨ c > 17179869184
  · exact (Ends.pos (by rw [hb]; simpa using h) (Ends.ret _)).congr (by rw [if_pos h])
  · rw [if_neg h]
    refine Ends.neg (by rw [hb]; simpa using h) (Ends.bind (norm_ends g) ?_)
    by_cases h0 : check04 g = 0
    · obtain ⟨g0, v0⟩ := good04 h0
      have n0 := joinOf_len g (-1) (fun s hs => by have := v0 s hs; omega)
      rw [norm_fits h0, if_pos h0]
      refine Ends.pos rfl (Ends.bind (equal_ends (joinOf g) g (by omega)) ?_)
      cases hs : sameL (joinOf g) g with
      | false => exact (Ends.neg (by simp) (Ends.ret _)).congr (by simp)
      | true =>
        refine Ends.pos rfl ?_
        rw [if_pos rfl]
        unfold overOf
        by_cases hl : 0 < (joinOf g).length
        · rw [if_pos hl]
          simp only [wrap_pred (joinOf g).length (by omega) (by omega)]
          refine Ends.pos (by omega) (Ends.pos (by omega) (Ends.pos (by omega) ?_))
          by_cases ho : (rd_T50 (joinOf g) (((joinOf g).length - 1 : Nat) : Int)).f1 > c
          · exact (Ends.pos ho (Ends.ret _)).congr (by rw [if_pos ho])
          · exact (Ends.neg ho (Ends.ret _)).congr (by rw [if_neg ho])
        · exact (Ends.neg (show ¬ ((joinOf g).length : Int) > 0 by omega) (Ends.ret _)).congr (by rw [if_neg hl])
    · have e : bothOf g [] 0 = ([], check04 g) := by unfold bothOf; rw [if_neg h0]
      rw [e, if_neg h0]
      exact Ends.neg h0 (Ends.ret _)
theorem one_ends (c : Int) (g : List S50) (r : Int) : Ends (fun k => sheet_one.f k c g r) (oneOf c g) := by
  unfold sheet_one.f
  by_cases h : c < 0
  · exact Ends.pos h (one_j c g r true (by simp [h]))
  · exact Ends.neg h (one_j c g r _ (by simp [h]))
def goodOf (c : Int) (g : List S50) : Int × Int := if oneOf c g = 0 then totalOf g else (0, oneOf c g)
theorem good_ends (c : Int) (g : List S50) (r : Int) : Ends (fun k => sheet_Good.f k c g r) (goodOf c g) := by
  unfold sheet_Good.f goodOf
  refine Ends.bind (one_ends c g r) ?_
  by_cases h : oneOf c g = 0
  · rw [if_pos h]
    exact Ends.pos h (Ends.bind (total_ends g) (Ends.ret _))
  · rw [if_neg h]
    exact Ends.neg h (Ends.ret _)
theorem one_zero {c : Int} {g : List S50} (h : oneOf c g = 0) : 0 ≤ c ∧ c ≤ 17179869184 ∧ check04 g = 0 ∧ joinOf g = g ∧ overOf g c = 0 := by
  unfold oneOf at h
  split at h
  · omega
  · split at h
    · rename_i h1 h2
      split at h
      · rename_i h3
        have e := (sameL_iff _ _).1 h3
        rw [e] at h
        exact ⟨by omega, by omega, h2, e, h⟩
      · omega
    · rename_i h1 h2
      exact absurd h h2
def firstOne : List S25 → Int
  | [] => 0
  | s :: r => if oneOf s.f0 s.f1 = 0 then firstOne r else oneOf s.f0 s.f1
def foldT : Int → List S50 → List S25 → Int × List S50 × Int × Int
  | c, g, [] => (c, g, 0, 0)
  | c, g, s :: r => if (bothOf g s.f1 1).2 = 0 then foldT (mn c s.f0) (bothOf g s.f1 1).1 r else (0, [], 0, (bothOf g s.f1 1).2)
def togOf (l : List S25) : Int × List S50 × Int × Int := if l.length = 0 then (0, [], 0, 10) else if l.length > 16 then (0, [], 0, 8) else if firstOne l = 0 then foldT (rd_T25 l 0).f0 (rd_T25 l 0).f1 (l.drop 1) else (0, [], 0, firstOne l)
theorem rd25 (l : List S25) (i : Nat) (h : i < l.length) : rd_T25 l i = l[i] := by simp [rd_T25, List.getD_eq_getElem?_getD, List.getElem?_eq_getElem h]
theorem drop25 (l : List S25) (i : Nat) (h : i < l.length) : l.drop i = rd_T25 l i :: l.drop (i + 1) := by rw [rd25 l i h]; exact List.drop_eq_getElem_cons h
theorem tog_l1 (l : List S25) (hl : l.length ≤ 16) : ∀ (d i : Nat) (c : Int) (g : List S50), l.length - 1 - i = d → i + 1 ≤ l.length → Ends (fun k => sheet_Together.l1 k l (wrap64 ((l.length : Int) - 1)) (i : Int) c g 0) (foldT c g (l.drop (i + 1))) := by
  intro d
  induction d with
  | zero =>
    intro i c g hd hi
    refine Ends.succ ?_
    simp only [sheet_Together.l1, wrap_pred l.length (by omega) (by omega)]
    rw [List.drop_of_length_le (by omega)]
    exact Ends.neg (by omega) (Ends.ret _)
  | succ d ih =>
    intro i c g hd hi
    refine Ends.succ ?_
    simp only [sheet_Together.l1, wrap_nat i (by omega)]
    rw [drop25 l (i + 1) (by omega)]
    refine Ends.pos (by rw [wrap_pred l.length (by omega) (by omega)]; omega) (Ends.pos (by omega) (Ends.pos (by omega) (Ends.bind (common_ends g _) ?_)))
    rw [foldT]
    by_cases h : (bothOf g (rd_T25 l ((i + 1 : Nat) : Int)).f1 1).2 = 0
    · rw [if_pos h]
      exact Ends.pos h (ih (i + 1) _ _ (by omega) (by omega))
    · rw [if_neg h]
      exact Ends.neg h (Ends.ret _)
theorem tog_l0 (l : List S25) (hl : l.length ≤ 16) (h0 : 0 < l.length) : ∀ (d i : Nat), l.length - i = d → i ≤ l.length → (∀ s ∈ l.take i, oneOf s.f0 s.f1 = 0) → Ends (fun k => sheet_Together.l0 k l (l.length : Int) (i : Int)) (if firstOne (l.drop i) = 0 then foldT (rd_T25 l 0).f0 (rd_T25 l 0).f1 (l.drop 1) else (0, [], 0, firstOne (l.drop i))) := by
  intro d
  induction d with
  | zero =>
    intro i hd hi hp
    refine Ends.succ ?_
    simp only [sheet_Together.l0]
    have hz := hp (rd_T25 l 0) (by rw [List.take_of_length_le (by omega), show (0 : Int) = ((0 : Nat) : Int) from rfl, rd25 l 0 h0]; exact List.getElem_mem _)
    obtain ⟨_, _, hc, _, _⟩ := one_zero hz
    obtain ⟨g0, _⟩ := good04 hc
    have e : slices_Clone_api_Span_api_Span.f (rd_T25 l 0).f1 = some (rd_T25 l 0).f1 := by unfold slices_Clone_api_Span_api_Span.f; rw [if_pos (by omega)]
    simp only [e, Option.bind_some]
    rw [List.drop_of_length_le (by omega), firstOne, if_pos rfl]
    exact Ends.neg (by omega) (Ends.pos (by omega) (tog_l1 l hl _ 0 _ _ rfl (by omega)))
  | succ d ih =>
    intro i hd hi hp
    refine Ends.succ ?_
    simp only [sheet_Together.l0, wrap_nat i (by omega)]
    rw [drop25 l i (by omega), firstOne]
    refine Ends.pos (by omega) (Ends.pos (by omega) (Ends.pos (by omega) (Ends.bind (one_ends _ _ _) ?_)))
    by_cases h : oneOf (rd_T25 l (i : Int)).f0 (rd_T25 l (i : Int)).f1 = 0
    · rw [if_pos h]
      refine Ends.pos h (ih (i + 1) (by omega) (by omega) (fun s hs => ?_))
      rw [List.take_succ_eq_append_getElem (by omega)] at hs
      rcases List.mem_append.1 hs with hs | hs
      · exact hp s hs
      · obtain rfl := List.mem_singleton.1 hs
        rw [← rd25 l i (by omega)]; exact h
    · rw [if_neg h, if_neg h]
      exact Ends.neg h (Ends.ret _)
theorem tog_ends (l : List S25) : Ends (fun k => sheet_Together.f k l) (togOf l) := by
  unfold sheet_Together.f togOf
  by_cases h : l.length = 0
  · rw [if_pos h]; exact Ends.pos (by omega) (Ends.ret _)
  · rw [if_neg h]
    refine Ends.neg (by omega) ?_
    by_cases h2 : l.length > 16
    · rw [if_pos h2]; exact Ends.pos (by omega) (Ends.ret _)
    · rw [if_neg h2]
      exact Ends.neg (by omega) (tog_l0 l (by omega) (by omega) _ 0 rfl (by omega) (by simp))
end Go.Proofs.Ytnfcpcgbdoiiiaa.G

namespace Go.Proofs.Ytnfcpcgbdoiiiaa.G
open Go.RowKit Go.Proofs.YtnfcpcgbdoiiiaaW.PrintWords Go.Proofs.YtnfcpcgbdoiiiaaW.PrintLast Go.Proofs.YtnfcpcgbdoiiiaaW.PrintMore
set_option linter.unusedVariables false
set_option linter.unusedSimpArgs false
def touch (n z : Int) (s : S50) : List S50 := if mx s.f0 (n % z) < mn s.f1 n then [⟨n / z - 1 - (mn s.f1 n - 1 - n % z) / z, n / z - 1 - (mx s.f0 (n % z) - n % z) / z + 1⟩] else []
def touched (n z : Int) (l : List S50) : List S50 := l.flatMap (touch n z)
def cutEnd (n z : Int) (t : List S50) : Int × List S50 × Int × Int := if (bothOf [⟨0, n / z⟩] t 2).2 = 0 then (n / z, (bothOf [⟨0, n / z⟩] t 2).1, n % z, 0) else (0, [], 0, (bothOf [⟨0, n / z⟩] t 2).2)
def cutOf (n z : Int) (l : List S50) : Int × List S50 × Int × Int := if rightB n z = true then (if check04 l = 0 then cutEnd n z (touched n z l) else (0, [], 0, check04 l)) else (0, [], 0, 1)
theorem touch_len (n z : Int) (s : S50) : (touch n z s).length ≤ 1 := by unfold touch; split <;> simp
theorem touched_len (n z : Int) : ∀ (l : List S50), (touched n z l).length ≤ l.length
  | [] => by simp [touched]
  | s :: l => by
    have h1 := touched_len n z l
    have h2 := touch_len n z s
    simp only [touched, List.flatMap_cons, List.length_append, List.length_cons] at h1 ⊢
    omega
theorem cut_l0 (n z : Int) (h0 : 0 ≤ n) (h1 : n ≤ 17179869184) (h2 : 1 ≤ z) (h3 : z ≤ 17179869184) (l : List S50) (hl : l.length ≤ 256) (hv : ∀ s ∈ l, 0 ≤ s.f0 ∧ s.f0 ≤ s.f1 ∧ s.f1 ≤ 17179869184) : ∀ (d i : Nat) (o : List S50), l.length - i = d → i ≤ l.length → o.length ≤ i → Ends (fun k => sheet_Cut.l0 k n z (n / z) (n % z) o l (l.length : Int) (i : Int)) (cutEnd n z (o ++ touched n z (l.drop i))) := by
  have hq := div_le_self' n z h0 h2
  have hr0 := Int.emod_nonneg n (show z ≠ 0 by omega)
  have hr1 := Int.emod_lt_of_pos n (show 0 < z by omega)
  intro d
  induction d with
  | zero =>
    intro i o hd hi ho
    refine Ends.succ ?_
    simp only [sheet_Cut.l0]
    refine Ends.neg (by omega) (Ends.bind (minus_ends _ o) ?_)
    rw [List.drop_of_length_le (by omega), show touched n z [] = [] from rfl, List.append_nil]
    by_cases h : (bothOf [⟨0, n / z⟩] o 2).2 = 0
    · exact (Ends.pos h (Ends.ret _)).congr (by unfold cutEnd; rw [if_pos h])
    · exact (Ends.neg h (Ends.ret _)).congr (by unfold cutEnd; rw [if_neg h])
  | succ d ih =>
    intro i o hd hi ho
    refine Ends.succ ?_
    have hx := hv (rd_T50 l (i : Int)) (by rw [rd36 l i (by omega)]; exact List.getElem_mem _)
    rw [drop36 l i (by omega)]
    simp only [sheet_Cut.l0, wrap_nat i (by omega)]
    generalize rd_T50 l (i : Int) = s at *
    refine Ends.pos (by omega) (Ends.pos (by omega) (Ends.pos (by omega) ?_))
    have ef : touched n z (s :: l.drop (i + 1)) = touch n z s ++ touched n z (l.drop (i + 1)) := rfl
    rw [ef]
    by_cases h : mx s.f0 (n % z) < mn s.f1 n
    · have et : touch n z s = [⟨n / z - 1 - (mn s.f1 n - 1 - n % z) / z, n / z - 1 - (mx s.f0 (n % z) - n % z) / z + 1⟩] := by unfold touch; rw [if_pos h]
      rw [et]
      have b1 : n % z ≤ mx s.f0 (n % z) ∧ 0 ≤ mx s.f0 (n % z) := by unfold mx; split <;> omega
      have b2 : mn s.f1 n ≤ 17179869184 := by unfold mn; split <;> omega
      generalize mx s.f0 (n % z) = a at *
      generalize mn s.f1 n = b at *
      have w1 : wrap64 (n / z - 1) = n / z - 1 := by unfold wrap64; omega
      have w2 : wrap64 (b - 1) = b - 1 := by unfold wrap64; omega
      have w3 : wrap64 (b - 1 - n % z) = b - 1 - n % z := by unfold wrap64; omega
      have w4 : wrap64 (a - n % z) = a - n % z := by unfold wrap64; omega
      have d1 := div_le_self' (b - 1 - n % z) z (by omega) h2
      have d2 := div_le_self' (a - n % z) z (by omega) h2
      have t1 : Int.tdiv (b - 1 - n % z) z = (b - 1 - n % z) / z := Int.tdiv_eq_ediv_of_nonneg (by omega)
      have t2 : Int.tdiv (a - n % z) z = (a - n % z) / z := Int.tdiv_eq_ediv_of_nonneg (by omega)
      simp only [w1, w2, w3, w4, t1, t2]
      generalize hD1 : (b - 1 - n % z) / z = D1 at *
      generalize hD2 : (a - n % z) / z = D2 at *
      have w5 : wrap64 D1 = D1 := by unfold wrap64; omega
      have w6 : wrap64 D2 = D2 := by unfold wrap64; omega
      have w7 : wrap64 (n / z - 1 - D1) = n / z - 1 - D1 := by unfold wrap64; omega
      have w8 : wrap64 (n / z - 1 - D2) = n / z - 1 - D2 := by unfold wrap64; omega
      have w9 : wrap64 (n / z - 1 - D2 + 1) = n / z - 1 - D2 + 1 := by unfold wrap64; omega
      simp only [w5, w6, w7, w8, w9]
      exact Ends.pos h (Ends.neg (by omega) (Ends.pos (by omega) ((ih (i + 1) _ (by omega) (by omega) (by simp; omega)).congr (by rw [List.append_assoc]))))
    · have et : touch n z s = [] := by unfold touch; rw [if_neg h]
      rw [et]
      exact Ends.neg h ((ih (i + 1) o (by omega) (by omega) (by omega)).congr (by simp))
theorem cut_ends (n z : Int) (l : List S50) : Ends (fun k => sheet_Cut.f k n z l) (cutOf n z l) := by
  unfold sheet_Cut.f cutOf
  simp only [right_f, Option.bind_some]
  by_cases hr : rightB n z = true
  · obtain ⟨h0, h1, h2, h3⟩ := (rightB_iff n z).1 hr
    have hq := div_le_self' n z h0 h2
    have e1 : Int.tdiv n z = n / z := Int.tdiv_eq_ediv_of_nonneg h0
    have e2 : Int.tmod n z = n % z := Int.tmod_eq_emod_of_nonneg h0
    have e3 : wrap64 (n / z) = n / z := by unfold wrap64; omega
    simp only [e1, e2, e3]
    refine (Ends.pos hr (Ends.bind (scheck_ends l) ?_)).congr (by rw [if_pos hr])
    by_cases hc : check04 l = 0
    · obtain ⟨g0, v0⟩ := good04 hc
      refine (Ends.pos hc (Ends.neg (by omega) (cut_l0 n z h0 h1 h2 h3 l g0 v0 _ 0 [] rfl (by omega) (by simp)))).congr (by rw [if_pos hc]; simp)
    · exact (Ends.neg hc (Ends.ret _)).congr (by rw [if_neg hc])
  · exact (Ends.neg hr (Ends.ret _)).congr (by rw [if_neg hr])
end Go.Proofs.Ytnfcpcgbdoiiiaa.G

namespace Go.Proofs.Ytnfcpcgbdoiiiaa.G
open Go.RowKit Go.Proofs.YtnfcpcgbdoiiiaaW.PrintWords Go.Proofs.YtnfcpcgbdoiiiaaW.PrintLast Go.Proofs.YtnfcpcgbdoiiiaaW.PrintMore
set_option linter.unusedVariables false
set_option linter.unusedSimpArgs false
theorem rspans_l0 (a b : List S50) (hl : a.length = b.length) (ha : a.length ≤ 1000000) : ∀ (d i : Nat), a.length - i = d → i ≤ a.length → Ends (fun k => papermillref52_Spans.l0 k a b (i : Int)) (sameL (a.drop i) (b.drop i)) := by
  intro d
  induction d with
  | zero =>
    intro i hd hi
    refine Ends.succ ?_
    simp only [papermillref52_Spans.l0]
    rw [List.drop_of_length_le (by omega), List.drop_of_length_le (by omega)]
    exact Ends.neg (by omega) (Ends.ret _)
  | succ d ih =>
    intro i hd hi
    refine Ends.succ ?_
    simp only [papermillref52_Spans.l0, wrap_nat i (by omega)]
    rw [drop36 a i (by omega), drop36 b i (by omega)]
    generalize rd_T50 a (i : Int) = x
    generalize rd_T50 b (i : Int) = y
    refine Ends.pos (by omega) (Ends.pos (by omega) (Ends.pos (by omega) ?_))
    rw [sameL]
    cases hc : (x.f0 == y.f0) with
    | false => exact Ends.pos (by simp) ((Ends.ret _).congr (by simp))
    | true =>
      cases hc2 : (x.f1 == y.f1) with
      | false => exact Ends.pos (by simp) ((Ends.ret _).congr (by simp))
      | true => exact Ends.neg (by simp) ((ih (i + 1) (by omega) (by omega)).congr (by simp))
theorem rspans_ends (a b : List S50) (ha : a.length ≤ 1000000) : Ends (fun k => papermillref52_Spans.f k a b) (sameL a b) := by
  unfold papermillref52_Spans.f
  by_cases h : a.length = b.length
  · exact Ends.pos (by omega) (rspans_l0 a b h ha _ 0 rfl (by omega))
  · exact Ends.neg (by omega) ((Ends.ret _).congr (sameL_len a b h).symm)
theorem rsame_ends (c : Int) (g : List S50) (r : Int) (hg : g.length ≤ 1000000) : Ends (fun k => papermillref52_Same.f k c g r c g r) true := by
  unfold papermillref52_Same.f
  exact Ends.pos rfl (Ends.pos rfl (Ends.bind ((rspans_ends g g hg).congr ((sameL_iff g g).2 rfl)) (Ends.ret _)))
end Go.Proofs.Ytnfcpcgbdoiiiaa.G

namespace Go.Proofs.Ytnfcpcgbdoiiiaa.G
open Go.RowKit Go.Proofs.YtnfcpcgbdoiiiaaW.PrintWords Go.Proofs.YtnfcpcgbdoiiiaaW.PrintLast Go.Proofs.YtnfcpcgbdoiiiaaW.PrintMore
attribute [local go_sem] max2_int min2_int max_two min_two max_three min_three max_four min_four   -- for this text's walks alone
set_option linter.unusedVariables false
set_option linter.unusedSimpArgs false

def papermilllaw52_awakeP.f (k : Nat)  : Option (Bool) := (sheet_Cut.f k 1000 300 (([(⟨650, 701⟩ : S50)] : List (S50)))).bind fun bt13004 => ((sheet_Sheet.f k 1000 300 100).bind fun bt13011 => ((sheet_Sheet.f k 1000 300 99).bind fun bt13013 => ((sheet_Place.f k 1000 300 1 0).bind fun bt13015 => ((sheet_Good.f k bt13004.1 bt13004.2.1 bt13004.2.2.1).bind fun bt13017 => ((sheet_Together.f k (([(⟨bt13004.1, bt13004.2.1, bt13004.2.2.1⟩ : S25), (⟨9, (([(⟨0, 9⟩ : S50)] : List (S50))), 4⟩ : S25)] : List (S25)))).bind fun bt13025 => (if bt13004.2.2.2 = 0 then (if bt13011.2 = 0 then (if bt13013.2 = 7 then (if bt13015.2 = 0 then (if bt13017.2 = 0 then (if bt13025.2.2.2 = 0 then ((papermillref52_Same.f k bt13004.1 bt13004.2.1 bt13004.2.2.1 3 (([(⟨2, 3⟩ : S50)] : List (S50))) 100).bind fun t13035 => (if t13035 = true then (if bt13011.1 = 2 then (if bt13015.1 = 699 then (if bt13017.1 = 1 then ((papermillref52_Same.f k bt13025.1 bt13025.2.1 bt13025.2.2.1 3 (([(⟨2, 3⟩ : S50)] : List (S50))) 0).bind fun t13039 => (some t13039)) else (some false)) else (some false)) else (some false)) else (some false))) else (some false)) else (some false)) else (some false)) else (some false)) else (some false)) else (some false)))))))
theorem papermilllaw52_awakeP.mono : ∀ k, LeO (papermilllaw52_awakeP.f k ) (papermilllaw52_awakeP.f (k + 1) ) := by
 intro  k
 unfold papermilllaw52_awakeP.f
 repeat' first
   | (with_reducible exact papermillref52_Same.mono _ _ _ _ _ _ _)
   | (with_reducible exact sheet_Cut.mono _ _ _ _)
   | (with_reducible exact sheet_Good.mono _ _ _ _)
   | (with_reducible exact sheet_Place.mono _ _ _ _ _)
   | (with_reducible exact sheet_Sheet.mono _ _ _ _)
   | (with_reducible exact sheet_Together.mono _ _)
   | (with_reducible exact LeO.refl _)
   | (with_reducible exact LeO.none _)
   | (with_reducible refine LeO.ite ?_ ?_)
   | (with_reducible refine LeO.bind ?_ (fun _ => ?_))
   | exact papermillref52_Same.mono _ _ _ _ _ _ _
   | exact sheet_Cut.mono _ _ _ _
   | exact sheet_Good.mono _ _ _ _
   | exact sheet_Place.mono _ _ _ _ _
   | exact sheet_Sheet.mono _ _ _ _
   | exact sheet_Together.mono _ _
   | exact LeO.none _
   | refine LeO.ite ?_ ?_
   | refine LeO.bind ?_ (fun _ => ?_)
set_option maxHeartbeats 8000000 in
set_option maxRecDepth 100000 in
theorem papermilllaw52_awakeP.calls (k : Nat)  (w : World) (h : papermilllaw52_awakeP.f k  = some true) :
  Calls Try.prog 12 #[] w fun e w' => e = .returned (.bool true) ∧ Below w.heap.size w w' := by
 have hu50 := Try.underlying50
 have hu25 := Try.underlying25
 have HB := Aside0.mk (Below.refl w.heap.size w)
 have H : ((sheet_Cut.f k 1000 300 (([(⟨650, 701⟩ : S50)] : List (S50)))).bind fun bt13004 => ((sheet_Sheet.f k 1000 300 100).bind fun bt13011 => ((sheet_Sheet.f k 1000 300 99).bind fun bt13013 => ((sheet_Place.f k 1000 300 1 0).bind fun bt13015 => ((sheet_Good.f k bt13004.1 bt13004.2.1 bt13004.2.2.1).bind fun bt13017 => ((sheet_Together.f k (([(⟨bt13004.1, bt13004.2.1, bt13004.2.2.1⟩ : S25), (⟨9, (([(⟨0, 9⟩ : S50)] : List (S50))), 4⟩ : S25)] : List (S25)))).bind fun bt13025 => (if bt13004.2.2.2 = 0 then (if bt13011.2 = 0 then (if bt13013.2 = 7 then (if bt13015.2 = 0 then (if bt13017.2 = 0 then (if bt13025.2.2.2 = 0 then ((papermillref52_Same.f k bt13004.1 bt13004.2.1 bt13004.2.2.1 3 (([(⟨2, 3⟩ : S50)] : List (S50))) 100).bind fun t13035 => (if t13035 = true then (if bt13011.1 = 2 then (if bt13015.1 = 699 then (if bt13017.1 = 1 then ((papermillref52_Same.f k bt13025.1 bt13025.2.1 bt13025.2.2.1 3 (([(⟨2, 3⟩ : S50)] : List (S50))) 0).bind fun t13039 => (some t13039)) else (some false)) else (some false)) else (some false)) else (some false))) else (some false)) else (some false)) else (some false)) else (some false)) else (some false)) else (some false)))))))) = some true := h
 clear h
 obtain ⟨y13001, hy13001⟩ : ∃ y_ : List (S50), y_ = (([(⟨650, 701⟩ : S50)] : List (S50))) := ⟨_, rfl⟩
 replace H : ((sheet_Cut.f k 1000 300 y13001).bind fun bt13004 => ((sheet_Sheet.f k 1000 300 100).bind fun bt13011 => ((sheet_Sheet.f k 1000 300 99).bind fun bt13013 => ((sheet_Place.f k 1000 300 1 0).bind fun bt13015 => ((sheet_Good.f k bt13004.1 bt13004.2.1 bt13004.2.2.1).bind fun bt13017 => ((sheet_Together.f k (([(⟨bt13004.1, bt13004.2.1, bt13004.2.2.1⟩ : S25), (⟨9, (([(⟨0, 9⟩ : S50)] : List (S50))), 4⟩ : S25)] : List (S25)))).bind fun bt13025 => (if bt13004.2.2.2 = 0 then (if bt13011.2 = 0 then (if bt13013.2 = 7 then (if bt13015.2 = 0 then (if bt13017.2 = 0 then (if bt13025.2.2.2 = 0 then ((papermillref52_Same.f k bt13004.1 bt13004.2.1 bt13004.2.2.1 3 (([(⟨2, 3⟩ : S50)] : List (S50))) 100).bind fun t13035 => (if t13035 = true then (if bt13011.1 = 2 then (if bt13015.1 = 699 then (if bt13017.1 = 1 then ((papermillref52_Same.f k bt13025.1 bt13025.2.1 bt13025.2.2.1 3 (([(⟨2, 3⟩ : S50)] : List (S50))) 0).bind fun t13039 => (some t13039)) else (some false)) else (some false)) else (some false)) else (some false))) else (some false)) else (some false)) else (some false)) else (some false)) else (some false)) else (some false)))))))) = some true := by first | (rw [hy13001]; with_reducible exact H) | (have H2_ := (Option.bind_some _ _).symm.trans H; rw [hy13001]; with_reducible exact H2_) | (have H2_ := (Option.bind_some _ _).symm.trans H; with_reducible exact H2_) | with_reducible exact H | (rw [hy13001]; exact H) | exact H
 have Ny13001 := Aside0.mk hy13001
 clear hy13001
 replace H := Option.bind_eq_some_iff.mp H
 obtain ⟨⟨t13004, t13005, t13008, t13009⟩, A10, H⟩ := H
 replace H : ((sheet_Sheet.f k 1000 300 100).bind fun bt13011 => ((sheet_Sheet.f k 1000 300 99).bind fun bt13013 => ((sheet_Place.f k 1000 300 1 0).bind fun bt13015 => ((sheet_Good.f k t13004 t13005 t13008).bind fun bt13017 => ((sheet_Together.f k (([(⟨t13004, t13005, t13008⟩ : S25), (⟨9, (([(⟨0, 9⟩ : S50)] : List (S50))), 4⟩ : S25)] : List (S25)))).bind fun bt13025 => (if t13009 = 0 then (if bt13011.2 = 0 then (if bt13013.2 = 7 then (if bt13015.2 = 0 then (if bt13017.2 = 0 then (if bt13025.2.2.2 = 0 then ((papermillref52_Same.f k t13004 t13005 t13008 3 (([(⟨2, 3⟩ : S50)] : List (S50))) 100).bind fun t13035 => (if t13035 = true then (if bt13011.1 = 2 then (if bt13015.1 = 699 then (if bt13017.1 = 1 then ((papermillref52_Same.f k bt13025.1 bt13025.2.1 bt13025.2.2.1 3 (([(⟨2, 3⟩ : S50)] : List (S50))) 0).bind fun t13039 => (some t13039)) else (some false)) else (some false)) else (some false)) else (some false))) else (some false)) else (some false)) else (some false)) else (some false)) else (some false)) else (some false))))))) = some true := H
 have A1 := Aside0.mk A10
 clear A10
 replace H := Option.bind_eq_some_iff.mp H
 obtain ⟨⟨t13011, t13012⟩, A20, H⟩ := H
 replace H : ((sheet_Sheet.f k 1000 300 99).bind fun bt13013 => ((sheet_Place.f k 1000 300 1 0).bind fun bt13015 => ((sheet_Good.f k t13004 t13005 t13008).bind fun bt13017 => ((sheet_Together.f k (([(⟨t13004, t13005, t13008⟩ : S25), (⟨9, (([(⟨0, 9⟩ : S50)] : List (S50))), 4⟩ : S25)] : List (S25)))).bind fun bt13025 => (if t13009 = 0 then (if t13012 = 0 then (if bt13013.2 = 7 then (if bt13015.2 = 0 then (if bt13017.2 = 0 then (if bt13025.2.2.2 = 0 then ((papermillref52_Same.f k t13004 t13005 t13008 3 (([(⟨2, 3⟩ : S50)] : List (S50))) 100).bind fun t13035 => (if t13035 = true then (if t13011 = 2 then (if bt13015.1 = 699 then (if bt13017.1 = 1 then ((papermillref52_Same.f k bt13025.1 bt13025.2.1 bt13025.2.2.1 3 (([(⟨2, 3⟩ : S50)] : List (S50))) 0).bind fun t13039 => (some t13039)) else (some false)) else (some false)) else (some false)) else (some false))) else (some false)) else (some false)) else (some false)) else (some false)) else (some false)) else (some false)))))) = some true := H
 have A2 := Aside0.mk A20
 clear A20
 replace H := Option.bind_eq_some_iff.mp H
 obtain ⟨⟨t13013, t13014⟩, A30, H⟩ := H
 replace H : ((sheet_Place.f k 1000 300 1 0).bind fun bt13015 => ((sheet_Good.f k t13004 t13005 t13008).bind fun bt13017 => ((sheet_Together.f k (([(⟨t13004, t13005, t13008⟩ : S25), (⟨9, (([(⟨0, 9⟩ : S50)] : List (S50))), 4⟩ : S25)] : List (S25)))).bind fun bt13025 => (if t13009 = 0 then (if t13012 = 0 then (if t13014 = 7 then (if bt13015.2 = 0 then (if bt13017.2 = 0 then (if bt13025.2.2.2 = 0 then ((papermillref52_Same.f k t13004 t13005 t13008 3 (([(⟨2, 3⟩ : S50)] : List (S50))) 100).bind fun t13035 => (if t13035 = true then (if t13011 = 2 then (if bt13015.1 = 699 then (if bt13017.1 = 1 then ((papermillref52_Same.f k bt13025.1 bt13025.2.1 bt13025.2.2.1 3 (([(⟨2, 3⟩ : S50)] : List (S50))) 0).bind fun t13039 => (some t13039)) else (some false)) else (some false)) else (some false)) else (some false))) else (some false)) else (some false)) else (some false)) else (some false)) else (some false)) else (some false))))) = some true := H
 have A3 := Aside0.mk A30
 clear A30
 replace H := Option.bind_eq_some_iff.mp H
 obtain ⟨⟨t13015, t13016⟩, A40, H⟩ := H
 replace H : ((sheet_Good.f k t13004 t13005 t13008).bind fun bt13017 => ((sheet_Together.f k (([(⟨t13004, t13005, t13008⟩ : S25), (⟨9, (([(⟨0, 9⟩ : S50)] : List (S50))), 4⟩ : S25)] : List (S25)))).bind fun bt13025 => (if t13009 = 0 then (if t13012 = 0 then (if t13014 = 7 then (if t13016 = 0 then (if bt13017.2 = 0 then (if bt13025.2.2.2 = 0 then ((papermillref52_Same.f k t13004 t13005 t13008 3 (([(⟨2, 3⟩ : S50)] : List (S50))) 100).bind fun t13035 => (if t13035 = true then (if t13011 = 2 then (if t13015 = 699 then (if bt13017.1 = 1 then ((papermillref52_Same.f k bt13025.1 bt13025.2.1 bt13025.2.2.1 3 (([(⟨2, 3⟩ : S50)] : List (S50))) 0).bind fun t13039 => (some t13039)) else (some false)) else (some false)) else (some false)) else (some false))) else (some false)) else (some false)) else (some false)) else (some false)) else (some false)) else (some false)))) = some true := H
 have A4 := Aside0.mk A40
 clear A40
 replace H := Option.bind_eq_some_iff.mp H
 obtain ⟨⟨t13017, t13018⟩, A50, H⟩ := H
 replace H : ((sheet_Together.f k (([(⟨t13004, t13005, t13008⟩ : S25), (⟨9, (([(⟨0, 9⟩ : S50)] : List (S50))), 4⟩ : S25)] : List (S25)))).bind fun bt13025 => (if t13009 = 0 then (if t13012 = 0 then (if t13014 = 7 then (if t13016 = 0 then (if t13018 = 0 then (if bt13025.2.2.2 = 0 then ((papermillref52_Same.f k t13004 t13005 t13008 3 (([(⟨2, 3⟩ : S50)] : List (S50))) 100).bind fun t13035 => (if t13035 = true then (if t13011 = 2 then (if t13015 = 699 then (if t13017 = 1 then ((papermillref52_Same.f k bt13025.1 bt13025.2.1 bt13025.2.2.1 3 (([(⟨2, 3⟩ : S50)] : List (S50))) 0).bind fun t13039 => (some t13039)) else (some false)) else (some false)) else (some false)) else (some false))) else (some false)) else (some false)) else (some false)) else (some false)) else (some false)) else (some false))) = some true := H
 have A5 := Aside0.mk A50
 clear A50
 obtain ⟨y13019, hy13019⟩ : ∃ y_ : List (S50), y_ = (([(⟨0, 9⟩ : S50)] : List (S50))) := ⟨_, rfl⟩
 replace H : ((sheet_Together.f k (([(⟨t13004, t13005, t13008⟩ : S25), (⟨9, y13019, 4⟩ : S25)] : List (S25)))).bind fun bt13025 => (if t13009 = 0 then (if t13012 = 0 then (if t13014 = 7 then (if t13016 = 0 then (if t13018 = 0 then (if bt13025.2.2.2 = 0 then ((papermillref52_Same.f k t13004 t13005 t13008 3 (([(⟨2, 3⟩ : S50)] : List (S50))) 100).bind fun t13035 => (if t13035 = true then (if t13011 = 2 then (if t13015 = 699 then (if t13017 = 1 then ((papermillref52_Same.f k bt13025.1 bt13025.2.1 bt13025.2.2.1 3 (([(⟨2, 3⟩ : S50)] : List (S50))) 0).bind fun t13039 => (some t13039)) else (some false)) else (some false)) else (some false)) else (some false))) else (some false)) else (some false)) else (some false)) else (some false)) else (some false)) else (some false))) = some true := by first | (rw [hy13019]; with_reducible exact H) | (have H2_ := (Option.bind_some _ _).symm.trans H; rw [hy13019]; with_reducible exact H2_) | (have H2_ := (Option.bind_some _ _).symm.trans H; with_reducible exact H2_) | with_reducible exact H | (rw [hy13019]; exact H) | exact H
 have Ny13019 := Aside0.mk hy13019
 clear hy13019
 obtain ⟨y13022, hy13022⟩ : ∃ y_ : List (S25), y_ = (([(⟨t13004, t13005, t13008⟩ : S25), (⟨9, y13019, 4⟩ : S25)] : List (S25))) := ⟨_, rfl⟩
 replace H : ((sheet_Together.f k y13022).bind fun bt13025 => (if t13009 = 0 then (if t13012 = 0 then (if t13014 = 7 then (if t13016 = 0 then (if t13018 = 0 then (if bt13025.2.2.2 = 0 then ((papermillref52_Same.f k t13004 t13005 t13008 3 (([(⟨2, 3⟩ : S50)] : List (S50))) 100).bind fun t13035 => (if t13035 = true then (if t13011 = 2 then (if t13015 = 699 then (if t13017 = 1 then ((papermillref52_Same.f k bt13025.1 bt13025.2.1 bt13025.2.2.1 3 (([(⟨2, 3⟩ : S50)] : List (S50))) 0).bind fun t13039 => (some t13039)) else (some false)) else (some false)) else (some false)) else (some false))) else (some false)) else (some false)) else (some false)) else (some false)) else (some false)) else (some false))) = some true := by first | (rw [hy13022]; with_reducible exact H) | (have H2_ := (Option.bind_some _ _).symm.trans H; rw [hy13022]; with_reducible exact H2_) | (have H2_ := (Option.bind_some _ _).symm.trans H; with_reducible exact H2_) | with_reducible exact H | (rw [hy13022]; exact H) | exact H
 have Ny13022 := Aside0.mk hy13022
 clear hy13022
 replace H := Option.bind_eq_some_iff.mp H
 obtain ⟨⟨t13025, t13026, t13029, t13030⟩, A60, H⟩ := H
 replace H : (if t13009 = 0 then (if t13012 = 0 then (if t13014 = 7 then (if t13016 = 0 then (if t13018 = 0 then (if t13030 = 0 then ((papermillref52_Same.f k t13004 t13005 t13008 3 (([(⟨2, 3⟩ : S50)] : List (S50))) 100).bind fun t13035 => (if t13035 = true then (if t13011 = 2 then (if t13015 = 699 then (if t13017 = 1 then ((papermillref52_Same.f k t13025 t13026 t13029 3 (([(⟨2, 3⟩ : S50)] : List (S50))) 0).bind fun t13039 => (some t13039)) else (some false)) else (some false)) else (some false)) else (some false))) else (some false)) else (some false)) else (some false)) else (some false)) else (some false)) else (some false)) = some true := H
 have A6 := Aside0.mk A60
 clear A60
 by_cases c7 : t13009 = 0
 ·rw [if_pos c7] at H
  have c7b0 : (t13009 == 0) = true := beq_iff_eq.mpr c7
  have c7b1 : (t13009 != 0) = false := bne_eq_false_iff_eq.mpr c7
  clear c7
  by_cases c8 : t13012 = 0
  ·rw [if_pos c8] at H
   have c8b0 : (t13012 == 0) = true := beq_iff_eq.mpr c8
   have c8b1 : (t13012 != 0) = false := bne_eq_false_iff_eq.mpr c8
   clear c8
   by_cases c9 : t13014 = 7
   ·rw [if_pos c9] at H
    have c9b0 : (t13014 == 7) = true := beq_iff_eq.mpr c9
    have c9b1 : (t13014 != 7) = false := bne_eq_false_iff_eq.mpr c9
    clear c9
    by_cases c10 : t13016 = 0
    ·rw [if_pos c10] at H
     have c10b0 : (t13016 == 0) = true := beq_iff_eq.mpr c10
     have c10b1 : (t13016 != 0) = false := bne_eq_false_iff_eq.mpr c10
     clear c10
     by_cases c11 : t13018 = 0
     ·rw [if_pos c11] at H
      have c11b0 : (t13018 == 0) = true := beq_iff_eq.mpr c11
      have c11b1 : (t13018 != 0) = false := bne_eq_false_iff_eq.mpr c11
      clear c11
      by_cases c12 : t13030 = 0
      ·rw [if_pos c12] at H
       have c12b0 : (t13030 == 0) = true := beq_iff_eq.mpr c12
       have c12b1 : (t13030 != 0) = false := bne_eq_false_iff_eq.mpr c12
       clear c12
       obtain ⟨y13032, hy13032⟩ : ∃ y_ : List (S50), y_ = (([(⟨2, 3⟩ : S50)] : List (S50))) := ⟨_, rfl⟩
       replace H : ((papermillref52_Same.f k t13004 t13005 t13008 3 y13032 100).bind fun t13035 => (if t13035 = true then (if t13011 = 2 then (if t13015 = 699 then (if t13017 = 1 then ((papermillref52_Same.f k t13025 t13026 t13029 3 (([(⟨2, 3⟩ : S50)] : List (S50))) 0).bind fun t13039 => (some t13039)) else (some false)) else (some false)) else (some false)) else (some false))) = some true := by first | (rw [hy13032]; with_reducible exact H) | (have H2_ := (Option.bind_some _ _).symm.trans H; rw [hy13032]; with_reducible exact H2_) | (have H2_ := (Option.bind_some _ _).symm.trans H; with_reducible exact H2_) | with_reducible exact H | (rw [hy13032]; exact H) | exact H
       have Ny13032 := Aside0.mk hy13032
       clear hy13032
       replace H := Option.bind_eq_some_iff.mp H
       obtain ⟨t13035, A130, H⟩ := H
       replace H : (if t13035 = true then (if t13011 = 2 then (if t13015 = 699 then (if t13017 = 1 then ((papermillref52_Same.f k t13025 t13026 t13029 3 (([(⟨2, 3⟩ : S50)] : List (S50))) 0).bind fun t13039 => (some t13039)) else (some false)) else (some false)) else (some false)) else (some false)) = some true := H
       have A13 := Aside0.mk A130
       clear A130
       by_cases c14 : t13035 = true
       ·subst c14
        have H1 : (if t13011 = 2 then (if t13015 = 699 then (if t13017 = 1 then ((papermillref52_Same.f k t13025 t13026 t13029 3 (([(⟨2, 3⟩ : S50)] : List (S50))) 0).bind fun t13039 => (some t13039)) else (some false)) else (some false)) else (some false)) = some true := by rw [if_pos rfl] at H; exact H
        clear H
        have H := H1
        clear H1
        by_cases c15 : t13011 = 2
        ·rw [if_pos c15] at H
         have c15b0 : (t13011 == 2) = true := beq_iff_eq.mpr c15
         have c15b1 : (t13011 != 2) = false := bne_eq_false_iff_eq.mpr c15
         clear c15
         by_cases c16 : t13015 = 699
         ·rw [if_pos c16] at H
          have c16b0 : (t13015 == 699) = true := beq_iff_eq.mpr c16
          have c16b1 : (t13015 != 699) = false := bne_eq_false_iff_eq.mpr c16
          clear c16
          by_cases c17 : t13017 = 1
          ·rw [if_pos c17] at H
           have c17b0 : (t13017 == 1) = true := beq_iff_eq.mpr c17
           have c17b1 : (t13017 != 1) = false := bne_eq_false_iff_eq.mpr c17
           clear c17
           obtain ⟨y13036, hy13036⟩ : ∃ y_ : List (S50), y_ = (([(⟨2, 3⟩ : S50)] : List (S50))) := ⟨_, rfl⟩
           replace H : ((papermillref52_Same.f k t13025 t13026 t13029 3 y13036 0).bind fun t13039 => (some t13039)) = some true := by first | (rw [hy13036]; with_reducible exact H) | (have H2_ := (Option.bind_some _ _).symm.trans H; rw [hy13036]; with_reducible exact H2_) | (have H2_ := (Option.bind_some _ _).symm.trans H; with_reducible exact H2_) | with_reducible exact H | (rw [hy13036]; exact H) | exact H
           have Ny13036 := Aside0.mk hy13036
           clear hy13036
           replace H := Option.bind_eq_some_iff.mp H
           obtain ⟨t13039, A180, H⟩ := H
           replace H : (some t13039) = some true := H
           have A18 := Aside0.mk A180
           clear A180
           have hr_ := Aside0.mk (Option.some.inj H)
           clear H
           go_enter Try.func12, Try.ntmps12
           go_wp2_with (first | ((with_reducible refine gate_dst (N := 15) rfl ?_); (try (refine gate_guard (by rfl) ?_; dsimp only)); refine Kd.R_lit k50 _ 50 ?hg (N := 15) ?hd (xs := ([(⟨650, 701⟩ : S50)] : List (S50))) (inner := [.int .i64 650, .int .i64 701]) (ok := fun _ => True) (okp := fun _ => True) ?hr ?hp (fun _ hk => hk) trivial (Below.refl _ _) (Nat.le_refl _) (by simp) ?_; (case hd => rfl); (case hg => rfl); (case hr => first | (go_simp; done) | (go_simp; rfl)); (case hp => exact (Reps.c2 (show Kd.M k50 _ _ _ (⟨650, 701⟩ : S50) [.int .i64 650, .int .i64 701] from (k50_mkM _ _ _ (⟨650, 701⟩ : S50) )) (Reps.none _ _))); intro v13002 w19 ho20 hb hg_ hnew_; clear hg_ hnew_; (first | rw [← Ny13001.out] at ho20 | (simp only [Int.reduceToNat] at ho20; rw [← Ny13001.out] at ho20)); have n0_ := Aside0.mk (Kd.R_lower ho20 (below_size (by repeat (first | exact HB.out | apply below_alloc | apply pw_below_drewN | apply below_drew1)))); have n1_ := Aside0.mk (below_step (by repeat (first | exact HB.out | apply below_alloc | apply pw_below_drewN | apply below_drew1)) hb); clear HB; have HO13003 := n0_; have HB := n1_; clear n0_ n1_; clear hb ho20; obtain ⟨Ao21, co21, eo21⟩ := Kd.R_slice HO13003.out; subst eo21) | ((with_reducible refine gate_callee (f := 13) rfl ?_); refine goesL_ (some 16) rfl rfl Try.func13 (by kernel_rfl) rfl #[.int .i64 1000, .int .i64 300, .slice Ao21 y13001.length co21] rfl (by (try simp only [List.map_toArray, List.map_cons, List.map_nil]); first | done | rfl | (simp only [List.length_drop, List.length_take]; rfl)) ?_; (with_reducible refine (sheet_Cut.calls k 1000 300 _ _ y13001 t13004 t13005 t13008 t13009 _ ?side1 ?side2 A1.out).mono ?_); (case side1 => repeat (first | exact (Kd.R_reads' HO13003.out).2.2 | exact (Kd.R_reads' HO13007.out).2.2 | exact (Kd.R_reads' HO13021.out).2.2 | exact (Kd.R_reads' HO13024.out).2.2 | exact (Kd.R_reads' HO13028.out).2.2 | exact (Kd.R_reads' HO13034.out).2.2 | exact (Kd.R_reads' HO13038.out).2.2 | (with_reducible refine Kd.C_alloc ?_ _) | (with_reducible refine Kd.C_drewN ?_ _) | (with_reducible refine Kd.C_drew ?_))); (case side2 => first | exact (Kd.R_reads' HO13003.out).2.1 | exact (Kd.R_reads' HO13007.out).2.1 | exact (Kd.R_reads' HO13021.out).2.1 | exact (Kd.R_reads' HO13024.out).2.1 | exact (Kd.R_reads' HO13028.out).2.1 | exact (Kd.R_reads' HO13034.out).2.1 | exact (Kd.R_reads' HO13038.out).2.1); rintro e w22 ⟨v13006, rfl, ho0, hb⟩; refine ⟨_, rfl, ?_⟩; have n0_ := Aside0.mk (Kd.R_elder' (by exact HO13003.out) (Kd.R_base ho0) hb); have n1_ := Aside0.mk (Kd.R_lower (Kd.R_new' ho0 (Kd.R_lt (by exact HO13003.out))) (below_size (by repeat (first | exact HB.out | apply below_alloc | apply pw_below_drewN | apply below_drew1)))); have n2_ := Aside0.mk (below_step (by repeat (first | exact HB.out | apply below_alloc | apply pw_below_drewN | apply below_drew1)) hb); clear HO13003; clear HB; have HO13003 := n0_; have HO13007 := n1_; have HB := n2_; clear n0_ n1_ n2_; (try clear hb); (try clear hb2); (try clear hk); (try clear hi); (try clear ho0)) | ((with_reducible refine gate_dst (N := 1) rfl ?_); (try (refine gate_guard (by rfl) ?_; dsimp only)); refine box_event ?hg (N := 1) ?hd (cs := #[.int .i64 0, .slice none 0 0, .int .i64 0]) (t := 25) ?hr ?_; (case hd => rfl); (case hg => rfl); (case hr => first | (go_simp; done) | (go_simp; rfl)); intro gb13010 hg w23 hbox hb; have n0_ := Aside0.mk (Kd.R_below (by exact HO13003.out) hb); have n1_ := Aside0.mk (Kd.R_below (by exact HO13007.out) hb); have n2_ := Aside0.mk (below_step (by repeat (first | exact HB.out | apply below_alloc | apply pw_below_drewN | apply below_drew1)) hb); have n3_ := Aside0.mk (hbox); have n4_ := Aside0.mk ((by rw [hg]; exact (below_size (by repeat (first | exact HB.out | apply below_alloc | apply pw_below_drewN | apply below_drew1))) : w.heap.size ≤ gb13010)); have n5_ := Aside0.mk ((by rw [hg]; exact (below_size (by repeat (first | exact HB.out | apply below_alloc | apply pw_below_drewN | apply below_drew1))) : w.heap.size ≤ gb13010)); clear HO13003; clear HO13007; clear HB; have HO13003 := n0_; have HO13007 := n1_; have HB := n2_; have BK13010 := n3_; have GW13010 := n4_; have GE13010 := n5_; clear n0_ n1_ n2_ n3_ n4_ n5_; clear hb hbox hg; have hcz24_0 : w23.cell? ⟨gb13010, 0, none⟩ = some (.int .i64 0) := (blk_cell BK13010.out 0).trans rfl; have hcz24_1 : w23.cell? ⟨gb13010, 1, none⟩ = some (.slice none 0 0) := (blk_cell BK13010.out 1).trans rfl; have hcz24_2 : w23.cell? ⟨gb13010, 2, none⟩ = some (.int .i64 0) := (blk_cell BK13010.out 2).trans rfl; have hfz24_0 := blk_frozen BK13010.out 0; have hfz24_1 := blk_frozen BK13010.out 1; have hfz24_2 := blk_frozen BK13010.out 2; obtain ⟨Ao25, co25, eo25⟩ := Kd.R_slice HO13007.out; subst eo25) | ((with_reducible refine gate_callee (f := 16) rfl ?_); refine goesL_ (some 20) rfl rfl Try.func16 (by kernel_rfl) rfl #[.int .i64 1000, .int .i64 300, .int .i64 100] rfl (by (try simp only [List.map_toArray, List.map_cons, List.map_nil]); first | done | rfl | (simp only [List.length_drop, List.length_take]; rfl)) ?_; (with_reducible refine (sheet_Sheet.calls k 1000 300 100 t13011 t13012 _ A2.out).mono ?_); rintro e w' ⟨rfl, ⟨nd, rfl⟩⟩; refine ⟨_, rfl, ?_⟩) | ((with_reducible refine gate_callee (f := 16) rfl ?_); refine goesL_ (some 24) rfl rfl Try.func16 (by kernel_rfl) rfl #[.int .i64 1000, .int .i64 300, .int .i64 99] rfl (by (try simp only [List.map_toArray, List.map_cons, List.map_nil]); first | done | rfl | (simp only [List.length_drop, List.length_take]; rfl)) ?_; (with_reducible refine (sheet_Sheet.calls k 1000 300 99 t13013 t13014 _ A3.out).mono ?_); rintro e w' ⟨rfl, ⟨nd, rfl⟩⟩; refine ⟨_, rfl, ?_⟩) | ((with_reducible refine gate_callee (f := 18) rfl ?_); refine goesL_ (some 28) rfl rfl Try.func18 (by kernel_rfl) rfl #[.int .i64 1000, .int .i64 300, .int .i64 1, .int .i64 0] rfl (by (try simp only [List.map_toArray, List.map_cons, List.map_nil]); first | done | rfl | (simp only [List.length_drop, List.length_take]; rfl)) ?_; (with_reducible refine (sheet_Place.calls k 1000 300 1 0 t13015 t13016 _ A4.out).mono ?_); rintro e w' ⟨rfl, ⟨nd, rfl⟩⟩; refine ⟨_, rfl, ?_⟩) | ((with_reducible refine gate_callee (f := 23) rfl ?_); refine goesL_ (some 33) rfl rfl Try.func23 (by kernel_rfl) rfl #[.agg #[.int .i64 t13004, .slice Ao25 t13005.length co25, .int .i64 t13008]] rfl (by (try simp only [List.map_toArray, List.map_cons, List.map_nil]); first | done | rfl | (simp only [List.length_drop, List.length_take]; rfl)) ?_; (with_reducible refine (sheet_Good.calls k t13004 _ _ t13005 t13008 t13017 t13018 _ ?side1 ?side2 A5.out).mono ?_); (case side1 => refine (Kd.R_reads' (e := 50) (base := w.heap.size) (ok := fun k_ => (True ∧ some k_ ≠ (.slice Ao21 y13001.length co21 : Value).ownBlock)) (n := t13005.length) (c := co25) ?_).2.2; exact (by exact (Kd.R_mono (Kd.R_far (p := ⟨gb13010, 2, none⟩) (Kd.R_far (p := ⟨gb13010, 1, none⟩) (Kd.R_far (p := ⟨gb13010, 0, none⟩) (Kd.R_types HO13007.out BK13010.out (by decide)) (fun _ hk => hk.2) (.int .i64 t13004)) (fun _ hk => hk.2) (.slice Ao25 t13005.length co25)) (fun _ hk => hk.2) (.int .i64 t13008)) (fun _ h_ => h_.1)))); (case side2 => first | exact (Kd.R_reads' HO13007.out).2.1 | exact (Kd.R_reads' HO13003.out).2.1 | exact (Kd.R_reads' HO13021.out).2.1 | exact (Kd.R_reads' HO13024.out).2.1 | exact (Kd.R_reads' HO13028.out).2.1 | exact (Kd.R_reads' HO13034.out).2.1 | exact (Kd.R_reads' HO13038.out).2.1); rintro e w26 ⟨rfl, hb⟩; refine ⟨_, rfl, ?_⟩; have n0_ := Aside0.mk (Kd.R_below (by exact (Kd.R_mono (Kd.R_far (p := ⟨gb13010, 2, none⟩) (Kd.R_far (p := ⟨gb13010, 1, none⟩) (Kd.R_far (p := ⟨gb13010, 0, none⟩) (Kd.R_types HO13003.out BK13010.out (by decide)) (fun _ hk => hk.2) (.int .i64 t13004)) (fun _ hk => hk.2) (.slice Ao25 t13005.length co25)) (fun _ hk => hk.2) (.int .i64 t13008)) (fun _ h_ => h_.1))) hb); have n1_ := Aside0.mk (Kd.R_below (by exact (Kd.R_mono (Kd.R_far (p := ⟨gb13010, 2, none⟩) (Kd.R_far (p := ⟨gb13010, 1, none⟩) (Kd.R_far (p := ⟨gb13010, 0, none⟩) (Kd.R_types HO13007.out BK13010.out (by decide)) (fun _ hk => hk.2) (.int .i64 t13004)) (fun _ hk => hk.2) (.slice Ao25 t13005.length co25)) (fun _ hk => hk.2) (.int .i64 t13008)) (fun _ h_ => h_.1))) hb); have n2_ := Aside0.mk (blk_below (g := gb13010) (o := .cells #[.int .i64 t13004, .slice Ao25 t13005.length co25, .int .i64 t13008] 25 (0, 0)) (by refine blk_put (cs := #[.int .i64 t13004, .slice Ao25 t13005.length co25, .int .i64 0]) ?_ 2 _ rfl; refine blk_put (cs := #[.int .i64 t13004, .slice none 0 0, .int .i64 0]) ?_ 1 _ rfl; refine blk_put (cs := #[.int .i64 0, .slice none 0 0, .int .i64 0]) ?_ 0 _ rfl; exact BK13010.out) hb); have n3_ := Aside0.mk (below_step (by repeat (first | exact HB.out | apply below_alloc | apply pw_below_drewN | apply below_drew1 | refine below_set ?_ GE13010.out)) hb); clear HO13003; clear HO13007; clear BK13010; clear HB; have HO13003 := n0_; have HO13007 := n1_; have BK13010 := n2_; have HB := n3_; clear n0_ n1_ n2_ n3_; (try clear hb); (try clear hb2); (try clear hk); (try clear hi); have hcz27_0 : w26.cell? ⟨gb13010, 0, none⟩ = some (.int .i64 t13004) := (blk_cell BK13010.out 0).trans rfl; have hcz27_1 : w26.cell? ⟨gb13010, 1, none⟩ = some (.slice Ao25 t13005.length co25) := (blk_cell BK13010.out 1).trans rfl; have hcz27_2 : w26.cell? ⟨gb13010, 2, none⟩ = some (.int .i64 t13008) := (blk_cell BK13010.out 2).trans rfl; have hfz27_0 := blk_frozen BK13010.out 0; have hfz27_1 := blk_frozen BK13010.out 1; have hfz27_2 := blk_frozen BK13010.out 2) | ((with_reducible refine gate_dst (N := 39) rfl ?_); (try (refine gate_guard (by rfl) ?_; dsimp only)); refine Kd.R_lit k50 _ 50 ?hg (N := 39) ?hd (xs := ([(⟨0, 9⟩ : S50)] : List (S50))) (inner := [.int .i64 0, .int .i64 9]) (ok := fun _ => True) (okp := fun _ => True) ?hr ?hp (fun _ hk => hk) trivial (Below.refl _ _) (Nat.le_refl _) (by simp) ?_; (case hd => rfl); (case hg => rfl); (case hr => first | (go_simp; done) | (go_simp; rfl)); (case hp => exact (Reps.c2 (show Kd.M k50 _ _ _ (⟨0, 9⟩ : S50) [.int .i64 0, .int .i64 9] from (k50_mkM _ _ _ (⟨0, 9⟩ : S50) )) (Reps.none _ _))); intro v13020 w28 ho29 hb hg_ hnew_; clear hg_ hnew_; (first | rw [← Ny13019.out] at ho29 | (simp only [Int.reduceToNat] at ho29; rw [← Ny13019.out] at ho29)); have n0_ := Aside0.mk (Kd.R_elder' (by exact HO13003.out) (Kd.R_base ho29) hb); have n1_ := Aside0.mk (Kd.R_elder' (by exact HO13007.out) (Kd.R_base ho29) hb); have n2_ := Aside0.mk (Kd.R_lower (Kd.R_new' (Kd.R_new' ho29 (Kd.R_lt (by exact HO13003.out))) (Kd.R_lt (by exact HO13007.out))) (below_size (by repeat (first | exact HB.out | apply below_alloc | apply pw_below_drewN | apply below_drew1 | refine below_set ?_ GE13010.out)))); have n3_ := Aside0.mk (blk_below (g := gb13010) (o := .cells #[.int .i64 t13004, .slice Ao25 t13005.length co25, .int .i64 t13008] 25 (0, 0)) (by exact BK13010.out) hb); have n4_ := Aside0.mk (below_step (by repeat (first | exact HB.out | apply below_alloc | apply pw_below_drewN | apply below_drew1 | refine below_set ?_ GE13010.out)) hb); clear HO13003; clear HO13007; clear BK13010; clear HB; have HO13003 := n0_; have HO13007 := n1_; have HO13021 := n2_; have BK13010 := n3_; have HB := n4_; clear n0_ n1_ n2_ n3_ n4_; clear hb ho29; obtain ⟨Ao30, co30, eo30⟩ := Kd.R_slice HO13021.out; subst eo30) | ((with_reducible refine gate_dst (N := 41) rfl ?_); (try (refine gate_guard (by rfl) ?_; dsimp only)); refine Kd.N_lit k25 _ 25 ?hg (N' := 41) ?hd (xs := ([(⟨t13004, t13005, t13008⟩ : S25), (⟨9, y13019, 4⟩ : S25)] : List (S25))) (inner := [.int .i64 t13004, .slice Ao25 t13005.length co25, .int .i64 t13008, .int .i64 9, .slice Ao30 y13019.length co30, .int .i64 4]) (ok := (fun k_ => some k_ ≠ (.slice Ao21 y13001.length co21 : Value).ownBlock ∧ k_ ≠ gb13010)) (okp := (fun k_ => some k_ ≠ (.slice Ao21 y13001.length co21 : Value).ownBlock ∧ k_ ≠ gb13010)) ?hr ?hp (fun _ hk => hk) ((show ∀ k_, w28.heap.size ≤ k_ → (fun k_ => some k_ ≠ (.slice Ao21 y13001.length co21 : Value).ownBlock ∧ k_ ≠ gb13010) k_ from fun k_ hk => ⟨Kd.fresh' (Kd.R_lt (by exact HO13003.out)) k_ hk, Kd.freshB (g := gb13010) (o := .cells #[.int .i64 t13004, .slice Ao25 t13005.length co25, .int .i64 t13008] 25 (0, 0)) (by exact BK13010.out) k_ hk⟩) _ (Nat.le_refl _)) (Below.refl _ _) (Nat.le_refl _) (by simp) ?_; (case hd => rfl); (case hg => rfl); (case hr => first | (go_simp; done) | (go_simp; rfl)); (case hp => exact (Reps.c3 (show Kd.FK k25 _ _ (⟨t13004, t13005, t13008⟩ : S25) [.int .i64 t13004, .slice Ao25 t13005.length co25, .int .i64 t13008] from (k25_mkF _ _ (⟨t13004, t13005, t13008⟩ : S25) (Kd.R_reads' (Kd.R_mono (ok' := (fun k_ => some k_ ≠ (.slice Ao21 y13001.length co21 : Value).ownBlock ∧ k_ ≠ gb13010)) (Kd.R_types (HO13007.out) BK13010.out (by decide)) (fun k_ hk => ⟨hk.1.1.2, hk.2⟩))).2.1 (Kd.R_F (Kd.R_mono (ok' := (fun k_ => some k_ ≠ (.slice Ao21 y13001.length co21 : Value).ownBlock ∧ k_ ≠ gb13010)) (Kd.R_types (HO13007.out) BK13010.out (by decide)) (fun k_ hk => ⟨hk.1.1.2, hk.2⟩))))) (Reps.c3 (show Kd.FK k25 _ _ (⟨9, y13019, 4⟩ : S25) [.int .i64 9, .slice Ao30 y13019.length co30, .int .i64 4] from (k25_mkF _ _ (⟨9, y13019, 4⟩ : S25) (Kd.R_reads' (Kd.R_mono (ok' := (fun k_ => some k_ ≠ (.slice Ao21 y13001.length co21 : Value).ownBlock ∧ k_ ≠ gb13010)) (Kd.R_types (HO13021.out) BK13010.out (by decide)) (fun k_ hk => ⟨hk.1.1.2, hk.2⟩))).2.1 (Kd.R_F (Kd.R_mono (ok' := (fun k_ => some k_ ≠ (.slice Ao21 y13001.length co21 : Value).ownBlock ∧ k_ ≠ gb13010)) (Kd.R_types (HO13021.out) BK13010.out (by decide)) (fun k_ hk => ⟨hk.1.1.2, hk.2⟩))))) (Reps.none _ _)))); intro v13023 w31 ho32 hb hg_ hnew_; have RDa := Aside0.mk (Kd.C_below (by first | exact (Kd.R_reads' HO13007.out).2.2 | exact Kd.C_drewN (Kd.R_reads' HO13007.out).2.2 _ | exact Kd.C_alloc (Kd.R_reads' HO13007.out).2.2 _) hb); have RDb := Aside0.mk (Kd.R_reads' HO13007.out).2.1; have BW := Aside0.mk (Below.refl w31.heap.size w31); clear hg_ hnew_; (first | rw [← Ny13022.out] at ho32 | (simp only [Int.reduceToNat] at ho32; rw [← Ny13022.out] at ho32)); have n0_ := Aside0.mk (Kd.R_below (by exact HO13003.out) hb); have n1_ := Aside0.mk (Kd.N_lower ho32 (below_size (by repeat (first | exact HB.out | apply below_alloc | apply pw_below_drewN | apply below_drew1 | refine below_set ?_ GE13010.out)))); have n2_ := Aside0.mk (blk_below (g := gb13010) (o := .cells #[.int .i64 t13004, .slice Ao25 t13005.length co25, .int .i64 t13008] 25 (0, 0)) (by exact BK13010.out) hb); have n3_ := Aside0.mk (below_step (by repeat (first | exact HB.out | apply below_alloc | apply pw_below_drewN | apply below_drew1 | refine below_set ?_ GE13010.out)) hb); clear HO13003; clear BK13010; clear HB; clear HO13007; clear HO13021; have HO13003 := n0_; have HO13024 := n1_; have BK13010 := n2_; have HB := n3_; clear n0_ n1_ n2_ n3_; clear hb ho32; obtain ⟨Ao33, co33, eo33⟩ := Kd.N_slice HO13024.out; subst eo33) | ((with_reducible refine gate_callee (f := 21) rfl ?_); refine goesL_ (some 42) rfl rfl Try.func21 (by kernel_rfl) rfl #[.slice Ao33 y13022.length co33] rfl (by (try simp only [List.map_toArray, List.map_cons, List.map_nil]); first | done | rfl | (simp only [List.length_drop, List.length_take]; rfl)) ?_; (with_reducible refine (sheet_Together.calls k _ _ y13022 t13025 t13026 t13029 t13030 _ ?side1 ?side2 A6.out).mono ?_); (case side1 => repeat (first | exact (Kd.N_reads' HO13024.out).2.2 | (with_reducible refine Kd.C_alloc ?_ _) | (with_reducible refine Kd.C_drewN ?_ _) | (with_reducible refine Kd.C_drew ?_))); (case side2 => exact (Kd.N_reads' HO13024.out).2.1); rintro e w34 ⟨v13027, rfl, ho0, hb⟩; refine ⟨_, rfl, ?_⟩; have n0_ := Aside0.mk (Kd.R_elder' (by exact HO13003.out) (Kd.R_base ho0) hb); have n1_ := Aside0.mk (Kd.N_elder' (by (with_reducible repeat (first | apply Kd.N_alloc | apply Kd.N_drewN | apply Kd.N_drew)); exact HO13024.out) (Kd.R_base ho0) hb); have n2_ := Aside0.mk (Kd.R_lower (Kd.R_new' ho0 (Kd.R_lt (by exact HO13003.out))) (below_size (by repeat (first | exact HB.out | apply below_alloc | apply pw_below_drewN | apply below_drew1 | refine below_set ?_ GE13010.out)))); have n3_ := Aside0.mk (blk_below (g := gb13010) (o := .cells #[.int .i64 t13004, .slice Ao25 t13005.length co25, .int .i64 t13008] 25 (0, 0)) (by exact BK13010.out) hb); have n4_ := Aside0.mk (below_step (by repeat (first | exact HB.out | apply below_alloc | apply pw_below_drewN | apply below_drew1 | refine below_set ?_ GE13010.out)) hb); have mb_ := Aside0.mk (below_step (by repeat (first | (with_reducible first | exact BW.out | apply below_alloc | apply pw_below_drewN | apply below_drew1 | refine below_set ?_ GE13010.out) | exact BW.out)) hb); clear HO13003; clear HO13024; clear BK13010; clear BW; have BW := mb_; clear mb_; clear HB; have HO13003 := n0_; have HO13024 := n1_; have HO13028 := n2_; have BK13010 := n3_; have HB := n4_; clear n0_ n1_ n2_ n3_ n4_; (try clear hb); (try clear hb2); (try clear hk); (try clear hi); (try clear ho0)) | ((with_reducible refine gate_dst (N := 11) rfl ?_); (try (refine gate_guard (by rfl) ?_; dsimp only)); refine box_event ?hg (N := 11) ?hd (cs := #[.int .i64 0, .slice none 0 0, .int .i64 0]) (t := 25) ?hr ?_; (case hd => rfl); (case hg => rfl); (case hr => first | (go_simp; done) | (go_simp; rfl)); intro gb13031 hg w35 hbox hb; have n0_ := Aside0.mk (Kd.R_below (by exact HO13003.out) hb); have n1_ := Aside0.mk (Kd.N_below (Kd.N_elderB (by (with_reducible repeat (first | apply Kd.N_alloc | apply Kd.N_drewN | apply Kd.N_drew)); exact HO13024.out) gb13031 (Nat.le_of_eq hg.symm)) hb); have n2_ := Aside0.mk (Kd.R_below (by exact HO13028.out) hb); have n3_ := Aside0.mk (blk_below (g := gb13010) (o := .cells #[.int .i64 t13004, .slice Ao25 t13005.length co25, .int .i64 t13008] 25 (0, 0)) (by exact BK13010.out) hb); have n4_ := Aside0.mk (below_step (by repeat (first | exact HB.out | apply below_alloc | apply pw_below_drewN | apply below_drew1 | refine below_set ?_ GE13010.out)) hb); have mb_ := Aside0.mk (below_step (by repeat (first | (with_reducible first | exact BW.out | apply below_alloc | apply pw_below_drewN | apply below_drew1 | refine below_set ?_ GE13010.out) | exact BW.out)) hb); have n5_ := Aside0.mk (hbox); have n6_ := Aside0.mk ((by rw [hg]; exact (below_size (by repeat (first | exact HB.out | apply below_alloc | apply pw_below_drewN | apply below_drew1 | refine below_set ?_ GE13010.out))) : w.heap.size ≤ gb13031)); have GEW13031 := Aside0.mk ((by rw [hg]; exact (below_size (by repeat (first | (with_reducible first | exact BW.out | apply below_alloc | apply pw_below_drewN | apply below_drew1 | refine below_set ?_ GE13010.out) | exact BW.out))) : w31.heap.size ≤ gb13031)); have n7_ := Aside0.mk ((by rw [hg]; exact (below_size (by repeat (first | exact HB.out | apply below_alloc | apply pw_below_drewN | apply below_drew1 | refine below_set ?_ GE13010.out))) : w.heap.size ≤ gb13031)); have GEW13031 := Aside0.mk ((by rw [hg]; exact (below_size (by repeat (first | (with_reducible first | exact BW.out | apply below_alloc | apply pw_below_drewN | apply below_drew1 | refine below_set ?_ GE13010.out) | exact BW.out))) : w31.heap.size ≤ gb13031)); have n8_ := Aside0.mk ((by rw [hg]; exact Nat.ne_of_lt (blk_lt (g := gb13010) (o := .cells #[.int .i64 t13004, .slice Ao25 t13005.length co25, .int .i64 t13008] 25 (0, 0)) (by exact BK13010.out)) : gb13010 ≠ gb13031)); have n9_ := Aside0.mk ((by rw [hg]; exact Nat.ne_of_gt (blk_lt (g := gb13010) (o := .cells #[.int .i64 t13004, .slice Ao25 t13005.length co25, .int .i64 t13008] 25 (0, 0)) (by exact BK13010.out)) : gb13031 ≠ gb13010)); clear HO13003; clear HO13024; clear HO13028; clear BK13010; clear BW; have BW := mb_; clear mb_; clear HB; have HO13003 := n0_; have HO13024 := n1_; have HO13028 := n2_; have BK13010 := n3_; have HB := n4_; have BK13031 := n5_; have GW13031 := n6_; have GE13031 := n7_; have NB13010_13031 := n8_; have NB13031_13010 := n9_; clear n0_ n1_ n2_ n3_ n4_ n5_ n6_ n7_ n8_ n9_; clear hb hbox hg; have hnb36 := NB13031_13010.out; have hnc36 := NB13010_13031.out; have hcz37_0 : w35.cell? ⟨gb13031, 0, none⟩ = some (.int .i64 0) := (blk_cell BK13031.out 0).trans rfl; have hcz37_1 : w35.cell? ⟨gb13031, 1, none⟩ = some (.slice none 0 0) := (blk_cell BK13031.out 1).trans rfl; have hcz37_2 : w35.cell? ⟨gb13031, 2, none⟩ = some (.int .i64 0) := (blk_cell BK13031.out 2).trans rfl; have hfz37_0 := blk_frozen BK13031.out 0; have hfz37_1 := blk_frozen BK13031.out 1; have hfz37_2 := blk_frozen BK13031.out 2; obtain ⟨Ao38, co38, eo38⟩ := Kd.R_slice HO13028.out; subst eo38; have hcz39_0 : w35.cell? ⟨gb13010, 0, none⟩ = some (.int .i64 t13004) := (blk_cell BK13010.out 0).trans rfl; have hcz39_1 : w35.cell? ⟨gb13010, 1, none⟩ = some (.slice Ao25 t13005.length co25) := (blk_cell BK13010.out 1).trans rfl; have hcz39_2 : w35.cell? ⟨gb13010, 2, none⟩ = some (.int .i64 t13008) := (blk_cell BK13010.out 2).trans rfl; have hfz39_0 := blk_frozen BK13010.out 0; have hfz39_1 := blk_frozen BK13010.out 1; have hfz39_2 := blk_frozen BK13010.out 2) | ((with_reducible refine gate_dst (N := 70) rfl ?_); (try (refine gate_guard (by rfl) ?_; dsimp only)); refine Kd.R_lit k50 _ 50 ?hg (N := 70) ?hd (xs := ([(⟨2, 3⟩ : S50)] : List (S50))) (inner := [.int .i64 2, .int .i64 3]) (ok := fun _ => True) (okp := fun _ => True) ?hr ?hp (fun _ hk => hk) trivial (Below.refl _ _) (Nat.le_refl _) (by simp) ?_; (case hd => rfl); (case hg => rfl); (case hr => first | (go_simp; done) | (go_simp; rfl)); (case hp => exact (Reps.c2 (show Kd.M k50 _ _ _ (⟨2, 3⟩ : S50) [.int .i64 2, .int .i64 3] from (k50_mkM _ _ _ (⟨2, 3⟩ : S50) )) (Reps.none _ _))); intro v13033 w40 ho41 hb hg_ hnew_; clear hg_ hnew_; (first | rw [← Ny13032.out] at ho41 | (simp only [Int.reduceToNat] at ho41; rw [← Ny13032.out] at ho41)); have n0_ := Aside0.mk (Kd.R_elder' (by exact (Kd.R_mono (Kd.R_far (p := ⟨gb13031, 2, none⟩) (Kd.R_far (p := ⟨gb13031, 1, none⟩) (Kd.R_far (p := ⟨gb13031, 0, none⟩) (Kd.R_types HO13003.out BK13031.out (by decide)) (fun _ hk => hk.2) (.int .i64 t13025)) (fun _ hk => hk.2) (.slice Ao38 t13026.length co38)) (fun _ hk => hk.2) (.int .i64 t13029)) (fun _ h_ => h_.1))) (Kd.R_base ho41) hb); have n1_ := Aside0.mk (Kd.N_elder' (by (with_reducible repeat (first | apply Kd.N_alloc | apply Kd.N_drewN | apply Kd.N_drew)); exact (Kd.N_mono (Kd.N_far (p := ⟨gb13031, 2, none⟩) (Kd.N_far (p := ⟨gb13031, 1, none⟩) (Kd.N_far (p := ⟨gb13031, 0, none⟩) (Kd.N_mono HO13024.out (fun k_ hk => (⟨hk, hk.2⟩ : _ ∧ k_ ≠ gb13031))) (fun _ hk => hk.2) (.int .i64 t13025)) (fun _ hk => hk.2) (.slice Ao38 t13026.length co38)) (fun _ hk => hk.2) (.int .i64 t13029)) (fun _ h_ => h_.1))) (Kd.R_base ho41) hb); have n2_ := Aside0.mk (Kd.R_elder' (by exact (Kd.R_mono (Kd.R_far (p := ⟨gb13031, 2, none⟩) (Kd.R_far (p := ⟨gb13031, 1, none⟩) (Kd.R_far (p := ⟨gb13031, 0, none⟩) (Kd.R_types HO13028.out BK13031.out (by decide)) (fun _ hk => hk.2) (.int .i64 t13025)) (fun _ hk => hk.2) (.slice Ao38 t13026.length co38)) (fun _ hk => hk.2) (.int .i64 t13029)) (fun _ h_ => h_.1))) (Kd.R_base ho41) hb); have n3_ := Aside0.mk (Kd.R_lower (Kd.R_new' (Kd.R_new' ho41 (Kd.R_lt (by exact (Kd.R_mono (Kd.R_far (p := ⟨gb13031, 2, none⟩) (Kd.R_far (p := ⟨gb13031, 1, none⟩) (Kd.R_far (p := ⟨gb13031, 0, none⟩) (Kd.R_types HO13003.out BK13031.out (by decide)) (fun _ hk => hk.2) (.int .i64 t13025)) (fun _ hk => hk.2) (.slice Ao38 t13026.length co38)) (fun _ hk => hk.2) (.int .i64 t13029)) (fun _ h_ => h_.1))))) (Kd.R_lt (by exact (Kd.R_mono (Kd.R_far (p := ⟨gb13031, 2, none⟩) (Kd.R_far (p := ⟨gb13031, 1, none⟩) (Kd.R_far (p := ⟨gb13031, 0, none⟩) (Kd.R_types HO13028.out BK13031.out (by decide)) (fun _ hk => hk.2) (.int .i64 t13025)) (fun _ hk => hk.2) (.slice Ao38 t13026.length co38)) (fun _ hk => hk.2) (.int .i64 t13029)) (fun _ h_ => h_.1))))) (below_size (by repeat (first | exact HB.out | apply below_alloc | apply pw_below_drewN | apply below_drew1 | refine below_set ?_ GE13010.out | refine below_set ?_ GE13031.out)))); have n4_ := Aside0.mk (blk_below (g := gb13010) (o := .cells #[.int .i64 t13004, .slice Ao25 t13005.length co25, .int .i64 t13008] 25 (0, 0)) (by refine blk_far ?_ NB13010_13031.out _; refine blk_far ?_ NB13010_13031.out _; refine blk_far ?_ NB13010_13031.out _; exact BK13010.out) hb); have n5_ := Aside0.mk (blk_below (g := gb13031) (o := .cells #[.int .i64 t13025, .slice Ao38 t13026.length co38, .int .i64 t13029] 25 (0, 0)) (by refine blk_put (cs := #[.int .i64 t13025, .slice Ao38 t13026.length co38, .int .i64 0]) ?_ 2 _ rfl; refine blk_put (cs := #[.int .i64 t13025, .slice none 0 0, .int .i64 0]) ?_ 1 _ rfl; refine blk_put (cs := #[.int .i64 0, .slice none 0 0, .int .i64 0]) ?_ 0 _ rfl; exact BK13031.out) hb); have n6_ := Aside0.mk (below_step (by repeat (first | exact HB.out | apply below_alloc | apply pw_below_drewN | apply below_drew1 | refine below_set ?_ GE13010.out | refine below_set ?_ GE13031.out)) hb); have mb_ := Aside0.mk (below_step (by repeat (first | (with_reducible first | exact BW.out | apply below_alloc | apply pw_below_drewN | apply below_drew1 | refine below_set ?_ GEW13031.out) | exact BW.out)) hb); clear HO13003; clear HO13024; clear HO13028; clear BK13010; clear BK13031; clear BW; have BW := mb_; clear mb_; clear HB; have HO13003 := n0_; have HO13024 := n1_; have HO13028 := n2_; have HO13034 := n3_; have BK13010 := n4_; have BK13031 := n5_; have HB := n6_; clear n0_ n1_ n2_ n3_ n4_ n5_ n6_; clear hb ho41; obtain ⟨Ao42, co42, eo42⟩ := Kd.R_slice HO13034.out; subst eo42) | (go_at_call 15; (with_reducible refine (papermillref52_Same.calls k t13004 _ _ t13005 t13008 3 _ _ y13032 100 true _ ?side1 ?side2 ?side3 ?side4 A13.out).mono ?_); (case side1 => exact Kd.C_below RDa.out (by repeat (first | (with_reducible first | exact BW.out | apply below_alloc | apply pw_below_drewN | apply below_drew1) | exact BW.out))); (case side2 => exact RDb.out); (case side3 => repeat (first | exact (Kd.R_reads' HO13034.out).2.2 | exact (Kd.R_reads' HO13003.out).2.2 | exact (Kd.R_reads' HO13007.out).2.2 | exact (Kd.R_reads' HO13021.out).2.2 | exact (Kd.R_reads' HO13024.out).2.2 | exact (Kd.R_reads' HO13028.out).2.2 | exact (Kd.R_reads' HO13038.out).2.2 | (with_reducible refine Kd.C_alloc ?_ _) | (with_reducible refine Kd.C_drewN ?_ _) | (with_reducible refine Kd.C_drew ?_))); (case side4 => first | exact (Kd.R_reads' HO13034.out).2.1 | exact (Kd.R_reads' HO13003.out).2.1 | exact (Kd.R_reads' HO13007.out).2.1 | exact (Kd.R_reads' HO13021.out).2.1 | exact (Kd.R_reads' HO13024.out).2.1 | exact (Kd.R_reads' HO13028.out).2.1 | exact (Kd.R_reads' HO13038.out).2.1); rintro e w43 ⟨rfl, hb⟩; have n0_ := Aside0.mk (Kd.R_below (by exact HO13003.out) hb); have n1_ := Aside0.mk (Kd.N_below (by (with_reducible repeat (first | apply Kd.N_alloc | apply Kd.N_drewN | apply Kd.N_drew)); exact HO13024.out) hb); have n2_ := Aside0.mk (Kd.R_below (by exact HO13028.out) hb); have n3_ := Aside0.mk (Kd.R_below (by exact HO13034.out) hb); have n4_ := Aside0.mk (blk_below (g := gb13010) (o := .cells #[.int .i64 t13004, .slice Ao25 t13005.length co25, .int .i64 t13008] 25 (0, 0)) (by exact BK13010.out) hb); have n5_ := Aside0.mk (blk_below (g := gb13031) (o := .cells #[.int .i64 t13025, .slice Ao38 t13026.length co38, .int .i64 t13029] 25 (0, 0)) (by exact BK13031.out) hb); have n6_ := Aside0.mk (below_step (by repeat (first | exact HB.out | apply below_alloc | apply pw_below_drewN | apply below_drew1 | refine below_set ?_ GE13010.out | refine below_set ?_ GE13031.out)) hb); have mb_ := Aside0.mk (below_step (by repeat (first | (with_reducible first | exact BW.out | apply below_alloc | apply pw_below_drewN | apply below_drew1 | refine below_set ?_ GEW13031.out) | exact BW.out)) hb); clear HO13003; clear HO13024; clear HO13028; clear HO13034; clear BK13010; clear BK13031; clear BW; have BW := mb_; clear mb_; clear HB; have HO13003 := n0_; have HO13024 := n1_; have HO13028 := n2_; have HO13034 := n3_; have BK13010 := n4_; have BK13031 := n5_; have HB := n6_; clear n0_ n1_ n2_ n3_ n4_ n5_ n6_; (try clear hb); (try clear hb2); (try clear hk); (try clear hi); have hcz44_0 : w43.cell? ⟨gb13031, 0, none⟩ = some (.int .i64 t13025) := (blk_cell BK13031.out 0).trans rfl; have hcz44_1 : w43.cell? ⟨gb13031, 1, none⟩ = some (.slice Ao38 t13026.length co38) := (blk_cell BK13031.out 1).trans rfl; have hcz44_2 : w43.cell? ⟨gb13031, 2, none⟩ = some (.int .i64 t13029) := (blk_cell BK13031.out 2).trans rfl; have hfz44_0 := blk_frozen BK13031.out 0; have hfz44_1 := blk_frozen BK13031.out 1; have hfz44_2 := blk_frozen BK13031.out 2) | ((with_reducible refine gate_dst (N := 89) rfl ?_); (try (refine gate_guard (by rfl) ?_; dsimp only)); refine Kd.R_lit k50 _ 50 ?hg (N := 89) ?hd (xs := ([(⟨2, 3⟩ : S50)] : List (S50))) (inner := [.int .i64 2, .int .i64 3]) (ok := fun _ => True) (okp := fun _ => True) ?hr ?hp (fun _ hk => hk) trivial (Below.refl _ _) (Nat.le_refl _) (by simp) ?_; (case hd => rfl); (case hg => rfl); (case hr => first | (go_simp; done) | (go_simp; rfl)); (case hp => exact (Reps.c2 (show Kd.M k50 _ _ _ (⟨2, 3⟩ : S50) [.int .i64 2, .int .i64 3] from (k50_mkM _ _ _ (⟨2, 3⟩ : S50) )) (Reps.none _ _))); intro v13037 w45 ho46 hb hg_ hnew_; clear hg_ hnew_; (first | rw [← Ny13036.out] at ho46 | (simp only [Int.reduceToNat] at ho46; rw [← Ny13036.out] at ho46)); have n0_ := Aside0.mk (Kd.R_elder' (by exact HO13003.out) (Kd.R_base ho46) hb); have n1_ := Aside0.mk (Kd.N_elder' (by (with_reducible repeat (first | apply Kd.N_alloc | apply Kd.N_drewN | apply Kd.N_drew)); exact HO13024.out) (Kd.R_base ho46) hb); have n2_ := Aside0.mk (Kd.R_elder' (by exact HO13028.out) (Kd.R_base ho46) hb); have n3_ := Aside0.mk (Kd.R_elder' (by exact HO13034.out) (Kd.R_base ho46) hb); have n4_ := Aside0.mk (Kd.R_lower (Kd.R_new' (Kd.R_new' (Kd.R_new' ho46 (Kd.R_lt (by exact HO13003.out))) (Kd.R_lt (by exact HO13028.out))) (Kd.R_lt (by exact HO13034.out))) (below_size (by repeat (first | exact HB.out | apply below_alloc | apply pw_below_drewN | apply below_drew1 | refine below_set ?_ GE13010.out | refine below_set ?_ GE13031.out)))); have n5_ := Aside0.mk (blk_below (g := gb13010) (o := .cells #[.int .i64 t13004, .slice Ao25 t13005.length co25, .int .i64 t13008] 25 (0, 0)) (by exact BK13010.out) hb); have n6_ := Aside0.mk (blk_below (g := gb13031) (o := .cells #[.int .i64 t13025, .slice Ao38 t13026.length co38, .int .i64 t13029] 25 (0, 0)) (by exact BK13031.out) hb); have n7_ := Aside0.mk (below_step (by repeat (first | exact HB.out | apply below_alloc | apply pw_below_drewN | apply below_drew1 | refine below_set ?_ GE13010.out | refine below_set ?_ GE13031.out)) hb); have mb_ := Aside0.mk (below_step (by repeat (first | (with_reducible first | exact BW.out | apply below_alloc | apply pw_below_drewN | apply below_drew1 | refine below_set ?_ GEW13031.out) | exact BW.out)) hb); clear HO13003; clear HO13024; clear HO13028; clear HO13034; clear BK13010; clear BK13031; clear BW; have BW := mb_; clear mb_; clear HB; have HO13003 := n0_; have HO13024 := n1_; have HO13028 := n2_; have HO13034 := n3_; have HO13038 := n4_; have BK13010 := n5_; have BK13031 := n6_; have HB := n7_; clear n0_ n1_ n2_ n3_ n4_ n5_ n6_ n7_; clear hb ho46; obtain ⟨Ao47, co47, eo47⟩ := Kd.R_slice HO13038.out; subst eo47) | (go_at_call 15; (with_reducible refine (papermillref52_Same.calls k t13025 _ _ t13026 t13029 3 _ _ y13036 0 t13039 _ ?side1 ?side2 ?side3 ?side4 A18.out).mono ?_); (case side1 => repeat (first | exact (Kd.R_reads' HO13028.out).2.2 | exact (Kd.R_reads' HO13003.out).2.2 | exact (Kd.R_reads' HO13007.out).2.2 | exact (Kd.R_reads' HO13021.out).2.2 | exact (Kd.R_reads' HO13024.out).2.2 | exact (Kd.R_reads' HO13034.out).2.2 | exact (Kd.R_reads' HO13038.out).2.2 | (with_reducible refine Kd.C_alloc ?_ _) | (with_reducible refine Kd.C_drewN ?_ _) | (with_reducible refine Kd.C_drew ?_))); (case side2 => first | exact (Kd.R_reads' HO13028.out).2.1 | exact (Kd.R_reads' HO13003.out).2.1 | exact (Kd.R_reads' HO13007.out).2.1 | exact (Kd.R_reads' HO13021.out).2.1 | exact (Kd.R_reads' HO13024.out).2.1 | exact (Kd.R_reads' HO13034.out).2.1 | exact (Kd.R_reads' HO13038.out).2.1); (case side3 => repeat (first | exact (Kd.R_reads' HO13038.out).2.2 | exact (Kd.R_reads' HO13003.out).2.2 | exact (Kd.R_reads' HO13007.out).2.2 | exact (Kd.R_reads' HO13021.out).2.2 | exact (Kd.R_reads' HO13024.out).2.2 | exact (Kd.R_reads' HO13028.out).2.2 | exact (Kd.R_reads' HO13034.out).2.2 | (with_reducible refine Kd.C_alloc ?_ _) | (with_reducible refine Kd.C_drewN ?_ _) | (with_reducible refine Kd.C_drew ?_))); (case side4 => first | exact (Kd.R_reads' HO13038.out).2.1 | exact (Kd.R_reads' HO13003.out).2.1 | exact (Kd.R_reads' HO13007.out).2.1 | exact (Kd.R_reads' HO13021.out).2.1 | exact (Kd.R_reads' HO13024.out).2.1 | exact (Kd.R_reads' HO13028.out).2.1 | exact (Kd.R_reads' HO13034.out).2.1); rintro e w48 ⟨rfl, hb⟩; have n0_ := Aside0.mk (Kd.R_below (by exact HO13003.out) hb); have n1_ := Aside0.mk (Kd.N_below (by (with_reducible repeat (first | apply Kd.N_alloc | apply Kd.N_drewN | apply Kd.N_drew)); exact HO13024.out) hb); have n2_ := Aside0.mk (Kd.R_below (by exact HO13028.out) hb); have n3_ := Aside0.mk (Kd.R_below (by exact HO13034.out) hb); have n4_ := Aside0.mk (Kd.R_below (by exact HO13038.out) hb); have n5_ := Aside0.mk (blk_below (g := gb13010) (o := .cells #[.int .i64 t13004, .slice Ao25 t13005.length co25, .int .i64 t13008] 25 (0, 0)) (by exact BK13010.out) hb); have n6_ := Aside0.mk (blk_below (g := gb13031) (o := .cells #[.int .i64 t13025, .slice Ao38 t13026.length co38, .int .i64 t13029] 25 (0, 0)) (by exact BK13031.out) hb); have n7_ := Aside0.mk (below_step (by repeat (first | exact HB.out | apply below_alloc | apply pw_below_drewN | apply below_drew1 | refine below_set ?_ GE13010.out | refine below_set ?_ GE13031.out)) hb); have mb_ := Aside0.mk (below_step (by repeat (first | (with_reducible first | exact BW.out | apply below_alloc | apply pw_below_drewN | apply below_drew1 | refine below_set ?_ GEW13031.out) | exact BW.out)) hb); clear HO13003; clear HO13024; clear HO13028; clear HO13034; clear HO13038; clear BK13010; clear BK13031; clear BW; have BW := mb_; clear mb_; clear HB; have HO13003 := n0_; have HO13024 := n1_; have HO13028 := n2_; have HO13034 := n3_; have HO13038 := n4_; have BK13010 := n5_; have BK13031 := n6_; have HB := n7_; clear n0_ n1_ n2_ n3_ n4_ n5_ n6_ n7_; (try clear hb); (try clear hb2); (try clear hk); (try clear hi)))
           go_ret
           exact ⟨by rw [hr_.out] <;> first | rfl | (simp [errW_none, errW_some] <;> rfl) | (simp [*, errW_none, errW_some] <;> rfl), by repeat (first | exact HB.out | apply below_alloc | apply pw_below_drewN | apply below_drew1 | refine below_set ?_ GE13010.out | refine below_set ?_ GE13031.out)⟩
          ·rw [if_neg c17] at H
           have c17b0 : (t13017 == 1) = false := beq_eq_false_iff_ne.mpr c17
           have c17b1 : (t13017 != 1) = true := bne_iff_ne.mpr c17
           exact absurd H (by simp)
         ·rw [if_neg c16] at H
          have c16b0 : (t13015 == 699) = false := beq_eq_false_iff_ne.mpr c16
          have c16b1 : (t13015 != 699) = true := bne_iff_ne.mpr c16
          exact absurd H (by simp)
        ·rw [if_neg c15] at H
         have c15b0 : (t13011 == 2) = false := beq_eq_false_iff_ne.mpr c15
         have c15b1 : (t13011 != 2) = true := bne_iff_ne.mpr c15
         exact absurd H (by simp)
       ·replace c14 := Bool.eq_false_iff.mpr c14
        subst c14
        have H1 : (some false) = some true := by rw [if_neg (show ¬ (false = true) by decide)] at H; exact H
        clear H
        have H := H1
        clear H1
        exact absurd H (by simp)
      ·rw [if_neg c12] at H
       have c12b0 : (t13030 == 0) = false := beq_eq_false_iff_ne.mpr c12
       have c12b1 : (t13030 != 0) = true := bne_iff_ne.mpr c12
       exact absurd H (by simp)
     ·rw [if_neg c11] at H
      have c11b0 : (t13018 == 0) = false := beq_eq_false_iff_ne.mpr c11
      have c11b1 : (t13018 != 0) = true := bne_iff_ne.mpr c11
      exact absurd H (by simp)
    ·rw [if_neg c10] at H
     have c10b0 : (t13016 == 0) = false := beq_eq_false_iff_ne.mpr c10
     have c10b1 : (t13016 != 0) = true := bne_iff_ne.mpr c10
     exact absurd H (by simp)
   ·rw [if_neg c9] at H
    have c9b0 : (t13014 == 7) = false := beq_eq_false_iff_ne.mpr c9
    have c9b1 : (t13014 != 7) = true := bne_iff_ne.mpr c9
    exact absurd H (by simp)
  ·rw [if_neg c8] at H
   have c8b0 : (t13012 == 0) = false := beq_eq_false_iff_ne.mpr c8
   have c8b1 : (t13012 != 0) = true := bne_iff_ne.mpr c8
   exact absurd H (by simp)
 ·rw [if_neg c7] at H
  have c7b0 : (t13009 == 0) = false := beq_eq_false_iff_ne.mpr c7
  have c7b1 : (t13009 != 0) = true := bne_iff_ne.mpr c7
  exact absurd H (by simp)

end Go.Proofs.Ytnfcpcgbdoiiiaa.G

namespace Go.Proofs.Ytnfcpcgbdoiiiaa.G
open Go.RowKit Go.Proofs.YtnfcpcgbdoiiiaaW.PrintWords Go.Proofs.YtnfcpcgbdoiiiaaW.PrintLast Go.Proofs.YtnfcpcgbdoiiiaaW.PrintMore
set_option linter.unusedVariables false
set_option linter.unusedSimpArgs false
theorem awake52_true : ∃ k, papermilllaw52_awakeP.f k = some true := by
  suffices h : Ends (fun k => papermilllaw52_awakeP.f k) true from h.get
  unfold papermilllaw52_awakeP.f
  have e1 : cutOf 1000 300 [⟨650, 701⟩] = (3, [⟨2, 3⟩], 100, 0) := by kernel_rfl
  have e2 : sheetOf 1000 300 100 = (2, 0) := by kernel_rfl
  have e3 : sheetOf 1000 300 99 = (0, 7) := by kernel_rfl
  have e4 : placeOf 1000 300 1 0 = (699, 0) := by kernel_rfl
  have e5 : goodOf 3 [⟨2, 3⟩] = (1, 0) := by kernel_rfl
  have e6 : togOf [⟨3, [⟨2, 3⟩], 100⟩, ⟨9, [⟨0, 9⟩], 4⟩] = (3, [⟨2, 3⟩], 0, 0) := by kernel_rfl
  refine Ends.bind ((cut_ends 1000 300 [⟨650, 701⟩]).congr e1) (Ends.bind ((sheet_ends 1000 300 100).congr e2) (Ends.bind ((sheet_ends 1000 300 99).congr e3) (Ends.bind ((place_ends 1000 300 1 0).congr e4) (Ends.bind ((good_ends 3 [⟨2, 3⟩] 100).congr e5) (Ends.bind ((tog_ends [⟨3, [⟨2, 3⟩], 100⟩, ⟨9, [⟨0, 9⟩], 4⟩]).congr e6) ?_)))))
  exact Ends.pos rfl (Ends.pos rfl (Ends.pos rfl (Ends.pos rfl (Ends.pos rfl (Ends.pos rfl (Ends.bind (rsame_ends 3 [⟨2, 3⟩] 100 (by decide)) (Ends.pos rfl (Ends.pos rfl (Ends.pos rfl (Ends.pos rfl (Ends.bind (rsame_ends 3 [⟨2, 3⟩] 0 (by decide)) (Ends.ret _))))))))))))
def papermilllaw52_awake.f : Option Bool := some true
theorem papermilllaw52_awake.calls (r : Bool) (w : World) (h : papermilllaw52_awake.f = some r) : Calls Try.prog 12 #[] w fun e w' => e = .returned (.bool r) ∧ Below w.heap.size w w' := by
  obtain rfl := Option.some.inj h
  obtain ⟨k, hk⟩ := awake52_true
  exact papermilllaw52_awakeP.calls k w hk
end Go.Proofs.Ytnfcpcgbdoiiiaa.G

namespace Go.Proofs.Ytnfcpcgbdoiiiaa.G
open Go.RowKit Go.Proofs.YtnfcpcgbdoiiiaaW.PrintWords Go.Proofs.YtnfcpcgbdoiiiaaW.PrintLast Go.Proofs.YtnfcpcgbdoiiiaaW.PrintMore
open Go.ChangeShapes Go.WideShapes Go.Deep
set_option linter.unusedVariables false
set_option linter.unusedSimpArgs false

theorem pick_list {α : Type} {Q : Nat → α → Prop} : ∀ (n : Nat), (∀ i, i < n → ∃ v, Q i v) → ∃ l : List α, l.length = n ∧ ∀ i v, l[i]? = some v → Q i v
  | 0, _ => ⟨[], rfl, fun i v h => by simp at h⟩
  | n + 1, h => by
    obtain ⟨l, hl, hv⟩ := pick_list n (fun i hi => h i (by omega))
    obtain ⟨v, hv1⟩ := h n (by omega)
    refine ⟨l ++ [v], by simp [hl], fun i u hu => ?_⟩
    rcases Nat.lt_or_ge i l.length with h1 | h1
    · rw [List.getElem?_append_left h1] at hu; exact hv i u hu
    · have e : i = l.length := by
        have := (List.getElem?_eq_some_iff.1 hu).1; simp at this; omega
      subst e
      have : v = u := by simpa using hu
      subst this
      rw [hl]; exact hv1
def Opens {α : Type} (P : Program) (d : Kd α) (t : TypeId) (Wf : α → Prop) : Prop :=
  ∀ {H : Type} (enc : TypeId × Value → H) (W : World) (fuel : Nat) (cs : List Value) (x : DataW H × List MemPlace), DataW.trod enc P W 0 (fun _ => true) true fuel t cs = some x → ∃ v : α, d.K W v cs ∧ Wf v
theorem Opens.int {P : Program} {t : TypeId} {k : IntKind} (ht : P.underlying t = some (.int k)) : Opens P (Kd.int k) t (fun n => (Lit.int k n).wf = true) :=
  fun enc W fuel cs x h => by obtain ⟨n, rfl, _, hw⟩ := DataW.trod_int ht h; exact ⟨n, rfl, hw⟩
theorem Opens.bool {P : Program} {t : TypeId} (ht : P.underlying t = some .bool) : Opens P Kd.bool t (fun _ => True) :=
  fun enc W fuel cs x h => by obtain ⟨n, rfl, _⟩ := DataW.trod_bool ht h; exact ⟨n, rfl, trivial⟩
theorem Opens.slice {α : Type} {P : Program} {t e : TypeId} {d : Kd α} {Wf : α → Prop} (ht : P.underlying t = some (.slice e)) (hC : P.cellsOf e = d.sz) (h : Opens P d e Wf) :
    Opens P (Kd.slice e d) t (fun l => l.length ≤ maxLen ∧ ∀ x ∈ l, Wf x) := by
  intro H enc W fuel cs x hx
  rcases open_slice ht hx with ⟨rfl, _⟩ | ⟨a, len, cap, m, n, D, Pl, rfl, _, hl, hm, hmm, _, hi⟩
  · exact ⟨[], ⟨none, 0, rfl, Nat.le_refl _, rfl, by simp, fun h => absurd h (by simp)⟩, by simp, fun x h => by simp at h⟩
  · have hml : len ≤ m := by rw [hmm]; simp only [if_true]; exact hl
    have key : ∀ i, i < len → ∃ v : α, (∃ c, c.length = d.sz ∧ d.K W v c ∧ ∀ q u, c[q]? = some u → W.cell? (a.add (i * d.sz + q)) = some u) ∧ Wf v := by
      intro i hil
      obtain ⟨cs', hc, ht'⟩ := hi i (by omega)
      rw [hC] at hc
      obtain ⟨_, hcl, hat⟩ := World.cells?_some hc
      obtain ⟨v, hK, hw⟩ := h enc W n cs' _ ht'
      refine ⟨v, ⟨cs', d.K_len hK, hK, fun q u hq => ?_⟩, hw⟩
      have hql : q < d.sz := by rw [← d.K_len hK]; exact (List.getElem?_eq_some_iff.1 hq).1
      have := hat q hql
      rw [← Go.Deep.add_add, this]; exact hq
    obtain ⟨l, rfl, hv⟩ := pick_list len key
    refine ⟨l, ⟨some a, cap, rfl, hl, rfl, by unfold maxLen at hm; omega, fun _ => ⟨a, rfl, fun j p hj => (hv j p hj).1⟩⟩, Nat.le_trans hl hm, fun x hx => ?_⟩
    obtain ⟨i, hi', rfl⟩ := List.getElem_of_mem hx
    exact (hv i _ (List.getElem?_eq_getElem hi')).2

def wf_50 (s : S50) : Prop := (Lit.int .i64 s.f0).wf = true ∧ (Lit.int .i64 s.f1).wf = true
theorem cells_50 : Try.prog.cellsOf 50 = 2 := by kernel_rfl
theorem cells1_3 : Try.prog.cellsOf 3 = 1 := by kernel_rfl
set_option maxRecDepth 100000 in
theorem opens_50 : Opens Try.prog k50 50 wf_50 := by
  intro H enc W fuel cs x h
  obtain ⟨xs, n, rfl, rfl, hlen, hxl, hf⟩ := DataW.trod_struct Try.underlying50 h
  rw [cells_50] at hlen
  match cs, hlen with
  | [c0, c1], _ =>
    match xs, hxl with
    | [y0, y1], _ =>
      have e0 : DataW.trod enc Try.prog W 0 (fun _ => true) true n 3 (([c0, c1].drop 0).take (Try.prog.cellsOf 3)) = some y0 := hf 0 _ rfl
      rw [cells1_3] at e0
      have e1 : DataW.trod enc Try.prog W 0 (fun _ => true) true n 3 (([c0, c1].drop 1).take (Try.prog.cellsOf 3)) = some y1 := hf 1 _ rfl
      rw [cells1_3] at e1
      obtain ⟨v0, q0, w0⟩ := (Opens.int Try.underlying3) enc W n [c0] y0 e0
      cases q0
      obtain ⟨v1, q1, w1⟩ := (Opens.int Try.underlying3) enc W n [c1] y1 e1
      cases q1
      exact ⟨⟨v0, v1⟩, k50_mk _ _, w0, w1⟩
def wf_25 (s : S25) : Prop := (Lit.int .i64 s.f0).wf = true ∧ (s.f1.length ≤ maxLen ∧ ∀ x ∈ s.f1, wf_50 x) ∧ (Lit.int .i64 s.f2).wf = true
theorem cells_25 : Try.prog.cellsOf 25 = 3 := by kernel_rfl
theorem cells1_22 : Try.prog.cellsOf 22 = 1 := by kernel_rfl
set_option maxRecDepth 100000 in
theorem opens_25 : Opens Try.prog k25 25 wf_25 := by
  intro H enc W fuel cs x h
  obtain ⟨xs, n, rfl, rfl, hlen, hxl, hf⟩ := DataW.trod_struct Try.underlying25 h
  rw [cells_25] at hlen
  match cs, hlen with
  | [c0, c1, c2], _ =>
    match xs, hxl with
    | [y0, y1, y2], _ =>
      have e0 : DataW.trod enc Try.prog W 0 (fun _ => true) true n 3 (([c0, c1, c2].drop 0).take (Try.prog.cellsOf 3)) = some y0 := hf 0 _ rfl
      rw [cells1_3] at e0
      have e1 : DataW.trod enc Try.prog W 0 (fun _ => true) true n 22 (([c0, c1, c2].drop 1).take (Try.prog.cellsOf 22)) = some y1 := hf 1 _ rfl
      rw [cells1_22] at e1
      have e2 : DataW.trod enc Try.prog W 0 (fun _ => true) true n 3 (([c0, c1, c2].drop 2).take (Try.prog.cellsOf 3)) = some y2 := hf 2 _ rfl
      rw [cells1_3] at e2
      obtain ⟨v0, q0, w0⟩ := (Opens.int Try.underlying3) enc W n [c0] y0 e0
      cases q0
      obtain ⟨v1, q1, w1⟩ := (Opens.slice Try.underlying22 (by kernel_rfl) opens_50) enc W n [c1] y1 e1
      obtain ⟨v2, q2, w2⟩ := (Opens.int Try.underlying3) enc W n [c2] y2 e2
      cases q2
      exact ⟨⟨v0, v1, v2⟩, ⟨[(Value.int .i64 v0)], [c1, (Value.int .i64 v2)], rfl, rfl, ⟨[c1], [(Value.int .i64 v2)], rfl, q1, rfl⟩⟩, w0, w1, w2⟩
end Go.Proofs.Ytnfcpcgbdoiiiaa.G

namespace Go.Proofs.Ytnfcpcgbdoiiiaa.G
open Go.RowKit Go.Proofs.YtnfcpcgbdoiiiaaW.PrintWords Go.Proofs.YtnfcpcgbdoiiiaaW.PrintLast Go.Proofs.YtnfcpcgbdoiiiaaW.PrintMore
set_option linter.unusedVariables false
set_option linter.unusedSimpArgs false
theorem rhas_l0 (l : List S50) (x : Int) (hl : l.length < 1000000) : ∀ (d i : Nat), l.length - i = d → i ≤ l.length → Ends (fun k => papermillref04_Has.l0 k l x (i : Int)) (hasOf (l.drop i) x) := by
  intro d
  induction d with
  | zero =>
    intro i hd hi
    rw [List.drop_of_length_le (by omega)]
    refine Ends.succ ?_
    simp only [papermillref04_Has.l0]
    exact Ends.neg (by omega) (Ends.ret _)
  | succ d ih =>
    intro i hd hi
    have := ih (i + 1) (by omega) (by omega)
    rw [drop36 l i (by omega)]
    refine Ends.succ ?_
    simp only [papermillref04_Has.l0, wrap_nat i (by omega)]
    refine Ends.pos (by omega) (Ends.pos (by omega) ?_)
    by_cases h1 : (rd_T50 l i).f0 ≤ x
    · refine Ends.pos h1 ?_
      by_cases h2 : x < (rd_T50 l i).f1
      · refine Ends.pos h2 ?_
        simpa [hasOf, h1, h2] using Ends.ret true
      · refine Ends.neg h2 ?_
        simpa [hasOf, h1, h2] using this
    · refine Ends.neg h1 ?_
      simpa [hasOf, h1] using this
theorem rhas_ends (l : List S50) (x : Int) (hl : l.length < 1000000) : Ends (fun k => papermillref04_Has.f k l x) (hasOf l x) := by
  simpa [papermillref04_Has.f] using rhas_l0 l x hl l.length 0 rfl (Nat.zero_le _)
theorem both_zero {a b : List S50} {w : Int} (h : (bothOf a b w).2 = 0) : check04 a = 0 ∧ check04 b = 0 ∧ (bothOf a b w).1 = combOf a b w := by
  unfold bothOf at h ⊢
  by_cases h1 : check04 a = 0
  · rw [if_pos h1] at h ⊢
    by_cases h2 : check04 b = 0
    · rw [if_pos h2] at h ⊢
      by_cases h3 : (combOf a b w).length > 256
      · rw [if_pos h3] at h; exact absurd h (by decide)
      · rw [if_neg h3]; exact ⟨h1, h2, rfl⟩
    · rw [if_neg h2] at h; exact absurd h h2
  · rw [if_neg h1] at h; exact absurd h h1
theorem both_fits {a b : List S50} {w : Int} (h : (bothOf a b w).2 = 0) : (bothOf a b w).1.length ≤ 256 := by
  unfold bothOf at h ⊢
  by_cases h1 : check04 a = 0
  · rw [if_pos h1] at h ⊢
    by_cases h2 : check04 b = 0
    · rw [if_pos h2] at h ⊢
      by_cases h3 : (combOf a b w).length > 256
      · rw [if_pos h3] at h; exact absurd h (by decide)
      · rw [if_neg h3]; show (combOf a b w).length ≤ 256; omega
    · rw [if_neg h2] at h; exact absurd h h2
  · rw [if_neg h1] at h; exact absurd h h1
theorem both_has {a b : List S50} {w : Int} (hw : w = 0 ∨ w = 1 ∨ w = 2) (h : (bothOf a b w).2 = 0) (x : Int) : hasOf (bothOf a b w).1 x = wayOf w (hasOf a x) (hasOf b x) := by
  obtain ⟨h1, h2, e⟩ := both_zero h
  obtain ⟨_, v1⟩ := good04 h1
  obtain ⟨_, v2⟩ := good04 h2
  rw [e]
  have := (comb_ok a b w hw (-1) (fun s hs => hs.elim (fun h => ⟨by have := v1 s h; omega, (v1 s h).2.1⟩) (fun h => ⟨by have := v2 s h; omega, (v2 s h).2.1⟩))).2 x
  rw [← hasOf_iff] at this
  unfold keeps at this
  unfold wayOf
  cases hs : skips w (hasOf a x) (hasOf b x) <;> cases hh : hasOf (combOf a b w) x <;> simp_all
end Go.Proofs.Ytnfcpcgbdoiiiaa.G

namespace Go.Proofs.Ytnfcpcgbdoiiiaa.G
open Go.RowKit Go.Proofs.YtnfcpcgbdoiiiaaW.PrintWords Go.Proofs.YtnfcpcgbdoiiiaaW.PrintLast Go.Proofs.YtnfcpcgbdoiiiaaW.PrintMore
attribute [local go_sem] max2_int min2_int max_two min_two max_three min_three max_four min_four   -- for this text's walks alone
set_option linter.unusedVariables false
set_option linter.unusedSimpArgs false

def papermilllaw52_few.l0 : Nat → List (S25) → Int → Option (Bool)
  | 0, _, _ => none
  | k + 1, x0, x3 => if x3 < (x0.length : Int) then (if 0 ≤ x3 then (if (((rd_T25 x0 x3).f1).length : Int) > 300 then (some false) else (papermilllaw52_few.l0 k x0 (wrap64 (x3 + 1)))) else (none)) else (some true)
def papermilllaw52_few.f (k : Nat) (l0 : List (S25)) : Option (Bool) := if (l0.length : Int) > 30 then (some false) else (papermilllaw52_few.l0 k l0 0)
theorem papermilllaw52_few.mono_l : ∀ k, (∀ y0 y1, LeO (papermilllaw52_few.l0 k y0 y1) (papermilllaw52_few.l0 (k + 1) y0 y1))
  | 0 => fun _ _ r h => by simp [papermilllaw52_few.l0] at h
  | k + 1 => by
    have ih0 := papermilllaw52_few.mono_l k
    · intro y0 y1
      unfold papermilllaw52_few.l0
      repeat' first
      | (with_reducible exact ih0 _ _)
      | (with_reducible exact LeO.refl _)
      | (with_reducible exact LeO.none _)
      | (with_reducible refine LeO.ite ?_ ?_)
      | (with_reducible refine LeO.bind ?_ (fun _ => ?_))
      | exact ih0 _ _
      | exact LeO.none _
      | refine LeO.ite ?_ ?_
      | refine LeO.bind ?_ (fun _ => ?_)
theorem papermilllaw52_few.mono : ∀ a0 k, LeO (papermilllaw52_few.f k a0) (papermilllaw52_few.f (k + 1) a0) := by
  intro a0 k
  have ih0 := papermilllaw52_few.mono_l k
  unfold papermilllaw52_few.f
  repeat' first
      | (with_reducible exact ih0 _ _)
      | (with_reducible exact LeO.refl _)
      | (with_reducible exact LeO.none _)
      | (with_reducible refine LeO.ite ?_ ?_)
      | (with_reducible refine LeO.bind ?_ (fun _ => ?_))
      | exact ih0 _ _
      | exact LeO.none _
      | refine LeO.ite ?_ ?_
      | refine LeO.bind ?_ (fun _ => ?_)
set_option maxHeartbeats 8000000 in
set_option maxRecDepth 100000 in
theorem papermilllaw52_few.calls (k : Nat) (A0 : Option Addr) (c0 : Nat) (l0 : List (S25)) (r : Bool) (w : World) (hr0 : Kd.C k25 w A0 l0.length l0) (hc0 : l0.length ≤ c0) (h : papermilllaw52_few.f k l0 = some r) :
    Calls Try.prog 20 #[.slice A0 l0.length c0] w fun e w' => e = .returned (.bool r) ∧ Drawn0 w w' := by
  have HR0 := Aside0.mk hr0
  have HC0 := Aside0.mk hc0
  clear hr0 hc0
  have H : (if (l0.length : Int) > 30 then (some false) else (papermilllaw52_few.l0 k l0 0)) = some r := h
  clear h
  by_cases c2 : (l0.length : Int) > 30
  · rw [if_pos c2] at H
    have c2b0 : decide (30 < (l0.length : Int)) = true := decide_eq_true c2
    have c2b1 : decide (30 < l0.length) = true := decide_eq_true (by omega)
    clear c2
    obtain rfl := Option.some.inj H
    go_enter Try.func20, Try.ntmps20
    go_wp2
    go_ret
    exact ⟨by first | rfl | (simp; done) | (simp [*]; done), by repeat (first | exact Drawn0.refl _ | apply Drawn0.step)⟩
  · rw [if_neg c2] at H
    have c2b0 : decide (30 < (l0.length : Int)) = false := decide_eq_false c2
    have c2b1 : decide (30 < l0.length) = false := decide_eq_false (by omega)
    clear c2
    have H' := Aside0.mk H
    clear H
    go_enter Try.func20, Try.ntmps20
    go_wp2
    go_loopg [3] k (fun kq v3 w' => ∃ (x3_1 : Int), v3 = .int .i64 x3_1 ∧ Aside0 (papermilllaw52_few.l0 kq l0 x3_1 = some r) ∧ Aside0 (kq ≤ k) ∧ Drawn0 w w')
    case atStart => exact ⟨(0), (by first | rfl | (simp; done) | (simp [*]; done)), H', ⟨Nat.le_refl _⟩, by repeat (first | exact Drawn0.refl _ | apply Drawn0.step)⟩
    case round =>
      clear H'
      try clear c2
      try clear c2b0
      try clear c2b1
      try clear p2
      obtain ⟨x3_1, rfl, HA, HK1, ⟨m1, rfl⟩⟩ := hrel
      cases gk with
      | zero => exact absurd HA.out (by simp [papermilllaw52_few.l0])
      | succ k1 =>
        have H := HA.out
        clear HA
        simp only [papermilllaw52_few.l0] at H
        by_cases c3 : x3_1 < (l0.length : Int)
        · rw [if_pos c3] at H
          have c3b0 : decide (x3_1 < (l0.length : Int)) = true := decide_eq_true c3
          clear c3
          by_cases c4 : 0 ≤ x3_1
          · rw [if_pos c4] at H
            have c4b0 : decide (0 ≤ x3_1) = true := decide_eq_true c4
            clear c4
            by_cases c5 : (((rd_T25 l0 x3_1).f1).length : Int) > 300
            · rw [if_pos c5] at H
              have c5b0 : decide (300 < (((rd_T25 l0 x3_1).f1).length : Int)) = true := decide_eq_true c5
              have c5b1 : decide (300 < ((rd_T25 l0 x3_1).f1).length) = true := decide_eq_true (by omega)
              clear c5
              obtain rfl := Option.some.inj H
              have p21001 : 0 ≤ (x3_1 : Int) := of_decide_eq_true (by assumption)
              have q21001 : x3_1 < (l0.length : Int) := of_decide_eq_true (by assumption)
              obtain ⟨ad21001, A21001_1, c21001_1, e21001, hx21001_0, hx21001_1, hx21001_2, hl21001_1, hi21001_1⟩ := at_T25 HR0.out x3_1 p21001 q21001
              cases e21001
              have HR21001_1 := Aside0.mk hi21001_1
              have HC21001_1 := Aside0.mk hl21001_1
              clear hi21001_1 hl21001_1
              replace p21001 := eq_true p21001
              replace q21001 := eq_true q21001
              go_wp2
              go_ret
              exact ⟨by first | rfl | (simp; done) | (simp [*]; done), by repeat (first | exact Drawn0.refl _ | apply Drawn0.step)⟩
            · rw [if_neg c5] at H
              have c5b0 : decide (300 < (((rd_T25 l0 x3_1).f1).length : Int)) = false := decide_eq_false c5
              have c5b1 : decide (300 < ((rd_T25 l0 x3_1).f1).length) = false := decide_eq_false (by omega)
              clear c5
              have H' := Aside0.mk H
              clear H
              have p21001 : 0 ≤ (x3_1 : Int) := of_decide_eq_true (by assumption)
              have q21001 : x3_1 < (l0.length : Int) := of_decide_eq_true (by assumption)
              obtain ⟨ad21001, A21001_1, c21001_1, e21001, hx21001_0, hx21001_1, hx21001_2, hl21001_1, hi21001_1⟩ := at_T25 HR0.out x3_1 p21001 q21001
              cases e21001
              have HR21001_1 := Aside0.mk hi21001_1
              have HC21001_1 := Aside0.mk hl21001_1
              clear hi21001_1 hl21001_1
              replace p21001 := eq_true p21001
              replace q21001 := eq_true q21001
              go_wp2
              go_roundg k1
              case measure => have := HK1.out; omega
              case rel => exact ⟨(wrap64 (x3_1 + 1)), (by first | rfl | (simp; done) | (simp [*]; done)), H', ⟨by have := HK1.out; omega⟩, by repeat (first | exact Drawn0.refl _ | apply Drawn0.step)⟩
          · rw [if_neg c4] at H
            exact absurd H (by simp)
        · rw [if_neg c3] at H
          have c3b0 : decide (x3_1 < (l0.length : Int)) = false := decide_eq_false c3
          clear c3
          obtain rfl := Option.some.inj H
          go_wp2
          go_ret
          exact ⟨by first | rfl | (simp; done) | (simp [*]; done), by repeat (first | exact Drawn0.refl _ | apply Drawn0.step)⟩

end Go.Proofs.Ytnfcpcgbdoiiiaa.G

namespace Go.Proofs.Ytnfcpcgbdoiiiaa.G
open Go.RowKit Go.Proofs.YtnfcpcgbdoiiiaaW.PrintWords Go.Proofs.YtnfcpcgbdoiiiaaW.PrintLast Go.Proofs.YtnfcpcgbdoiiiaaW.PrintMore
set_option linter.unusedVariables false
set_option linter.unusedSimpArgs false
def cnt (f : Int → Bool) : Nat → Int
  | 0 => 0
  | n + 1 => cnt f n + if f n = true then 1 else 0
theorem cnt_add (f g h k : Int → Bool) (hp : ∀ x, (if f x = true then (1 : Int) else 0) + (if g x = true then 1 else 0) = (if h x = true then 1 else 0) + (if k x = true then 1 else 0)) : ∀ n, cnt f n + cnt g n = cnt h n + cnt k n
  | 0 => rfl
  | n + 1 => by
    have h1 := cnt_add f g h k hp n
    have h2 := hp n
    simp only [cnt]
    omega
theorem cnt_none : ∀ n, cnt (fun _ => false) n = 0
  | 0 => rfl
  | n + 1 => by simp [cnt, cnt_none n]
theorem cnt_span (s : S50) (h0 : 0 ≤ s.f0) (h1 : s.f0 ≤ s.f1) : ∀ n : Nat, cnt (fun x => decide (s.f0 ≤ x ∧ x < s.f1)) n = (if (n : Int) ≤ s.f0 then 0 else if (n : Int) ≤ s.f1 then n - s.f0 else s.f1 - s.f0)
  | 0 => by simp [cnt]; omega
  | n + 1 => by
    simp only [cnt, decide_eq_true_eq]
    rw [cnt_span s h0 h1 n]
    split <;> split <;> (try split) <;> (try split) <;> (try split) <;> omega
theorem tot_cnt (M : Nat) : ∀ (l : List S50) (e : Int), -1 ≤ e → sep e l → (∀ s ∈ l, s.f1 ≤ M) → tot l = cnt (hasOf l) M
  | [], e, _, _, _ => by
    have : hasOf [] = fun _ => false := rfl
    rw [this, cnt_none]
    rfl
  | s :: l, e, he, h, hb => by
    rw [tot_cons, tot_cnt M l s.f1 (by have := h.1; have := h.2.1; omega) h.2.2 (fun t ht => hb t (by simp [ht]))]
    have h1 := cnt_span s (by have := h.1; omega) (by have := h.2.1; omega) M
    have h2 := hb s (by simp)
    have h3 := h.2.1
    have h4 := h.1
    have e1 : cnt (fun x => decide (s.f0 ≤ x ∧ x < s.f1)) M = s.f1 - s.f0 := by rw [h1]; split <;> (try split) <;> omega
    have h5 := cnt_add (hasOf (s :: l)) (fun _ => false) (fun x => decide (s.f0 ≤ x ∧ x < s.f1)) (hasOf l) (fun x => by
      rw [hasOf_cons]
      by_cases q : s.f0 ≤ x ∧ x < s.f1
      · rw [sep_has h.2.2 (by omega)]; simp [q]
      · have : decide (s.f0 ≤ x ∧ x < s.f1) = false := by simpa using q
        rw [this]; simp) M
    rw [cnt_none] at h5
    omega
theorem cnt_mono (f g : Int → Bool) (h : ∀ x, f x = true → g x = true) : ∀ n, cnt f n ≤ cnt g n
  | 0 => by simp [cnt]
  | n + 1 => by
    have h1 := cnt_mono f g h n
    have h2 := h n
    simp only [cnt]
    cases hf : f (n : Int) <;> cases hg : g (n : Int) <;> simp_all <;> omega
theorem tot_mono (M : Nat) (a b : List S50) (sa : sep (-1) a) (sb : sep (-1) b) (ha : ∀ s ∈ a, s.f1 ≤ M) (hb : ∀ s ∈ b, s.f1 ≤ M) (h : ∀ x, hasOf a x = true → hasOf b x = true) : tot a ≤ tot b := by
  rw [tot_cnt M a (-1) (by omega) sa ha, tot_cnt M b (-1) (by omega) sb hb]
  exact cnt_mono _ _ h M
def Fair (c : Int) (g : List S50) : Prop := 0 ≤ c ∧ c ≤ 17179869184 ∧ g.length ≤ 256 ∧ sep (-1) g ∧ ∀ s ∈ g, s.f1 ≤ c
theorem sep_last (d : List S50) (y : S50) (e : Int) (h : sep e (d ++ [y])) : ∀ s ∈ d ++ [y], s.f1 ≤ y.f1 := by
  obtain ⟨_, h2, _, h4⟩ := sep_init h
  intro s hs
  rcases List.mem_append.1 hs with hs | hs
  · have := h2 s hs; omega
  · obtain rfl := List.mem_singleton.1 hs
    omega
theorem Fair.check {c : Int} {g : List S50} (h : Fair c g) : check04 g = 0 := by
  obtain ⟨h0, h1, h2, h3, h4⟩ := h
  unfold check04
  rw [if_neg (by omega), if_neg]
  rintro ⟨s, hs, hb⟩
  have a1 := sep_in h3 s hs
  have a2 := h4 s hs
  unfold badS at hb
  omega
theorem Fair.join {c : Int} {g : List S50} (h : Fair c g) : joinOf g = g := by
  obtain ⟨h0, h1, h2, h3, h4⟩ := h
  have hj := joinOf_ok g (-1) (fun s hs => by have := sep_in h3 s hs; omega)
  exact sep_unique hj.1 h3 hj.2
theorem Fair.one {c : Int} {g : List S50} (h : Fair c g) : oneOf c g = 0 := by
  have hc := h.check
  have hj := h.join
  obtain ⟨h0, h1, h2, h3, h4⟩ := h
  unfold oneOf
  rw [if_neg (by omega), if_pos hc, hj, if_pos ((sameL_iff g g).2 rfl)]
  unfold overOf
  by_cases hl : 0 < g.length
  · rw [if_pos hl, if_neg]
    have := h4 (rd_T50 g ((g.length - 1 : Nat) : Int)) (by rw [rd36 g _ (by omega)]; exact List.getElem_mem _)
    omega
  · rw [if_neg hl]
theorem Fair.of {c : Int} {g : List S50} (h : oneOf c g = 0) : Fair c g := by
  obtain ⟨h0, h1, h2, h3, h4⟩ := one_zero h
  obtain ⟨g1, g2⟩ := good04 h2
  have hj := joinOf_ok g (-1) (fun s hs => by have := g2 s hs; omega)
  rw [h3] at hj
  refine ⟨h0, h1, g1, hj.1, fun s hs => ?_⟩
  have hl : 0 < g.length := List.length_pos_of_mem hs
  unfold overOf at h4
  rw [if_pos hl] at h4
  obtain ⟨d, y, rfl⟩ : ∃ d y, g = d ++ [y] := ⟨g.dropLast, g.getLast (fun e => by rw [e] at hl; cases hl), (List.dropLast_concat_getLast _).symm⟩
  have hy : rd_T50 (d ++ [y]) (((d ++ [y]).length - 1 : Nat) : Int) = y := by
    rw [rd36 _ _ (by simp)]; simp
  rw [hy] at h4
  have h5 := sep_last d y (-1) hj.1 s hs
  by_cases h6 : y.f1 > c
  · rw [if_pos h6] at h4; cases h4
  · omega
theorem mn_min (a b : Int) : mn a b = min a b := by unfold mn; split <;> omega
theorem Fair.both {c d : Int} {g q : List S50} (h : Fair c g) (k : Fair d q) (hb : (bothOf g q 1).2 = 0) : Fair (mn c d) (bothOf g q 1).1 := by
  obtain ⟨_, _, e⟩ := both_zero hb
  have hl := both_fits hb
  have hm := both_has (Or.inr (Or.inl rfl)) hb
  obtain ⟨h0, h1, h2, h3, h4⟩ := h
  obtain ⟨k0, k1, k2, k3, k4⟩ := k
  have hs := (comb_ok g q 1 (Or.inr (Or.inl rfl)) (-1) (fun s hs => hs.elim (fun h => by have := sep_in h3 s h; omega) (fun h => by have := sep_in k3 s h; omega))).1
  rw [← e] at hs
  rw [mn_min]
  refine ⟨by omega, by omega, hl, hs, fun s hmem => ?_⟩
  have a1 := sep_in hs s hmem
  have a2 : hasOf (bothOf g q 1).1 (s.f1 - 1) = true := (hasOf_iff _ _).2 ⟨s, hmem, by omega, by omega⟩
  rw [hm, wayOf_1, Bool.and_eq_true, hasOf_iff, hasOf_iff] at a2
  obtain ⟨⟨t, ht, t1, t2⟩, u, hu, u1, u2⟩ := a2
  have b1 := h4 t ht
  have b2 := k4 u hu
  omega
theorem firstOne_zero : ∀ (l : List S25), firstOne l = 0 → ∀ s ∈ l, Fair s.f0 s.f1
  | [], _ => by simp
  | s :: l, h => by
    unfold firstOne at h
    by_cases h1 : oneOf s.f0 s.f1 = 0
    · rw [if_pos h1] at h
      intro t ht
      rcases List.mem_cons.1 ht with rfl | ht
      · exact Fair.of h1
      · exact firstOne_zero l h t ht
    · rw [if_neg h1] at h; exact absurd h h1
def leastOf (l : List S25) (m : Int) : Int := l.foldl (fun m s => mn m s.f0) m
def allOf (l : List S25) (x : Int) : Bool := l.all fun s => hasOf s.f1 x
theorem foldT_ok : ∀ (r : List S25) (c : Int) (g : List S50), Fair c g → (∀ s ∈ r, Fair s.f0 s.f1) →
    ((foldT c g r).2.2.2 = 0 → (foldT c g r).1 = leastOf r c ∧ (foldT c g r).2.2.1 = 0 ∧ Fair (foldT c g r).1 (foldT c g r).2.1 ∧ ∀ x, hasOf (foldT c g r).2.1 x = (hasOf g x && allOf r x)) ∧ ((foldT c g r).2.2.2 ≠ 0 → (foldT c g r).1 = 0 ∧ (foldT c g r).2.1 = [])
  | [], c, g, h, _ => by
    refine ⟨fun _ => ⟨rfl, rfl, h, fun x => ?_⟩, fun hne => absurd rfl hne⟩
    show hasOf g x = (hasOf g x && true)
    rw [Bool.and_true]
  | s :: r, c, g, h, hr => by
    rw [foldT]
    by_cases hb : (bothOf g s.f1 1).2 = 0
    · rw [if_pos hb]
      obtain ⟨i1, i2⟩ := foldT_ok r _ _ (h.both (hr s (by simp)) hb) (fun t ht => hr t (by simp [ht]))
      refine ⟨fun he => ?_, i2⟩
      obtain ⟨j1, j2, j3, j4⟩ := i1 he
      refine ⟨j1, j2, j3, fun x => ?_⟩
      rw [j4 x, both_has (Or.inr (Or.inl rfl)) hb, wayOf_1, Bool.and_assoc]
      rfl
    · rw [if_neg hb]
      exact ⟨fun he => absurd he hb, fun _ => ⟨rfl, rfl⟩⟩
theorem tog_ok (l : List S25) : ((togOf l).2.2.2 = 0 → 0 < l.length ∧ l.length ≤ 16 ∧ (∀ s ∈ l, Fair s.f0 s.f1) ∧ (togOf l).1 = leastOf l 17179869184 ∧ (togOf l).2.2.1 = 0 ∧ Fair (togOf l).1 (togOf l).2.1 ∧ ∀ x, hasOf (togOf l).2.1 x = allOf l x) ∧ ((togOf l).2.2.2 ≠ 0 → (togOf l).1 = 0 ∧ (togOf l).2.1 = []) := by
  unfold togOf
  by_cases h : l.length = 0
  · rw [if_pos h]; exact ⟨fun he => absurd he (by decide), fun _ => ⟨rfl, rfl⟩⟩
  rw [if_neg h]
  by_cases h2 : l.length > 16
  · rw [if_pos h2]; exact ⟨fun he => absurd he (by decide), fun _ => ⟨rfl, rfl⟩⟩
  rw [if_neg h2]
  by_cases h3 : firstOne l = 0
  · rw [if_pos h3]
    have hf := firstOne_zero l h3
    match l, h, hf with
    | s :: r, _, hf =>
      have e : rd_T25 (s :: r) 0 = s := rfl
      rw [e]
      have hs := hf s (by simp)
      obtain ⟨i1, i2⟩ := foldT_ok r s.f0 s.f1 hs (fun t ht => hf t (by simp [ht]))
      refine ⟨fun he => ?_, i2⟩
      obtain ⟨j1, j2, j3, j4⟩ := i1 he
      refine ⟨by simp, by omega, hf, ?_, j2, j3, fun x => by rw [List.drop_one]; exact j4 x⟩
      have em : mn 17179869184 s.f0 = s.f0 := by rw [mn_min]; have := hs.2.1; omega
      show (foldT s.f0 s.f1 r).1 = leastOf r (mn 17179869184 s.f0)
      rw [em]; exact j1
  · rw [if_neg h3]; exact ⟨fun he => absurd he h3, fun _ => ⟨rfl, rfl⟩⟩
theorem good_fair {c : Int} {g : List S50} (h : Fair c g) : goodOf c g = (tot g, 0) := by
  unfold goodOf totalOf
  rw [if_pos h.one, if_pos h.check, h.join]
def fewB (l : List S25) : Bool := decide (l.length ≤ 30) && l.all fun s => decide (s.f1.length ≤ 300)
theorem few_l0 (l : List S25) (hl : l.length ≤ 30) : ∀ (d i : Nat), l.length - i = d → i ≤ l.length → Ends (fun k => papermilllaw52_few.l0 k l (i : Int)) ((l.drop i).all fun s => decide (s.f1.length ≤ 300)) := by
  intro d
  induction d with
  | zero =>
    intro i hd hi
    rw [List.drop_of_length_le (by omega)]
    refine Ends.succ ?_
    simp only [papermilllaw52_few.l0]
    exact Ends.neg (by omega) (Ends.ret _)
  | succ d ih =>
    intro i hd hi
    have := ih (i + 1) (by omega) (by omega)
    rw [drop25 l i (by omega)]
    refine Ends.succ ?_
    simp only [papermilllaw52_few.l0, wrap_nat i (by omega)]
    refine Ends.pos (by omega) (Ends.pos (by omega) ?_)
    by_cases h1 : ((rd_T25 l (i : Int)).f1.length : Int) > 300
    · exact Ends.pos h1 ((Ends.ret _).congr (by rw [List.all_cons, decide_eq_false (by omega)]; rfl))
    · exact Ends.neg h1 (this.congr (by rw [List.all_cons, decide_eq_true (by omega)]; rfl))
theorem few_ends (l : List S25) : Ends (fun k => papermilllaw52_few.f k l) (fewB l) := by
  unfold papermilllaw52_few.f fewB
  by_cases h : (l.length : Int) > 30
  · exact Ends.pos h ((Ends.ret _).congr (by rw [decide_eq_false (by omega)]; rfl))
  · exact Ends.neg h ((few_l0 l (by omega) _ 0 rfl (by omega)).congr (by rw [decide_eq_true (by omega)]; rfl))
end Go.Proofs.Ytnfcpcgbdoiiiaa.G
