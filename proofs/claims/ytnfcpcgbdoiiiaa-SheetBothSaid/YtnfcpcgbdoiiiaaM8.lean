import Derived.Test.YtnfcpcgbdoiiiaaM1
import Derived.Test.YtnfcpcgbdoiiiaaM5
import Derived.Test.YtnfcpcgbdoiiiaaM7
namespace Go.Proofs.Ytnfcpcgbdoiiiaa.G
open Go.RowKit Go.Proofs.YtnfcpcgbdoiiiaaW.PrintWords Go.Proofs.YtnfcpcgbdoiiiaaW.PrintLast Go.Proofs.YtnfcpcgbdoiiiaaW.PrintMore
attribute [local go_sem] max2_int min2_int max_two min_two max_three min_three max_four min_four   -- for this text's walks alone
set_option linter.unusedVariables false
set_option linter.unusedSimpArgs false

/-! ### papermilllaw52_few: function 20 -/
def papermilllaw52_few.l0 : Nat → List (S25) → Int → Option (Bool)
  | 0, _, _ => none
  | k + 1, x0, x3 => if x3 < (x0.length : Int) then (if 0 ≤ x3 then (if (((rd_T25 x0 x3).f1).length : Int) > 300 then (some false) else (papermilllaw52_few.l0 k x0 (wrap64 (x3 + 1)))) else (none)) else (some true)
def papermilllaw52_few.f (k : Nat) (l0 : List (S25)) : Option (Bool) := if (l0.length : Int) > 30 then (some false) else (papermilllaw52_few.l0 k l0 0)
theorem papermilllaw52_few.mono_l : ∀ k, (∀ y0 y1, LeO (papermilllaw52_few.l0 k y0 y1) (papermilllaw52_few.l0 (k + 1) y0 y1))
  | 0 => fun _ _ r h => by simp [papermilllaw52_few.l0] at h
  | k + 1 => by
    have ih0 := papermilllaw52_few.mono_l k
    · intro y0 y1
      unfold papermilllaw52_few.l0
      repeat' first
      | (with_reducible exact ih0 _ _)
      | (with_reducible exact LeO.refl _)
      | (with_reducible exact LeO.none _)
      | (with_reducible refine LeO.ite ?_ ?_)
      | (with_reducible refine LeO.bind ?_ (fun _ => ?_))
      | exact ih0 _ _
      | exact LeO.none _
      | refine LeO.ite ?_ ?_
      | refine LeO.bind ?_ (fun _ => ?_)
theorem papermilllaw52_few.mono : ∀ a0 k, LeO (papermilllaw52_few.f k a0) (papermilllaw52_few.f (k + 1) a0) := by
  intro a0 k
  have ih0 := papermilllaw52_few.mono_l k
  unfold papermilllaw52_few.f
  repeat' first
      | (with_reducible exact ih0 _ _)
      | (with_reducible exact LeO.refl _)
      | (with_reducible exact LeO.none _)
      | (with_reducible refine LeO.ite ?_ ?_)
      | (with_reducible refine LeO.bind ?_ (fun _ => ?_))
      | exact ih0 _ _
      | exact LeO.none _
      | refine LeO.ite ?_ ?_
      | refine LeO.bind ?_ (fun _ => ?_)
set_option maxHeartbeats 8000000 in
set_option maxRecDepth 100000 in
theorem papermilllaw52_few.calls (k : Nat) (A0 : Option Addr) (c0 : Nat) (l0 : List (S25)) (r : Bool) (w : World) (hr0 : Kd.C k25 w A0 l0.length l0) (hc0 : l0.length ≤ c0) (h : papermilllaw52_few.f k l0 = some r) :
    Calls Try.prog 20 #[.slice A0 l0.length c0] w fun e w' => e = .returned (.bool r) ∧ Drawn0 w w' := by
  have HR0 := Aside0.mk hr0
  have HC0 := Aside0.mk hc0
  clear hr0 hc0
  have H : (if (l0.length : Int) > 30 then (some false) else (papermilllaw52_few.l0 k l0 0)) = some r := h
  clear h
  by_cases c2 : (l0.length : Int) > 30
  · rw [if_pos c2] at H
    have c2b0 : decide (30 < (l0.length : Int)) = true := decide_eq_true c2
    have c2b1 : decide (30 < l0.length) = true := decide_eq_true (by omega)
    clear c2
    obtain rfl := Option.some.inj H
    go_enter Try.func20, Try.ntmps20
    go_wp2
    go_ret
    exact ⟨by first | rfl | (simp; done) | (simp [*]; done), by repeat (first | exact Drawn0.refl _ | apply Drawn0.step)⟩
  · rw [if_neg c2] at H
    have c2b0 : decide (30 < (l0.length : Int)) = false := decide_eq_false c2
    have c2b1 : decide (30 < l0.length) = false := decide_eq_false (by omega)
    clear c2
    have H' := Aside0.mk H
    clear H
    go_enter Try.func20, Try.ntmps20
    go_wp2
    go_loopg [3] k (fun kq v3 w' => ∃ (x3_1 : Int), v3 = .int .i64 x3_1 ∧ Aside0 (papermilllaw52_few.l0 kq l0 x3_1 = some r) ∧ Aside0 (kq ≤ k) ∧ Drawn0 w w')
    case atStart => exact ⟨(0), (by first | rfl | (simp; done) | (simp [*]; done)), H', ⟨Nat.le_refl _⟩, by repeat (first | exact Drawn0.refl _ | apply Drawn0.step)⟩
    case round =>
      clear H'
      try clear c2
      try clear c2b0
      try clear c2b1
      try clear p2
      obtain ⟨x3_1, rfl, HA, HK1, ⟨m1, rfl⟩⟩ := hrel
      cases gk with
      | zero => exact absurd HA.out (by simp [papermilllaw52_few.l0])
      | succ k1 =>
        have H := HA.out
        clear HA
        simp only [papermilllaw52_few.l0] at H
        by_cases c3 : x3_1 < (l0.length : Int)
        · rw [if_pos c3] at H
          have c3b0 : decide (x3_1 < (l0.length : Int)) = true := decide_eq_true c3
          clear c3
          by_cases c4 : 0 ≤ x3_1
          · rw [if_pos c4] at H
            have c4b0 : decide (0 ≤ x3_1) = true := decide_eq_true c4
            clear c4
            by_cases c5 : (((rd_T25 l0 x3_1).f1).length : Int) > 300
            · rw [if_pos c5] at H
              have c5b0 : decide (300 < (((rd_T25 l0 x3_1).f1).length : Int)) = true := decide_eq_true c5
              have c5b1 : decide (300 < ((rd_T25 l0 x3_1).f1).length) = true := decide_eq_true (by omega)
              clear c5
              obtain rfl := Option.some.inj H
              have p21001 : 0 ≤ (x3_1 : Int) := of_decide_eq_true (by first | (with_reducible assumption) | assumption)
              have q21001 : x3_1 < (l0.length : Int) := of_decide_eq_true (by first | (with_reducible assumption) | assumption)
              obtain ⟨ad21001, A21001_1, c21001_1, e21001, hx21001_0, hx21001_1, hx21001_2, hl21001_1, hi21001_1⟩ := at_T25 HR0.out x3_1 p21001 q21001
              cases e21001
              have HR21001_1 := Aside0.mk hi21001_1
              have HC21001_1 := Aside0.mk hl21001_1
              clear hi21001_1 hl21001_1
              replace p21001 := eq_true p21001
              replace q21001 := eq_true q21001
              go_wp2
              go_ret
              exact ⟨by first | rfl | (simp; done) | (simp [*]; done), by repeat (first | exact Drawn0.refl _ | apply Drawn0.step)⟩
            · rw [if_neg c5] at H
              have c5b0 : decide (300 < (((rd_T25 l0 x3_1).f1).length : Int)) = false := decide_eq_false c5
              have c5b1 : decide (300 < ((rd_T25 l0 x3_1).f1).length) = false := decide_eq_false (by omega)
              clear c5
              have H' := Aside0.mk H
              clear H
              have p21001 : 0 ≤ (x3_1 : Int) := of_decide_eq_true (by first | (with_reducible assumption) | assumption)
              have q21001 : x3_1 < (l0.length : Int) := of_decide_eq_true (by first | (with_reducible assumption) | assumption)
              obtain ⟨ad21001, A21001_1, c21001_1, e21001, hx21001_0, hx21001_1, hx21001_2, hl21001_1, hi21001_1⟩ := at_T25 HR0.out x3_1 p21001 q21001
              cases e21001
              have HR21001_1 := Aside0.mk hi21001_1
              have HC21001_1 := Aside0.mk hl21001_1
              clear hi21001_1 hl21001_1
              replace p21001 := eq_true p21001
              replace q21001 := eq_true q21001
              go_wp2
              go_roundg k1
              case measure => have := HK1.out; omega
              case rel => exact ⟨(wrap64 (x3_1 + 1)), (by first | rfl | (simp; done) | (simp [*]; done)), H', ⟨by have := HK1.out; omega⟩, by repeat (first | exact Drawn0.refl _ | apply Drawn0.step)⟩
          · rw [if_neg c4] at H
            exact absurd H (by simp)
        · rw [if_neg c3] at H
          have c3b0 : decide (x3_1 < (l0.length : Int)) = false := decide_eq_false c3
          clear c3
          obtain rfl := Option.some.inj H
          go_wp2
          go_ret
          exact ⟨by first | rfl | (simp; done) | (simp [*]; done), by repeat (first | exact Drawn0.refl _ | apply Drawn0.step)⟩

end Go.Proofs.Ytnfcpcgbdoiiiaa.G

namespace Go.Proofs.Ytnfcpcgbdoiiiaa.G
open Go.RowKit Go.Proofs.YtnfcpcgbdoiiiaaW.PrintWords Go.Proofs.YtnfcpcgbdoiiiaaW.PrintLast Go.Proofs.YtnfcpcgbdoiiiaaW.PrintMore
set_option linter.unusedVariables false
set_option linter.unusedSimpArgs false
def cnt (f : Int → Bool) : Nat → Int
  | 0 => 0
  | n + 1 => cnt f n + if f n = true then 1 else 0
theorem cnt_add (f g h k : Int → Bool) (hp : ∀ x, (if f x = true then (1 : Int) else 0) + (if g x = true then 1 else 0) = (if h x = true then 1 else 0) + (if k x = true then 1 else 0)) : ∀ n, cnt f n + cnt g n = cnt h n + cnt k n
  | 0 => rfl
  | n + 1 => by
    have h1 := cnt_add f g h k hp n
    have h2 := hp n
    simp only [cnt]
    omega
theorem cnt_none : ∀ n, cnt (fun _ => false) n = 0
  | 0 => rfl
  | n + 1 => by simp [cnt, cnt_none n]
theorem cnt_span (s : S50) (h0 : 0 ≤ s.f0) (h1 : s.f0 ≤ s.f1) : ∀ n : Nat, cnt (fun x => decide (s.f0 ≤ x ∧ x < s.f1)) n = (if (n : Int) ≤ s.f0 then 0 else if (n : Int) ≤ s.f1 then n - s.f0 else s.f1 - s.f0)
  | 0 => by simp [cnt]; omega
  | n + 1 => by
    simp only [cnt, decide_eq_true_eq]
    rw [cnt_span s h0 h1 n]
    split <;> split <;> (try split) <;> (try split) <;> (try split) <;> omega
theorem tot_cnt (M : Nat) : ∀ (l : List S50) (e : Int), -1 ≤ e → sep e l → (∀ s ∈ l, s.f1 ≤ M) → tot l = cnt (hasOf l) M
  | [], e, _, _, _ => by
    have : hasOf [] = fun _ => false := rfl
    rw [this, cnt_none]
    rfl
  | s :: l, e, he, h, hb => by
    rw [tot_cons, tot_cnt M l s.f1 (by have := h.1; have := h.2.1; omega) h.2.2 (fun t ht => hb t (by simp [ht]))]
    have h1 := cnt_span s (by have := h.1; omega) (by have := h.2.1; omega) M
    have h2 := hb s (by simp)
    have h3 := h.2.1
    have h4 := h.1
    have e1 : cnt (fun x => decide (s.f0 ≤ x ∧ x < s.f1)) M = s.f1 - s.f0 := by rw [h1]; split <;> (try split) <;> omega
    have h5 := cnt_add (hasOf (s :: l)) (fun _ => false) (fun x => decide (s.f0 ≤ x ∧ x < s.f1)) (hasOf l) (fun x => by
      rw [hasOf_cons]
      by_cases q : s.f0 ≤ x ∧ x < s.f1
      · rw [sep_has h.2.2 (by omega)]; simp [q]
      · have : decide (s.f0 ≤ x ∧ x < s.f1) = false := by simpa using q
        rw [this]; simp) M
    rw [cnt_none] at h5
    omega
theorem cnt_mono (f g : Int → Bool) (h : ∀ x, f x = true → g x = true) : ∀ n, cnt f n ≤ cnt g n
  | 0 => by simp [cnt]
  | n + 1 => by
    have h1 := cnt_mono f g h n
    have h2 := h n
    simp only [cnt]
    cases hf : f (n : Int) <;> cases hg : g (n : Int) <;> simp_all <;> omega
theorem tot_mono (M : Nat) (a b : List S50) (sa : sep (-1) a) (sb : sep (-1) b) (ha : ∀ s ∈ a, s.f1 ≤ M) (hb : ∀ s ∈ b, s.f1 ≤ M) (h : ∀ x, hasOf a x = true → hasOf b x = true) : tot a ≤ tot b := by
  rw [tot_cnt M a (-1) (by omega) sa ha, tot_cnt M b (-1) (by omega) sb hb]
  exact cnt_mono _ _ h M
/-- the sheets of a roll, as they may be -/
def Fair (c : Int) (g : List S50) : Prop := 0 ≤ c ∧ c ≤ 17179869184 ∧ g.length ≤ 256 ∧ sep (-1) g ∧ ∀ s ∈ g, s.f1 ≤ c
theorem sep_last (d : List S50) (y : S50) (e : Int) (h : sep e (d ++ [y])) : ∀ s ∈ d ++ [y], s.f1 ≤ y.f1 := by
  obtain ⟨_, h2, _, h4⟩ := sep_init h
  intro s hs
  rcases List.mem_append.1 hs with hs | hs
  · have := h2 s hs; omega
  · obtain rfl := List.mem_singleton.1 hs
    omega
theorem Fair.check {c : Int} {g : List S50} (h : Fair c g) : check04 g = 0 := by
  obtain ⟨h0, h1, h2, h3, h4⟩ := h
  unfold check04
  rw [if_neg (by omega), if_neg]
  rintro ⟨s, hs, hb⟩
  have a1 := sep_in h3 s hs
  have a2 := h4 s hs
  unfold badS at hb
  omega
theorem Fair.join {c : Int} {g : List S50} (h : Fair c g) : joinOf g = g := by
  obtain ⟨h0, h1, h2, h3, h4⟩ := h
  have hj := joinOf_ok g (-1) (fun s hs => by have := sep_in h3 s hs; omega)
  exact sep_unique hj.1 h3 hj.2
theorem Fair.one {c : Int} {g : List S50} (h : Fair c g) : oneOf c g = 0 := by
  have hc := h.check
  have hj := h.join
  obtain ⟨h0, h1, h2, h3, h4⟩ := h
  unfold oneOf
  rw [if_neg (by omega), if_pos hc, hj, if_pos ((sameL_iff g g).2 rfl)]
  unfold overOf
  by_cases hl : 0 < g.length
  · rw [if_pos hl, if_neg]
    have := h4 (rd_T50 g ((g.length - 1 : Nat) : Int)) (by rw [rd36 g _ (by omega)]; exact List.getElem_mem _)
    omega
  · rw [if_neg hl]
theorem Fair.of {c : Int} {g : List S50} (h : oneOf c g = 0) : Fair c g := by
  obtain ⟨h0, h1, h2, h3, h4⟩ := one_zero h
  obtain ⟨g1, g2⟩ := good04 h2
  have hj := joinOf_ok g (-1) (fun s hs => by have := g2 s hs; omega)
  rw [h3] at hj
  refine ⟨h0, h1, g1, hj.1, fun s hs => ?_⟩
  have hl : 0 < g.length := List.length_pos_of_mem hs
  unfold overOf at h4
  rw [if_pos hl] at h4
  obtain ⟨d, y, rfl⟩ : ∃ d y, g = d ++ [y] := ⟨g.dropLast, g.getLast (fun e => by rw [e] at hl; cases hl), (List.dropLast_concat_getLast _).symm⟩
  have hy : rd_T50 (d ++ [y]) (((d ++ [y]).length - 1 : Nat) : Int) = y := by
    rw [rd36 _ _ (by simp)]; simp
  rw [hy] at h4
  have h5 := sep_last d y (-1) hj.1 s hs
  by_cases h6 : y.f1 > c
  · rw [if_pos h6] at h4; cases h4
  · omega
theorem mn_min (a b : Int) : mn a b = min a b := by unfold mn; split <;> omega
theorem Fair.both {c d : Int} {g q : List S50} (h : Fair c g) (k : Fair d q) (hb : (bothOf g q 1).2 = 0) : Fair (mn c d) (bothOf g q 1).1 := by
  obtain ⟨_, _, e⟩ := both_zero hb
  have hl := both_fits hb
  have hm := both_has (Or.inr (Or.inl rfl)) hb
  obtain ⟨h0, h1, h2, h3, h4⟩ := h
  obtain ⟨k0, k1, k2, k3, k4⟩ := k
  have hs := (comb_ok g q 1 (Or.inr (Or.inl rfl)) (-1) (fun s hs => hs.elim (fun h => by have := sep_in h3 s h; omega) (fun h => by have := sep_in k3 s h; omega))).1
  rw [← e] at hs
  rw [mn_min]
  refine ⟨by omega, by omega, hl, hs, fun s hmem => ?_⟩
  have a1 := sep_in hs s hmem
  have a2 : hasOf (bothOf g q 1).1 (s.f1 - 1) = true := (hasOf_iff _ _).2 ⟨s, hmem, by omega, by omega⟩
  rw [hm, wayOf_1, Bool.and_eq_true, hasOf_iff, hasOf_iff] at a2
  obtain ⟨⟨t, ht, t1, t2⟩, u, hu, u1, u2⟩ := a2
  have b1 := h4 t ht
  have b2 := k4 u hu
  omega
theorem firstOne_zero : ∀ (l : List S25), firstOne l = 0 → ∀ s ∈ l, Fair s.f0 s.f1
  | [], _ => by simp
  | s :: l, h => by
    unfold firstOne at h
    by_cases h1 : oneOf s.f0 s.f1 = 0
    · rw [if_pos h1] at h
      intro t ht
      rcases List.mem_cons.1 ht with rfl | ht
      · exact Fair.of h1
      · exact firstOne_zero l h t ht
    · rw [if_neg h1] at h; exact absurd h h1
def leastOf (l : List S25) (m : Int) : Int := l.foldl (fun m s => mn m s.f0) m
def allOf (l : List S25) (x : Int) : Bool := l.all fun s => hasOf s.f1 x
theorem foldT_ok : ∀ (r : List S25) (c : Int) (g : List S50), Fair c g → (∀ s ∈ r, Fair s.f0 s.f1) →
    ((foldT c g r).2.2.2 = 0 → (foldT c g r).1 = leastOf r c ∧ (foldT c g r).2.2.1 = 0 ∧ Fair (foldT c g r).1 (foldT c g r).2.1 ∧ ∀ x, hasOf (foldT c g r).2.1 x = (hasOf g x && allOf r x)) ∧ ((foldT c g r).2.2.2 ≠ 0 → (foldT c g r).1 = 0 ∧ (foldT c g r).2.1 = [])
  | [], c, g, h, _ => by
    refine ⟨fun _ => ⟨rfl, rfl, h, fun x => ?_⟩, fun hne => absurd rfl hne⟩
    show hasOf g x = (hasOf g x && true)
    rw [Bool.and_true]
  | s :: r, c, g, h, hr => by
    rw [foldT]
    by_cases hb : (bothOf g s.f1 1).2 = 0
    · rw [if_pos hb]
      obtain ⟨i1, i2⟩ := foldT_ok r _ _ (h.both (hr s (by simp)) hb) (fun t ht => hr t (by simp [ht]))
      refine ⟨fun he => ?_, i2⟩
      obtain ⟨j1, j2, j3, j4⟩ := i1 he
      refine ⟨j1, j2, j3, fun x => ?_⟩
      rw [j4 x, both_has (Or.inr (Or.inl rfl)) hb, wayOf_1, Bool.and_assoc]
      rfl
    · rw [if_neg hb]
      exact ⟨fun he => absurd he hb, fun _ => ⟨rfl, rfl⟩⟩
theorem tog_ok (l : List S25) : ((togOf l).2.2.2 = 0 → 0 < l.length ∧ l.length ≤ 16 ∧ (∀ s ∈ l, Fair s.f0 s.f1) ∧ (togOf l).1 = leastOf l 17179869184 ∧ (togOf l).2.2.1 = 0 ∧ Fair (togOf l).1 (togOf l).2.1 ∧ ∀ x, hasOf (togOf l).2.1 x = allOf l x) ∧ ((togOf l).2.2.2 ≠ 0 → (togOf l).1 = 0 ∧ (togOf l).2.1 = []) := by
  unfold togOf
  by_cases h : l.length = 0
  · rw [if_pos h]; exact ⟨fun he => absurd he (by decide), fun _ => ⟨rfl, rfl⟩⟩
  rw [if_neg h]
  by_cases h2 : l.length > 16
  · rw [if_pos h2]; exact ⟨fun he => absurd he (by decide), fun _ => ⟨rfl, rfl⟩⟩
  rw [if_neg h2]
  by_cases h3 : firstOne l = 0
  · rw [if_pos h3]
    have hf := firstOne_zero l h3
    match l, h, hf with
    | s :: r, _, hf =>
      have e : rd_T25 (s :: r) 0 = s := rfl
      rw [e]
      have hs := hf s (by simp)
      obtain ⟨i1, i2⟩ := foldT_ok r s.f0 s.f1 hs (fun t ht => hf t (by simp [ht]))
      refine ⟨fun he => ?_, i2⟩
      obtain ⟨j1, j2, j3, j4⟩ := i1 he
      refine ⟨by simp, by omega, hf, ?_, j2, j3, fun x => by rw [List.drop_one]; exact j4 x⟩
      have em : mn 17179869184 s.f0 = s.f0 := by rw [mn_min]; have := hs.2.1; omega
      show (foldT s.f0 s.f1 r).1 = leastOf r (mn 17179869184 s.f0)
      rw [em]; exact j1
  · rw [if_neg h3]; exact ⟨fun he => absurd he h3, fun _ => ⟨rfl, rfl⟩⟩
theorem good_fair {c : Int} {g : List S50} (h : Fair c g) : goodOf c g = (tot g, 0) := by
  unfold goodOf totalOf
  rw [if_pos h.one, if_pos h.check, h.join]
def fewB (l : List S25) : Bool := decide (l.length ≤ 30) && l.all fun s => decide (s.f1.length ≤ 300)
theorem few_l0 (l : List S25) (hl : l.length ≤ 30) : ∀ (d i : Nat), l.length - i = d → i ≤ l.length → Ends (fun k => papermilllaw52_few.l0 k l (i : Int)) ((l.drop i).all fun s => decide (s.f1.length ≤ 300)) := by
  intro d
  induction d with
  | zero =>
    intro i hd hi
    rw [List.drop_of_length_le (by omega)]
    refine Ends.succ ?_
    simp only [papermilllaw52_few.l0]
    exact Ends.neg (by omega) (Ends.ret _)
  | succ d ih =>
    intro i hd hi
    have := ih (i + 1) (by omega) (by omega)
    rw [drop25 l i (by omega)]
    refine Ends.succ ?_
    simp only [papermilllaw52_few.l0, wrap_nat i (by omega)]
    refine Ends.pos (by omega) (Ends.pos (by omega) ?_)
    by_cases h1 : ((rd_T25 l (i : Int)).f1.length : Int) > 300
    · exact Ends.pos h1 ((Ends.ret _).congr (by rw [List.all_cons, decide_eq_false (by omega)]; rfl))
    · exact Ends.neg h1 (this.congr (by rw [List.all_cons, decide_eq_true (by omega)]; rfl))
theorem few_ends (l : List S25) : Ends (fun k => papermilllaw52_few.f k l) (fewB l) := by
  unfold papermilllaw52_few.f fewB
  by_cases h : (l.length : Int) > 30
  · exact Ends.pos h ((Ends.ret _).congr (by rw [decide_eq_false (by omega)]; rfl))
  · exact Ends.neg h ((few_l0 l (by omega) _ 0 rfl (by omega)).congr (by rw [decide_eq_true (by omega)]; rfl))
end Go.Proofs.Ytnfcpcgbdoiiiaa.G
