import Derived.Test.YtfdfpdiemeomiaaGxpapermilllaw34ReelPieces
import Derived.Test.YtfdfpdiemeomiaaGhOpen
import Derived.Test.YtfdfpdiemeomiaaPureBase
namespace Go.Proofs.Ytfdfpdiemeomiaa.G
open Go.RowKit Go.Proofs.YtfdfpdiemeomiaaW.PrintWords Go.Proofs.YtfdfpdiemeomiaaW.PrintLast Go.Proofs.YtfdfpdiemeomiaaW.PrintMore
set_option linter.unusedVariables false
set_option linter.unusedSimpArgs false
def chain : Int → List S44 → Prop
  | _, [] => True
  | e, x :: r => x.f0 = e ∧ e < x.f1 ∧ chain x.f1 r
def fin44 : Int → List S44 → Int
  | e, [] => e
  | _, x :: r => fin44 x.f1 r
theorem chain_le : ∀ {l : List S44} {e : Int}, chain e l → e ≤ fin44 e l ∧ ∀ x ∈ l, e ≤ x.f0 ∧ x.f0 < x.f1
  | [], e, _ => ⟨Int.le_refl _, by simp⟩
  | x :: r, e, h => by
    obtain ⟨h1, h2, h3⟩ := h
    obtain ⟨i1, i2⟩ := chain_le h3
    refine ⟨by show e ≤ fin44 x.f1 r; omega, fun y hy => ?_⟩
    rcases List.mem_cons.1 hy with rfl | hy
    · omega
    · have := i2 y hy; omega
theorem chain_of : ∀ {l : List S44} {e p : Int}, firstErr l = 0 → ordErr e p l = 0 → chain e l
  | [], _, _, _, _ => trivial
  | x :: r, e, p, h1, h2 => by
    have hx := first_all h1 x (by simp)
    have hb : x.f0 < x.f1 := by
      unfold secErr at hx
      split at hx
      · cases hx
      · omega
    have hr : firstErr r = 0 := by
      unfold firstErr at h1
      rw [if_pos hx] at h1
      exact h1
    unfold ordErr at h2
    split at h2
    · rename_i h3
      exact ⟨h3.1, by omega, chain_of hr h2⟩
    · cases h2
theorem fin44_end : ∀ (l : List S44) (e : Int), l ≠ [] → fin44 e l = (rd_T44 l ((l.length - 1 : Nat) : Int)).f1
  | [], _, h => absurd rfl h
  | [x], e, _ => rfl
  | x :: y :: r, e, _ => by
    have := fin44_end (y :: r) x.f1 (by simp)
    rw [fin44, this]
    rw [rd44 _ _ (by simp), rd44 _ _ (by simp)]
    simp
theorem endOf_fin (l : List S44) : endOf l = fin44 0 l := by
  unfold endOf
  split
  · rename_i h; rw [List.length_eq_zero_iff.1 h]; rfl
  · rename_i h; rw [fin44_end l 0 (fun e => h (by rw [e]; rfl))]
theorem checkOf_zero {l : List S44} (h : checkOf l = 0) : l.length ≤ 512 ∧ firstErr l = 0 ∧ chain 0 l := by
  unfold checkOf at h
  split at h
  · cases h
  · split at h
    · rename_i h1 h2
      exact ⟨by omega, h2, chain_of h2 h⟩
    · contradiction
theorem endOf_le {l : List S44} (h : checkOf l = 0) : endOf l ≤ 17179869184 := by
  unfold endOf
  split
  · omega
  · rename_i h0
    have hf : firstErr l = 0 := by
      unfold checkOf at h
      split at h
      · cases h
      · split at h
        · assumption
        · contradiction
    have hm : rd_T44 l ((l.length - 1 : Nat) : Int) ∈ l := by rw [rd44 l _ (by omega)]; exact List.getElem_mem _
    have := first_all hf _ hm
    unfold secErr at this
    split at this
    · cases this
    · omega
theorem sec_bounds {x : S44} (h : secErr x = 0) : 0 ≤ x.f0 ∧ x.f0 < x.f1 ∧ x.f1 ≤ 17179869184 := by
  unfold secErr at h
  split at h
  · cases h
  · omega
theorem sec_cut {x : S44} {a b : Int} (hx : secErr x = 0) (ha : 0 ≤ a) (hb : b ≤ 17179869184) (hab : a ≤ b) : (cutSec a b x).f0 = mx x.f0 a - a ∧ (cutSec a b x).f1 = mn x.f1 b - a ∧ ((cutSec a b x).f0 < (cutSec a b x).f1 ↔ (a < b ∧ x.f0 < b ∧ a < x.f1)) := by
  obtain ⟨h1, h2, h3⟩ := sec_bounds hx
  have e1 : (cutSec a b x).f0 = mx x.f0 a - a := by
    show wrap64 (mx x.f0 a - a) = _
    unfold mx wrap64; split <;> omega
  have e2 : (cutSec a b x).f1 = mn x.f1 b - a := by
    show wrap64 (mn x.f1 b - a) = _
    unfold mn wrap64; split <;> omega
  refine ⟨e1, e2, ?_⟩
  rw [e1, e2]
  unfold mx mn
  split <;> split <;> omega
def partsAns (l : List S44) (a b : Int) : List S44 × Int := if checkOf l = 0 then (if a < 0 ∨ a > b ∨ b > endOf l then ([], 1) else (partsOf a b l, 0)) else ([], checkOf l)
theorem parts_ends (l : List S44) (a b : Int) : Ends (fun k => reel_Parts.f k l a b) (partsAns l a b) := by
  unfold reel_Parts.f partsAns
  refine Ends.bind (check_ends l) ?_
  by_cases h1 : checkOf l = 0
  · simp only [if_pos h1]
    by_cases h2 : a < 0 ∨ a > b ∨ b > endOf l
    · simp only [if_pos h2]; exact Ends.ret _
    · simp only [if_neg h2]; exact Ends.ret _
  · simp only [if_neg h1]; exact Ends.ret _
theorem partsAns_len (l : List S44) (a b : Int) : (partsAns l a b).1.length ≤ 512 := by
  unfold partsAns
  split
  · rename_i h
    have := partsOf_len a b l
    have hl : l.length ≤ 512 := by
      unfold checkOf at h
      split at h
      · cases h
      · omega
    split
    · simp
    · show (partsOf a b l).length ≤ 512; omega
  · simp
theorem same44_l0 (l : List S44) (hl : l.length < 4000000000000000000) : ∀ (d i : Nat), l.length - i = d → i ≤ l.length → Ends (fun k => papermillref34_Same.l0 k l l (i : Int)) true := by
  intro d
  induction d with
  | zero =>
    intro i hd hi
    refine Ends.succ ?_
    simp only [papermillref34_Same.l0]
    exact Ends.neg (by omega) (Ends.ret _)
  | succ d ih =>
    intro i hd hi
    refine Ends.succ ?_
    simp only [papermillref34_Same.l0, wrap_nat i (by omega)]
    exact Ends.pos (by omega) (Ends.pos (by omega) (Ends.pos (by omega) (Ends.neg (by simp) (ih (i + 1) (by omega) (by omega)))))
theorem same44 (l : List S44) (hl : l.length < 4000000000000000000) : Ends (fun k => papermillref34_Same.f k l l) true := by
  unfold papermillref34_Same.f
  exact Ends.pos (by trivial) (same44_l0 l hl l.length 0 rfl (Nat.zero_le _))
theorem cut_id {x : S44} {b : Int} (hx : secErr x = 0) (hb : x.f1 ≤ b) (hb2 : b ≤ 17179869184) : cutSec 0 b x = x := by
  obtain ⟨h1, h2, h3⟩ := sec_bounds hx
  obtain ⟨e1, e2, _⟩ := sec_cut (a := 0) (b := b) hx (Int.le_refl _) hb2 (by omega)
  have e3 : mx x.f0 0 = x.f0 := by unfold mx; split <;> omega
  have e4 : mn x.f1 b = x.f1 := by unfold mn; split <;> omega
  have f0 : (cutSec 0 b x).f0 = x.f0 := by rw [e1, e3]; omega
  have f1 : (cutSec 0 b x).f1 = x.f1 := by rw [e2, e4]; omega
  show (⟨(cutSec 0 b x).f0, (cutSec 0 b x).f1, x.f2, x.f3, x.f4⟩ : S44) = x
  rw [f0, f1]
theorem partsOf_cons (a b : Int) (x : S44) (r : List S44) : partsOf a b (x :: r) = if (cutSec a b x).f0 < (cutSec a b x).f1 then cutSec a b x :: partsOf a b r else partsOf a b r := by
  unfold partsOf
  rw [List.map_cons, List.filter_cons]
  by_cases h : (cutSec a b x).f0 < (cutSec a b x).f1
  · rw [if_pos (by simpa using h), if_pos h]
  · rw [if_neg (by simpa using h), if_neg h]
theorem parts_whole : ∀ (l : List S44) (e b : Int), chain e l → (∀ x ∈ l, secErr x = 0) → fin44 e l ≤ b → b ≤ 17179869184 → partsOf 0 b l = l
  | [], _, _, _, _, _, _ => rfl
  | x :: r, e, b, hc, hs, hf, hb => by
    have h1 := (chain_le hc.2.2).1
    have hf : fin44 x.f1 r ≤ b := hf
    have hx := hs x (by simp)
    rw [partsOf_cons, cut_id hx (by omega) hb, if_pos (sec_bounds hx).2.1, parts_whole r x.f1 b hc.2.2 (fun y hy => hs y (by simp [hy])) hf hb]
theorem parts_none : ∀ (l : List S44) (e a b : Int), chain e l → (∀ x ∈ l, secErr x = 0) → 0 ≤ a → a ≤ b → b ≤ 17179869184 → b ≤ e → partsOf a b l = []
  | [], _, _, _, _, _, _, _, _, _ => rfl
  | x :: r, e, a, b, hc, hs, h0, h1, h2, h3 => by
    have hx := hs x (by simp)
    have := (sec_cut (a := a) (b := b) hx h0 h2 h1).2.2
    rw [partsOf_cons, if_neg (by rw [this]; have := hc.1; omega), parts_none r x.f1 a b hc.2.2 (fun y hy => hs y (by simp [hy])) h0 h1 h2 (by have := hc.2.1; omega)]
/-- The parts of a span lie one behind the other, from 0 to the span's length. -/
theorem parts_chain : ∀ (l : List S44) (e a b : Int), chain e l → (∀ x ∈ l, secErr x = 0) → 0 ≤ a → a < b → b ≤ 17179869184 → b ≤ fin44 e l → e < b → chain (mx e a - a) (partsOf a b l) ∧ fin44 (mx e a - a) (partsOf a b l) = b - a
  | [], e, a, b, _, _, _, _, _, h4, h5 => by simp [fin44] at h4; omega
  | x :: r, e, a, b, hc, hs, h0, h1, h2, h4, h5 => by
    have hx := hs x (by simp)
    have hs' : ∀ y ∈ r, secErr y = 0 := fun y hy => hs y (by simp [hy])
    have h4 : b ≤ fin44 x.f1 r := h4
    obtain ⟨c1, c2, c3⟩ := hc
    obtain ⟨e1, e2, e3⟩ := sec_cut (a := a) (b := b) hx h0 h2 (by omega)
    rw [partsOf_cons]
    by_cases h6 : a < x.f1
    · have h7 := e3.2 ⟨h1, by omega, h6⟩
      rw [if_pos h7]
      have g0 : (cutSec a b x).f0 = mx e a - a := by rw [e1, c1]
      by_cases h8 : x.f1 < b
      · obtain ⟨i1, i2⟩ := parts_chain r x.f1 a b c3 hs' h0 h1 h2 h4 h8
        have g1 : (cutSec a b x).f1 = mx x.f1 a - a := by
          rw [e2]; unfold mn mx; split <;> split <;> omega
        rw [← g1] at i1 i2
        exact ⟨⟨g0, by rw [← g0]; exact h7, i1⟩, i2⟩
      · have hn := parts_none r x.f1 a b c3 hs' h0 (by omega) h2 (by omega)
        rw [hn]
        have g1 : (cutSec a b x).f1 = b - a := by
          rw [e2]; unfold mn; split <;> omega
        exact ⟨⟨g0, by rw [← g0]; exact h7, trivial⟩, g1⟩
    · have h7 : ¬ (cutSec a b x).f0 < (cutSec a b x).f1 := by rw [e3]; omega
      rw [if_neg h7]
      have := parts_chain r x.f1 a b c3 hs' h0 h1 h2 h4 (by omega)
      have g : mx x.f1 a = mx e a := by unfold mx; split <;> split <;> omega
      rw [g] at this
      exact this
theorem S44_ext {x y : S44} (h0 : x.f0 = y.f0) (h1 : x.f1 = y.f1) (h2 : x.f2 = y.f2) (h3 : x.f3 = y.f3) (h4 : x.f4 = y.f4) : x = y := by cases x; cases y; simp_all
/-- The parts of a part are the parts there. -/
theorem parts_parts (a b c d : Int) (h0 : 0 ≤ a) (h1 : a ≤ b) (h2 : b ≤ 17179869184) (hc : 0 ≤ c) (hd : c ≤ d) (hdb : a + d ≤ b) : ∀ (l : List S44), (∀ x ∈ l, secErr x = 0) → partsOf c d (partsOf a b l) = partsOf (a + c) (a + d) l
  | [], _ => rfl
  | x :: r, hs => by
    have hx := hs x (by simp)
    have ih := parts_parts a b c d h0 h1 h2 hc hd hdb r (fun y hy => hs y (by simp [hy]))
    obtain ⟨b1, b2, b3⟩ := sec_bounds hx
    obtain ⟨e1, e2, e3⟩ := sec_cut (a := a) (b := b) hx h0 h2 h1
    obtain ⟨g1, g2, g3⟩ := sec_cut (a := a + c) (b := a + d) hx (by omega) (by omega) (by omega)
    rw [partsOf_cons a b, partsOf_cons (a + c) (a + d)]
    by_cases h3 : (cutSec a b x).f0 < (cutSec a b x).f1
    · rw [if_pos h3, partsOf_cons c d]
      have k := e3.1 h3
      have q0 : (cutSec c d (cutSec a b x)).f0 = (cutSec (a + c) (a + d) x).f0 := by
        rw [g1]
        show wrap64 (mx (cutSec a b x).f0 c - c) = _
        rw [e1]
        unfold mx wrap64
        split <;> split <;> split <;> omega
      have q1 : (cutSec c d (cutSec a b x)).f1 = (cutSec (a + c) (a + d) x).f1 := by
        rw [g2]
        show wrap64 (mn (cutSec a b x).f1 d - c) = _
        rw [e2]
        unfold mn wrap64
        split <;> split <;> split <;> omega
      have q : cutSec c d (cutSec a b x) = cutSec (a + c) (a + d) x := S44_ext q0 q1 rfl rfl rfl
      rw [q, ih]
    · rw [if_neg h3, ih]
      have h4 : ¬ (cutSec (a + c) (a + d) x).f0 < (cutSec (a + c) (a + d) x).f1 := by
        rw [e3] at h3; rw [g3]; omega
      rw [if_neg h4]
theorem ans_zero {l : List S44} {a b : Int} (h : (partsAns l a b).2 = 0) : checkOf l = 0 ∧ 0 ≤ a ∧ a ≤ b ∧ b ≤ endOf l ∧ partsAns l a b = (partsOf a b l, 0) := by
  unfold partsAns at h ⊢
  split at h
  · rename_i h1
    split at h
    · cases h
    · rename_i h2
      refine ⟨h1, by omega, by omega, by omega, ?_⟩
      rw [if_pos h1, if_neg h2]
  · rename_i h1
    exact absurd h h1
theorem ans_not {l : List S44} {a b : Int} (h : (partsAns l a b).2 ≠ 0) : (partsAns l a b).1 = [] := by
  unfold partsAns at h ⊢
  split
  · rename_i h1
    split
    · rfl
    · rename_i h2; rw [if_pos h1, if_neg h2] at h; exact absurd rfl h
  · rfl
theorem pc_j4 (l : List S44) (a b c d : Int) (h : (partsAns l a b).2 = 0) (q : List S44 × Int) (hq : q = partsAns (partsAns l a b).1 c d) (sk : Bool) (hsk : sk = false → q.2 = 0) : Ends (fun k => papermilllaw34_ReelPieces.j4 k l q.1 sk a b c d) true := by
  refine Ends.succ ?_
  simp only [papermilllaw34_ReelPieces.j4]
  cases sk with
  | true => exact Ends.pos rfl (Ends.ret _)
  | false =>
    refine Ends.neg (by simp) ?_
    have hq2 := hsk rfl
    obtain ⟨k1, k2, k3, k4, k5⟩ := ans_zero h
    rw [hq] at hq2
    obtain ⟨m1, m2, m3, m4, m5⟩ := ans_zero hq2
    obtain ⟨n1, n2, n3⟩ := checkOf_zero k1
    have hsec := first_all n2
    have hend := endOf_le k1
    rw [k5] at m4 m5 hq
    have m4 : d ≤ endOf (partsOf a b l) := m4
    have hle : endOf (partsOf a b l) ≤ b - a := by
      rcases Int.lt_or_le a b with hab | hab
      · rcases Int.lt_or_le 0 b with hb0 | hb0
        · have := (parts_chain l 0 a b n3 hsec k2 hab (by omega) (by rw [← endOf_fin]; exact k4) hb0).2
          have e0 : mx 0 a - a = 0 := by unfold mx; split <;> omega
          rw [e0] at this
          rw [endOf_fin, this]; omega
        · omega
      · have e : partsOf a b l = [] := by
          have hz : ∀ (l : List S44), (∀ x ∈ l, secErr x = 0) → partsOf a b l = [] := by
            intro l
            induction l with
            | nil => intro _; rfl
            | cons x r ih =>
              intro hs
              have := (sec_cut (a := a) (b := b) (hs x (by simp)) k2 (by omega) k3).2.2
              rw [partsOf_cons, if_neg (by rw [this]; omega), ih (fun y hy => hs y (by simp [hy]))]
          exact hz l hsec
        rw [e]; show (0 : Int) ≤ b - a; omega
    have w1 : wrap64 (a + c) = a + c := by unfold wrap64; omega
    have w2 : wrap64 (a + d) = a + d := by unfold wrap64; omega
    have hu : partsAns l (a + c) (a + d) = (partsOf (a + c) (a + d) l, 0) := by
      unfold partsAns
      rw [if_pos k1, if_neg (by omega)]
    have hpp := parts_parts a b c d k2 k3 (by omega) m2 m3 (by omega) l hsec
    rw [w1, w2]
    refine Ends.bind (parts_ends l _ _) ?_
    rw [hu]
    refine Ends.pos (by trivial) ?_
    have e : q.1 = partsOf (a + c) (a + d) l := by rw [hq, m5, ← hpp]
    rw [e]
    have hlen := partsOf_len (a + c) (a + d) l
    exact Ends.bind (same44 _ (by omega)) (Ends.pos (by trivial) (Ends.ret _))
theorem pc_l0 (l : List S44) (a b c d : Int) (h : (partsAns l a b).2 = 0) (p : List S44) (hp : p = (partsAns l a b).1) : ∀ (n i : Nat) (s : Int), p.length - i = n → i ≤ p.length → chain s (p.drop i) → fin44 s (p.drop i) = b - a → Ends (fun k => papermilllaw34_ReelPieces.l0 k l p s (i : Int) a b c d) true := by
  have hpl := partsAns_len l a b
  rw [← hp] at hpl
  intro n
  induction n with
  | zero =>
    intro i s hn hi hc hf
    rw [List.drop_of_length_le (by omega)] at hf
    have hf : s = b - a := hf
    obtain ⟨k1, k2, k3, k4, k5⟩ := ans_zero h
    have hend := endOf_le k1
    have hw : wrap64 (b - a) = b - a := by unfold wrap64; omega
    refine Ends.succ ?_
    simp only [papermilllaw34_ReelPieces.l0, hw]
    refine Ends.neg (by omega) (Ends.pos hf (Ends.bind (parts_ends p c d) ?_))
    by_cases h0 : (p.length : Int) = 0
    · refine Ends.pos h0 ?_
      exact pc_j4 l a b c d h (partsAns p c d) (by rw [hp]) true (by simp)
    · refine Ends.neg h0 ?_
      exact pc_j4 l a b c d h (partsAns p c d) (by rw [hp]) _ (by simp)
  | succ n ih =>
    intro i s hn hi hc hf
    rw [drop44 p i (by omega)] at hc hf
    refine Ends.succ ?_
    simp only [papermilllaw34_ReelPieces.l0, wrap_nat i (by omega)]
    have h1 := hc.1; have h2 := hc.2.1
    exact Ends.pos (by omega) (Ends.pos (by omega) (Ends.pos h1 (Ends.neg (by omega) (ih (i + 1) _ (by omega) (by omega) hc.2.2 hf))))
theorem ReelPieces : ∀ (l0 : List (S44)) (a1_0 : Int) (a1_1 : Int) (a2_0 : Int) (a2_1 : Int), (l0.length ≤ maxLen ∧ ∀ x ∈ l0, wf_44 x) → (Lit.int .i64 a1_0).wf = true → (Lit.int .i64 a1_1).wf = true → (Lit.int .i64 a2_0).wf = true → (Lit.int .i64 a2_1).wf = true → ∃ k, papermilllaw34_ReelPieces.f k l0 a1_0 a1_1 a2_0 a2_1 = some true := by
  intro l a b c d _ _ _ _ _
  refine Ends.get ?_
  unfold papermilllaw34_ReelPieces.f
  have hJ0 : Ends (fun k => papermilllaw34_ReelPieces.j0 k l true a b c d) true := by
    refine Ends.succ ?_
    simp only [papermilllaw34_ReelPieces.j0]
    exact Ends.pos (by trivial) (Ends.ret _)
  by_cases h : (l.length : Int) > 300
  · exact Ends.pos h hJ0
  · refine Ends.neg h (Ends.bind (check_ends l) ?_)
    by_cases hc : checkOf l = 0
    · rw [show ((checkOf l != 0) = false) from by rw [hc]; rfl]
      obtain ⟨n1, n2, n3⟩ := checkOf_zero hc
      have hsec := first_all n2
      have hend := endOf_le hc
      have he0 : 0 ≤ endOf l := by rw [endOf_fin]; exact (chain_le n3).1
      have hall : partsAns l 0 (endOf l) = (l, 0) := by
        unfold partsAns
        rw [if_pos hc, if_neg (by omega), parts_whole l 0 (endOf l) n3 hsec (by rw [← endOf_fin]; omega) hend]
      have hJ2 : Ends (fun k => papermilllaw34_ReelPieces.j2 k l false a b c d) true := by
        refine Ends.succ ?_
        simp only [papermilllaw34_ReelPieces.j2]
        refine Ends.neg (by simp) (Ends.bind (parts_ends l a b) ?_)
        by_cases h2 : (partsAns l a b).2 = 0
        · refine Ends.pos h2 ?_
          obtain ⟨k1, k2, k3, k4, k5⟩ := ans_zero h2
          have hch : chain 0 (partsAns l a b).1 ∧ fin44 0 (partsAns l a b).1 = b - a := by
            rw [k5]
            rcases Int.lt_or_le a b with hab | hab
            · have := parts_chain l 0 a b n3 hsec k2 hab (by omega) (by rw [← endOf_fin]; exact k4) (by omega)
              have e0 : mx 0 a - a = 0 := by unfold mx; split <;> omega
              rw [e0] at this
              exact this
            · have hz : ∀ (l : List S44), (∀ x ∈ l, secErr x = 0) → partsOf a b l = [] := by
                intro l
                induction l with
                | nil => intro _; rfl
                | cons x r ih =>
                  intro hs
                  have := (sec_cut (a := a) (b := b) (hs x (by simp)) k2 (by omega) k3).2.2
                  rw [partsOf_cons, if_neg (by rw [this]; omega), ih (fun y hy => hs y (by simp [hy]))]
              show chain 0 (partsOf a b l) ∧ fin44 0 (partsOf a b l) = b - a
              rw [hz l hsec]
              exact ⟨trivial, by show (0 : Int) = b - a; omega⟩
          have := pc_l0 l a b c d h2 _ rfl (partsAns l a b).1.length 0 0 rfl (Nat.zero_le _) hch.1 hch.2
          simpa using this
        · refine Ends.neg h2 ?_
          rw [ans_not h2]
          exact Ends.pos (by simp) (Ends.ret _)
      have hJ1 : Ends (fun k => papermilllaw34_ReelPieces.j1 k l (endOf l) a b c d) true := by
        refine Ends.succ ?_
        simp only [papermilllaw34_ReelPieces.j1]
        refine Ends.bind (parts_ends l 0 (endOf l)) ?_
        rw [hall]
        exact Ends.pos (by trivial) (Ends.bind (same44 l (by omega)) hJ2)
      refine Ends.succ ?_
      simp only [papermilllaw34_ReelPieces.j0]
      refine Ends.neg (by simp) ?_
      by_cases h0 : l.length = 0
      · have e : endOf l = 0 := by unfold endOf; rw [if_pos h0]
        rw [e] at hJ1
        exact Ends.neg (by omega) hJ1
      · have e : endOf l = (rd_T44 l ((l.length - 1 : Nat) : Int)).f1 := by unfold endOf; rw [if_neg h0]
        have hw : wrap64 ((l.length : Int) - 1) = ((l.length - 1 : Nat) : Int) := by unfold wrap64; omega
        rw [e] at hJ1
        simp only [hw]
        exact Ends.pos (by omega) (Ends.pos (by omega) (Ends.pos (by omega) hJ1))
    · rw [show ((checkOf l != 0) = true) from bne_iff_ne.mpr hc]
      exact hJ0
end Go.Proofs.Ytfdfpdiemeomiaa.G
