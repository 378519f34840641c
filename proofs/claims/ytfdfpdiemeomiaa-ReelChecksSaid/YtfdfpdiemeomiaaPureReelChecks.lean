import Derived.Test.YtfdfpdiemeomiaaGxpapermilllaw34ReelChecks
import Derived.Test.YtfdfpdiemeomiaaGhOpen
import Derived.Test.YtfdfpdiemeomiaaGxreelLost
import Derived.Test.YtfdfpdiemeomiaaGhreelPartsBase
import Derived.Test.YtfdfpdiemeomiaaGxpapermillref34Lost
import Derived.Test.YtfdfpdiemeomiaaPureBase
import Derived.Test.YtfdfpdiemeomiaaPureNorm
namespace Go.Proofs.Ytfdfpdiemeomiaa.G
open Go.RowKit Go.Proofs.YtfdfpdiemeomiaaW.PrintWords Go.Proofs.YtfdfpdiemeomiaaW.PrintLast Go.Proofs.YtfdfpdiemeomiaaW.PrintMore
set_option linter.unusedVariables false
set_option linter.unusedSimpArgs false
def chain : Int → List S44 → Prop
  | _, [] => True
  | e, x :: r => x.f0 = e ∧ e < x.f1 ∧ chain x.f1 r
def fin44 : Int → List S44 → Int
  | e, [] => e
  | _, x :: r => fin44 x.f1 r
theorem chain_le : ∀ {l : List S44} {e : Int}, chain e l → e ≤ fin44 e l ∧ ∀ x ∈ l, e ≤ x.f0 ∧ x.f0 < x.f1
  | [], e, _ => ⟨Int.le_refl _, by simp⟩
  | x :: r, e, h => by
    obtain ⟨h1, h2, h3⟩ := h
    obtain ⟨i1, i2⟩ := chain_le h3
    refine ⟨by show e ≤ fin44 x.f1 r; omega, fun y hy => ?_⟩
    rcases List.mem_cons.1 hy with rfl | hy
    · omega
    · have := i2 y hy; omega
theorem chain_of : ∀ {l : List S44} {e p : Int}, firstErr l = 0 → ordErr e p l = 0 → chain e l
  | [], _, _, _, _ => trivial
  | x :: r, e, p, h1, h2 => by
    have hx := first_all h1 x (by simp)
    have hb : x.f0 < x.f1 := by
      unfold secErr at hx
      split at hx
      · cases hx
      · omega
    have hr : firstErr r = 0 := by
      unfold firstErr at h1
      rw [if_pos hx] at h1
      exact h1
    unfold ordErr at h2
    split at h2
    · rename_i h3
      exact ⟨h3.1, by omega, chain_of hr h2⟩
    · cases h2
theorem fin44_end : ∀ (l : List S44) (e : Int), l ≠ [] → fin44 e l = (rd_T44 l ((l.length - 1 : Nat) : Int)).f1
  | [], _, h => absurd rfl h
  | [x], e, _ => rfl
  | x :: y :: r, e, _ => by
    have := fin44_end (y :: r) x.f1 (by simp)
    rw [fin44, this]
    rw [rd44 _ _ (by simp), rd44 _ _ (by simp)]
    simp
theorem endOf_fin (l : List S44) : endOf l = fin44 0 l := by
  unfold endOf
  split
  · rename_i h; rw [List.length_eq_zero_iff.1 h]; rfl
  · rename_i h; rw [fin44_end l 0 (fun e => h (by rw [e]; rfl))]
theorem checkOf_zero {l : List S44} (h : checkOf l = 0) : l.length ≤ 512 ∧ firstErr l = 0 ∧ chain 0 l := by
  unfold checkOf at h
  split at h
  · cases h
  · split at h
    · rename_i h1 h2
      exact ⟨by omega, h2, chain_of h2 h⟩
    · contradiction
theorem endOf_le {l : List S44} (h : checkOf l = 0) : endOf l ≤ 17179869184 := by
  unfold endOf
  split
  · omega
  · rename_i h0
    have hf : firstErr l = 0 := by
      unfold checkOf at h
      split at h
      · cases h
      · split at h
        · assumption
        · contradiction
    have hm : rd_T44 l ((l.length - 1 : Nat) : Int) ∈ l := by rw [rd44 l _ (by omega)]; exact List.getElem_mem _
    have := first_all hf _ hm
    unfold secErr at this
    split at this
    · cases this
    · omega
def lostStep (out : List S36) (x : S44) : List S36 := if x.f2 = 3 then push out x.f0 x.f1 else out
def lostOf (l : List S44) : List S36 := l.foldl lostStep []
theorem lostStep_len (out : List S36) (x : S44) : (lostStep out x).length ≤ out.length + 1 := by
  unfold lostStep
  split
  · exact push_len _ _ _
  · omega
theorem last_eq (x5 : List S36) (h0 : x5.length ≠ 0) (c d : Int) : push x5 c d = if (rd_T36 x5 ((x5.length - 1 : Nat) : Int)).f1 = c then x5.set (x5.length - 1) ⟨(rd_T36 x5 ((x5.length - 1 : Nat) : Int)).f0, d⟩ else x5 ++ [⟨c, d⟩] := by
  unfold push
  rw [getLast_rd x5 h0]
  simp only [dropLast_set x5 h0]
theorem wrap_len (x5 : List S36) (h : x5.length < 4000000000000000000) (h0 : x5.length ≠ 0) : wrap64 ((x5.length : Int) - 1) = ((x5.length - 1 : Nat) : Int) := by unfold wrap64; omega
theorem wrap_len0 : wrap64 ((([] : List S36).length : Int) - 1) = -1 := by simp [wrap64]
theorem lost_l0 (l : List S44) (hl : l.length ≤ 512) : ∀ (d i : Nat) (out : List S36), l.length - i = d → i ≤ l.length → out.length + d < 1000000 → Ends (fun k => reel_Lost.l0 k out l (l.length : Int) (i : Int)) ((l.drop i).foldl lostStep out, 0) := by
  intro d
  induction d with
  | zero =>
    intro i out hd hi ho
    rw [List.drop_of_length_le (by omega)]
    refine Ends.succ ?_
    simp only [reel_Lost.l0]
    exact Ends.neg (by omega) (Ends.ret _)
  | succ d ih =>
    intro i out hd hi ho
    rw [drop44 l i (by omega), List.foldl_cons]
    refine Ends.succ ?_
    have hs := lostStep_len out (rd_T44 l i)
    have := ih (i + 1) (lostStep out (rd_T44 l i)) (by omega) (by omega) (by omega)
    simp only [reel_Lost.l0, wrap_nat i (by omega)]
    refine Ends.pos (by omega) (Ends.pos (by omega) (Ends.pos (by omega) ?_))
    by_cases h3 : (rd_T44 l i).f2 = 3
    · refine Ends.pos h3 ?_
      rw [lostStep, if_pos h3] at this ⊢
      by_cases h0 : out.length = 0
      · have e : out = [] := List.length_eq_zero_iff.1 h0
        subst e
        exact Ends.neg (by simp) (Ends.pos (by simp) this)
      · refine Ends.pos (by omega) ?_
        rw [last_eq out h0] at this ⊢
        simp only [wrap_len out (by omega) h0, Int.toNat_natCast]
        refine Ends.pos (by omega) (Ends.pos (by omega) ?_)
        by_cases h4 : (rd_T36 out ((out.length - 1 : Nat) : Int)).f1 = (rd_T44 l i).f0
        · rw [if_pos h4] at this ⊢
          exact Ends.pos h4 this
        · rw [if_neg h4] at this ⊢
          exact Ends.neg h4 (Ends.pos (by omega) this)
    · refine Ends.neg h3 ?_
      rw [lostStep, if_neg h3] at this ⊢
      exact this
theorem reflost_l0 (l : List S44) (hl : l.length ≤ 512) (r : List S36 × Int) (hr : Ends (fun k => papermillref04_Norm.f k (lostOf l)) r) : ∀ (d i : Nat) (out : List S36), l.length - i = d → i ≤ l.length → out.length + d < 1000000 → (l.drop i).foldl lostStep out = lostOf l → Ends (fun k => papermillref34_Lost.l0 k l out (i : Int)) r := by
  intro d
  induction d with
  | zero =>
    intro i out hd hi ho he
    rw [List.drop_of_length_le (by omega)] at he
    have he : out = lostOf l := he
    rw [he]
    refine Ends.succ ?_
    simp only [papermillref34_Lost.l0]
    exact Ends.neg (by omega) (Ends.bind hr (Ends.ret _))
  | succ d ih =>
    intro i out hd hi ho he
    rw [drop44 l i (by omega), List.foldl_cons] at he
    refine Ends.succ ?_
    have hs := lostStep_len out (rd_T44 l i)
    have := ih (i + 1) (lostStep out (rd_T44 l i)) (by omega) (by omega) (by omega) he
    simp only [papermillref34_Lost.l0]
    refine Ends.pos (by omega) (Ends.pos (by omega) ?_)
    by_cases h3 : (rd_T44 l i).f2 = 3
    · refine Ends.pos h3 ?_
      rw [lostStep, if_pos h3] at this
      by_cases h0 : out.length = 0
      · have e : out = [] := List.length_eq_zero_iff.1 h0
        subst e
        refine Ends.neg (by rw [wrap_len0]; omega) (Ends.succ ?_)
        simp only [papermillref34_Lost.j1, wrap_nat i (by omega)]
        exact Ends.neg (by simp) (Ends.pos (by omega) (Ends.pos (by omega) (Ends.pos h3 (Ends.pos (by simp) this))))
      · rw [last_eq out h0] at this
        simp only [wrap_len out (by omega) h0]
        refine Ends.pos (by omega) (Ends.pos (by omega) (Ends.pos (by omega) (Ends.succ ?_)))
        simp only [papermillref34_Lost.j1, wrap_nat i (by omega), Int.toNat_natCast]
        by_cases h4 : (rd_T36 out ((out.length - 1 : Nat) : Int)).f1 = (rd_T44 l i).f0
        · rw [if_pos h4] at this
          exact Ends.pos (by simp [h4]) (Ends.pos (by omega) (Ends.pos (by omega) (Ends.pos (by omega) (Ends.pos (by omega) this))))
        · rw [if_neg h4] at this
          exact Ends.neg (by simp [h4]) (Ends.pos (by omega) (Ends.pos (by omega) (Ends.pos h3 (Ends.pos (by omega) this))))
    · refine Ends.neg h3 (Ends.succ ?_)
      rw [lostStep, if_neg h3] at this
      simp only [papermillref34_Lost.j1, wrap_nat i (by omega)]
      exact Ends.neg (by simp) (Ends.pos (by omega) (Ends.pos (by omega) (Ends.neg h3 this)))
/-- What the list of the lost stretches is, up to the end e of i sections. -/
structure LostIn (e : Int) (i : Nat) (out : List S36) : Prop where
  s : sep (-1) out
  le : ∀ t ∈ out, t.f1 ≤ e
  two : 2 * out.length ≤ i + 1
  one : (∀ t ∈ out, t.f1 ≠ e) → 2 * out.length ≤ i
theorem push_two (out : List S36) (c d : Int) : (∃ t ∈ out, t.f1 = c) ∧ (push out c d).length = out.length ∨ (push out c d).length = out.length + 1 ∧ (out = [] ∨ ∃ i s, out = i ++ [s] ∧ s.f1 ≠ c) := by
  by_cases h0 : out = []
  · subst h0; exact .inr ⟨rfl, .inl rfl⟩
  · obtain ⟨i, s, rfl⟩ : ∃ i s, out = i ++ [s] := ⟨out.dropLast, out.getLast h0, (List.dropLast_concat_getLast _).symm⟩
    by_cases h5 : s.f1 = c
    · exact .inl ⟨⟨s, by simp, h5⟩, by simp [push, h5]⟩
    · exact .inr ⟨by simp [push, h5], .inr ⟨i, s, rfl, h5⟩⟩
theorem LostIn.step {e : Int} {i : Nat} {out : List S36} (h : LostIn e i out) (x : S44) (he : 0 ≤ e) (h0 : x.f0 = e) (h1 : e < x.f1) : LostIn x.f1 (i + 1) (lostStep out x) := by
  unfold lostStep
  split
  · obtain ⟨p1, p2, p3⟩ := push_ok (c := x.f0) (d := x.f1) h.s (fun t ht => by rw [h0]; exact h.le t ht) (by omega) (by omega)
    have ht := h.two
    refine ⟨p1, p2, ?_, fun hn => ?_⟩
    · rcases push_two out x.f0 x.f1 with ⟨_, k⟩ | ⟨k, k2⟩
      · omega
      · have : 2 * out.length ≤ i := by
          refine h.one (fun t ht' hte => ?_)
          rcases k2 with rfl | ⟨j, s, rfl, k3⟩
          · simp at ht'
          · obtain ⟨q1, q2, q3, q4⟩ := sep_init h.s
            rcases List.mem_append.1 ht' with ht' | ht'
            · have := q2 t ht'
              have := h.le s (by simp)
              omega
            · rw [List.mem_singleton.1 ht'] at hte
              exact k3 (by omega)
        omega
    · exfalso
      have hm : Mem (push out x.f0 x.f1) (x.f1 - 1) := (p3 _).2 (.inr ⟨by omega, by omega⟩)
      obtain ⟨t, ht', k1, k2⟩ := hm
      have := p2 t ht'
      exact hn t ht' (by omega)
  · have ht := h.two
    exact ⟨h.s, fun t ht' => by have := h.le t ht'; omega, by omega, fun _ => by omega⟩
theorem LostIn.all : ∀ (l : List S44) (e : Int) (i : Nat) (out : List S36), LostIn e i out → 0 ≤ e → chain e l → LostIn (fin44 e l) (i + l.length) (l.foldl lostStep out)
  | [], e, i, out, h, _, _ => h
  | x :: r, e, i, out, h, he, hc => by
    have := LostIn.all r x.f1 (i + 1) _ (h.step x he hc.1 hc.2.1) (by have := hc.2.1; omega) hc.2.2
    rw [List.foldl_cons]
    rw [show i + (x :: r).length = i + 1 + r.length from by simp; omega]
    exact this
theorem lost_in {l : List S44} (h : checkOf l = 0) : LostIn (fin44 0 l) l.length (lostOf l) := by
  have := LostIn.all l 0 0 [] ⟨trivial, by simp, by simp, by simp⟩ (Int.le_refl _) (checkOf_zero h).2.2
  simpa [lostOf] using this
theorem sep_each : ∀ {l : List S36} {e : Int}, sep e l → ∀ s ∈ l, e < s.f0 ∧ s.f0 < s.f1
  | [], e, _, s, h => by simp at h
  | x :: r, e, h, s, hs => by
    rcases List.mem_cons.1 hs with rfl | hs
    · exact ⟨h.1, h.2.1⟩
    · have := sep_each h.2.2 s hs
      have := h.1; have := h.2.1; omega
theorem norm_sep {l : List S36} (h : sep (-1) l) (hl : l.length ≤ 256) (hb : ∀ s ∈ l, s.f1 ≤ 17179869184) : bothOf l [] 0 = (l, 0) := by
  have hx := sep_each h
  have hc : check04 l = 0 := by
    unfold check04
    rw [if_neg (by omega), if_neg]
    rintro ⟨s, hs, k⟩
    have := hx s hs; have := hb s hs
    unfold badS at k; omega
  obtain ⟨k1, k2⟩ := comb_ok l [] 0 (.inl rfl) (-1) (fun s k => by
    rcases k with k | k
    · have := hx s k; omega
    · simp at k)
  have e : combOf l [] 0 = l := by
    refine sep_unique k1 h (fun x => ?_)
    rw [k2, ← hasOf_iff]
    unfold keeps skips
    simp [hasOf]
  unfold bothOf
  rw [if_pos hc, if_pos (by simp [check04]), e, if_neg (by omega)]
theorem norm_ends {l : List S36} : Ends (fun k => papermillref04_Norm.f k l) (bothOf l [] 0) := by
  unfold papermillref04_Norm.f
  exact Ends.bind (both_ends l [] 0 (.inl rfl)) (Ends.ret _)
def lostAns (l : List S44) : List S36 × Int := if checkOf l = 0 then (lostOf l, 0) else ([], checkOf l)
theorem lost_ends (l : List S44) : Ends (fun k => reel_Lost.f k l) (lostAns l) := by
  unfold reel_Lost.f lostAns
  refine Ends.bind (check_ends l) ?_
  by_cases h1 : checkOf l = 0
  · rw [if_pos h1]
    have hl := (checkOf_zero h1).1
    exact Ends.pos h1 (by simpa [lostOf] using lost_l0 l hl l.length 0 [] rfl (Nat.zero_le _) (by simp; omega))
  · rw [if_neg h1]; exact Ends.neg h1 (Ends.ret _)
theorem lost_norm {l : List S44} (h : checkOf l = 0) : bothOf (lostOf l) [] 0 = (lostOf l, 0) := by
  have hi := lost_in h
  have hl := (checkOf_zero h).1
  have he := endOf_le h
  rw [endOf_fin] at he
  exact norm_sep hi.s (by have := hi.two; omega) (fun s hs => by have := hi.le s hs; omega)
theorem reflost_ends (l : List S44) : Ends (fun k => papermillref34_Lost.f k l) (lostAns l) := by
  unfold papermillref34_Lost.f lostAns
  refine Ends.bind (ref_ends l) ?_
  by_cases h1 : checkOf l = 0
  · rw [if_pos h1]
    have hl := (checkOf_zero h1).1
    refine Ends.pos h1 ?_
    have hn := norm_ends (l := lostOf l)
    rw [lost_norm h1] at hn
    simpa using reflost_l0 l hl _ hn l.length 0 [] rfl (Nat.zero_le _) (by simp; omega) (by simp [lostOf])
  · rw [if_neg h1]; exact Ends.neg h1 (Ends.ret _)
theorem same36_l0 (l : List S36) (hl : l.length < 4000000000000000000) : ∀ (d i : Nat), l.length - i = d → i ≤ l.length → Ends (fun k => papermillref04_Same.l0 k l l (i : Int)) true := by
  intro d
  induction d with
  | zero =>
    intro i hd hi
    refine Ends.succ ?_
    simp only [papermillref04_Same.l0]
    exact Ends.neg (by omega) (Ends.ret _)
  | succ d ih =>
    intro i hd hi
    refine Ends.succ ?_
    simp only [papermillref04_Same.l0, wrap_nat i (by omega)]
    exact Ends.pos (by omega) (Ends.pos (by omega) (Ends.pos (by omega) (Ends.neg (by simp) (ih (i + 1) (by omega) (by omega)))))
theorem same36 (l : List S36) (hl : l.length < 4000000000000000000) : Ends (fun k => papermillref04_Same.f k l l) true := by
  unfold papermillref04_Same.f
  exact Ends.pos (by trivial) (same36_l0 l hl l.length 0 rfl (Nat.zero_le _))
theorem lostAns_len (l : List S44) : (lostAns l).1.length ≤ 256 := by
  unfold lostAns
  split
  · rename_i h
    have := (lost_in h).two
    have := (checkOf_zero h).1
    show (lostOf l).length ≤ 256
    omega
  · simp
theorem ReelChecks : ∀ (l0 : List (S44)), (l0.length ≤ maxLen ∧ ∀ x ∈ l0, wf_44 x) → ∃ k, papermilllaw34_ReelChecks.f k l0 = some true := by
  intro l0 _
  have hl := lostAns_len l0
  refine Ends.get ?_
  unfold papermilllaw34_ReelChecks.f papermilllaw34_great.f
  simp only [Option.bind_some, decide_eq_true_eq]
  by_cases h : (l0.length : Int) > 600
  · exact Ends.pos h (Ends.ret _)
  · refine Ends.neg h (Ends.bind (lost_ends l0) (Ends.bind (reflost_ends l0) (Ends.bind (check_ends l0) (Ends.bind (ref_ends l0) (Ends.pos (by trivial) (Ends.bind (same36 _ (by omega)) (Ends.pos (by trivial) (Ends.pos (by trivial) ?_))))))))
    exact Ends.ret _
end Go.Proofs.Ytfdfpdiemeomiaa.G
