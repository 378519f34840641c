import Derived.Test.YtjkakgkiikjdmaaQ1
import Derived.Deep.LoopGhost
import Derived.Sort.QuietIn
import Derived.Deep.Fields
import Derived.RangeFuncRecord
import Derived.StillTailTactics
import Derived.Deep.Slices
import Derived.ChangeSame
import Derived.ChangeArms
namespace Go.Proofs.Ytjkakgkiikjdmaa.G
open Go.RowKit Go.Proofs.YtjkakgkiikjdmaaW.PrintWords Go.Proofs.YtjkakgkiikjdmaaW.PrintLast Go.Proofs.YtjkakgkiikjdmaaW.PrintMore
set_option linter.unusedVariables false
set_option linter.unusedSimpArgs false
theorem flat_get {α : Type} (enc : α → List Value) (sz : Nat) (hs : ∀ x, (enc x).length = sz) : ∀ (xs : List α) (j i : Nat) (p : α), xs[j]? = some p → i < sz → (xs.flatMap enc)[j * sz + i]? = (enc p)[i]?
  | [], j, i, p, h, _ => by simp at h
  | x :: xs, 0, i, p, h, hi => by
    simp at h; subst h
    rw [List.flatMap_cons, Nat.zero_mul, Nat.zero_add, List.getElem?_append_left (by rw [hs]; exact hi)]
  | x :: xs, j + 1, i, p, h, hi => by
    rw [List.flatMap_cons, List.getElem?_append_right (by rw [hs, Nat.add_mul]; omega), hs, show (j + 1) * sz + i - sz = j * sz + i by rw [Nat.add_mul]; omega]
    exact flat_get enc sz hs xs j i p (by simpa using h) hi
theorem C_block {α : Type} (d : Kd α) {W : World} {g e : Nat} {cells : Array Value} (xs : List α) (enc : α → List Value) (hK : ∀ x, d.K W x (enc x)) (hb : W.heap[g]? = some (.cells cells e (0, 0))) (hc : cells.toList = xs.flatMap enc) (hl : xs.length ≤ 9223372036854775807) :
    Kd.C d W (some ⟨g, 0, none⟩) xs.length xs :=
  ⟨rfl, hl, fun _ => ⟨_, rfl, fun j p hj => ⟨enc p, d.K_len (hK p), hK p, fun i u hu => by
    rw [add_plain, blk_cell hb]
    have hi : i < d.sz := by rw [← d.K_len (hK p)]; exact (List.getElem?_eq_some_iff.1 hu).1
    have := flat_get enc d.sz (fun x => d.K_len (hK x)) xs j i p hj hi
    rw [← hc, Array.getElem?_toList] at this
    rw [this]; exact hu⟩⟩⟩
theorem CI_block {W : World} {g : Nat} {cells : Array Value} (xs : List Int) (hb : W.heap[g]? = some (.cells cells 3 (0, 0))) (hc : cells.toList = xs.flatMap fun x => [.int .i64 x]) (hl : xs.length ≤ 1000) : Kd.C (Kd.int .i64) W (some ⟨g, 0, none⟩) xs.length xs :=
  C_block (Kd.int .i64) xs _ (fun x => rfl) hb hc (by omega)
end Go.Proofs.Ytjkakgkiikjdmaa.G

namespace Go.Proofs.Ytjkakgkiikjdmaa.G
open Go.RowKit Go.Proofs.YtjkakgkiikjdmaaW.PrintWords Go.Proofs.YtjkakgkiikjdmaaW.PrintLast Go.Proofs.YtjkakgkiikjdmaaW.PrintMore
set_option linter.unusedVariables false
set_option linter.unusedSimpArgs false
theorem C49_block {W : World} {g : Nat} {cells : Array Value} (xs : List S49) (hb : W.heap[g]? = some (.cells cells 49 (0, 0))) (hc : cells.toList = xs.flatMap fun x => [.int .i64 x.f0, .int .i64 x.f1]) (hl : xs.length ≤ 1000) : Kd.C k49 W (some ⟨g, 0, none⟩) xs.length xs :=
  C_block k49 xs _ (fun x => k49_mk W x) hb hc (by omega)
end Go.Proofs.Ytjkakgkiikjdmaa.G

namespace Go.Proofs.Ytjkakgkiikjdmaa.G
open Go.RowKit Go.Proofs.YtjkakgkiikjdmaaW.PrintWords Go.Proofs.YtjkakgkiikjdmaaW.PrintLast Go.Proofs.YtjkakgkiikjdmaaW.PrintMore
set_option linter.unusedVariables false
set_option linter.unusedSimpArgs false
theorem C56_block {W : World} {g : Nat} {cells : Array Value} (xs : List S56) (hb : W.heap[g]? = some (.cells cells 56 (0, 0))) (hc : cells.toList = xs.flatMap fun x => [.int .i64 x.f0, .int .i64 x.f1, .bool x.f2]) (hl : xs.length ≤ 1000) : Kd.C k56 W (some ⟨g, 0, none⟩) xs.length xs :=
  C_block k56 xs _ (fun x => k56_mk W x) hb hc (by omega)
end Go.Proofs.Ytjkakgkiikjdmaa.G

namespace Go.Proofs.Ytjkakgkiikjdmaa.G
open Go.RowKit Go.Proofs.YtjkakgkiikjdmaaW.PrintWords Go.Proofs.YtjkakgkiikjdmaaW.PrintLast Go.Proofs.YtjkakgkiikjdmaaW.PrintMore
set_option linter.unusedVariables false
set_option linter.unusedSimpArgs false
def Ends {α : Type} (g : Nat → Option α) (r : α) : Prop := ∃ n, ∀ k, n ≤ k → g k = some r
theorem Ends.const {α : Type} {a : Option α} {r : α} (h : a = some r) : Ends (fun _ => a) r := ⟨0, fun _ _ => h⟩
theorem Ends.ret {α : Type} (r : α) : Ends (fun _ => some r) r := ⟨0, fun _ _ => rfl⟩
theorem Ends.bind {α β : Type} {g : Nat → Option α} {f : Nat → α → Option β} {r : α} {q : β} (h : Ends g r) (k : Ends (fun k => f k r) q) : Ends (fun k => (g k).bind (f k)) q := by
  obtain ⟨n, h⟩ := h
  obtain ⟨m, k⟩ := k
  exact ⟨n + m, fun j hj => by show (g j).bind (f j) = _; rw [h j (by omega)]; exact k j (by omega)⟩
theorem Ends.pos {α : Type} {c : Prop} [Decidable c] {a b : Nat → Option α} {r : α} (hc : c) (h : Ends a r) : Ends (fun k => if c then a k else b k) r := by simpa only [if_pos hc] using h
theorem Ends.neg {α : Type} {c : Prop} [Decidable c] {a b : Nat → Option α} {r : α} (hc : ¬ c) (h : Ends b r) : Ends (fun k => if c then a k else b k) r := by simpa only [if_neg hc] using h
theorem Ends.succ {α : Type} {g : Nat → Option α} {r : α} (h : Ends (fun k => g (k + 1)) r) : Ends g r := by
  obtain ⟨n, h⟩ := h
  exact ⟨n + 1, fun k hk => by obtain ⟨j, rfl⟩ : ∃ j, k = j + 1 := ⟨k - 1, by omega⟩; exact h j (by omega)⟩
theorem Ends.get {α : Type} {g : Nat → Option α} {r : α} (h : Ends g r) : ∃ k, g k = some r := by obtain ⟨n, h⟩ := h; exact ⟨n, h n (Nat.le_refl _)⟩
theorem wrap_nat (i : Nat) (h : i < 4000000000000000000) : wrap64 ((i : Int) + 1) = ((i + 1 : Nat) : Int) := by unfold wrap64; omega
theorem wrap_pred (i : Nat) (h : i < 4000000000000000000) (h1 : 1 ≤ i) : wrap64 ((i : Int) - 1) = ((i - 1 : Nat) : Int) := by unfold wrap64; omega
theorem rdI (l : List Int) (i : Nat) (h : i < l.length) : rd l i = l[i] := by simp [rd, List.getD_eq_getElem?_getD, List.getElem?_eq_getElem h]
theorem Ends.at_ {α : Type} {g : Nat → Option α} {r : α} {k : Nat} (hg : ∀ k, LeO (g k) (g (k + 1))) (h : g k = some r) : Ends g r := ⟨k, fun j hj => at_rounds hg hj h⟩
theorem Ends.uniq {α : Type} {g : Nat → Option α} {r q : α} (h : Ends g r) (h2 : Ends g q) : r = q := by
  obtain ⟨n, h⟩ := h
  obtain ⟨m, h2⟩ := h2
  have e1 := h (n + m) (by omega)
  have e2 := h2 (n + m) (by omega)
  exact Option.some.inj (e1.symm.trans e2)
theorem Ends.congr {α : Type} {g : Nat → Option α} {r q : α} (h : Ends g r) (e : r = q) : Ends g q := e ▸ h
end Go.Proofs.Ytjkakgkiikjdmaa.G

namespace Go.Proofs.Ytjkakgkiikjdmaa.G
open Go.RowKit Go.Proofs.YtjkakgkiikjdmaaW.PrintWords Go.Proofs.YtjkakgkiikjdmaaW.PrintLast Go.Proofs.YtjkakgkiikjdmaaW.PrintMore
set_option linter.unusedVariables false
set_option linter.unusedSimpArgs false
theorem rd36 (l : List S49) (i : Nat) (h : i < l.length) : rd_T49 l i = l[i] := by simp [rd_T49, List.getD_eq_getElem?_getD, List.getElem?_eq_getElem h]
theorem drop36 (l : List S49) (i : Nat) (h : i < l.length) : l.drop i = rd_T49 l i :: l.drop (i + 1) := by rw [rd36 l i h]; exact List.drop_eq_getElem_cons h
theorem dropI (l : List Int) (i : Nat) (h : i < l.length) : l.drop i = rd l i :: l.drop (i + 1) := by rw [rdI l i h]; exact List.drop_eq_getElem_cons h

def badS (s : S49) : Prop := s.f0 < 0 ∨ s.f0 > s.f1 ∨ s.f1 > 17179869184
instance (s : S49) : Decidable (badS s) := by unfold badS; infer_instance
def check04 (l : List S49) : Int := if l.length > 256 then 8 else if ∃ s ∈ l, badS s then 1 else 0
theorem check04_zero {l : List S49} (h : check04 l = 0) : l.length ≤ 256 ∧ ∀ s ∈ l, ¬ badS s := by
  unfold check04 at h
  split at h
  · cases h
  · split at h
    · cases h
    · rename_i h1 h2; exact ⟨by omega, fun s hs k => h2 ⟨s, hs, k⟩⟩
def bothOf (a b : List S49) (w : Int) : List S49 × Int := if check04 a = 0 then (if check04 b = 0 then (if (combOf a b w).length > 256 then ([], 8) else (combOf a b w, 0)) else ([], check04 b)) else ([], check04 a)
theorem getLast_rd (out : List S49) (h : out.length ≠ 0) : out.getLast? = some (rd_T49 out ((out.length - 1 : Nat) : Int)) := by
  rw [List.getLast?_eq_getElem?, rd36 _ _ (by omega), List.getElem?_eq_getElem (by omega)]
theorem dropLast_set (out : List S49) (h : out.length ≠ 0) (y : S49) : out.set (out.length - 1) y = out.dropLast ++ [y] := by
  obtain ⟨d, x, rfl⟩ : ∃ d x, out = d ++ [x] := ⟨out.dropLast, out.getLast (fun e => h (by rw [e]; rfl)), (List.dropLast_concat_getLast _).symm⟩
  rw [List.dropLast_concat, List.length_append]
  simp
end Go.Proofs.Ytjkakgkiikjdmaa.G

namespace Go.Proofs.Ytjkakgkiikjdmaa.G
open Go.RowKit Go.Proofs.YtjkakgkiikjdmaaW.PrintWords Go.Proofs.YtjkakgkiikjdmaaW.PrintLast Go.Proofs.YtjkakgkiikjdmaaW.PrintMore
attribute [local go_sem] max2_int min2_int max_two min_two max_three min_three max_four min_four   -- for this text's walks alone
set_option linter.unusedVariables false
set_option linter.unusedSimpArgs false

def span_Norm_1.f (a0 : Bool) (a1 : Bool) : Option (Bool) := some a0
set_option maxHeartbeats 8000000 in
set_option maxRecDepth 100000 in
theorem span_Norm_1.calls (a0 : Bool) (a1 : Bool) (r : Bool) (w : World) (h : span_Norm_1.f a0 a1 = some r) :
    Calls Try.prog 58 #[.bool a0, .bool a1] w fun e w' => e = .returned (.bool r) ∧ Drawn0 w w' := by
  have H : (some a0) = some r := h
  clear h
  obtain rfl := Option.some.inj H
  go_enter Try.func58, Try.ntmps58
  go_wp2
  go_ret
  exact ⟨by first | rfl | (simp; done) | (simp [*]; done), by repeat (first | exact Drawn0.refl _ | apply Drawn0.step)⟩

end Go.Proofs.Ytjkakgkiikjdmaa.G

namespace Go.Proofs.Ytjkakgkiikjdmaa.G
open Go.RowKit Go.Proofs.YtjkakgkiikjdmaaW.PrintWords Go.Proofs.YtjkakgkiikjdmaaW.PrintLast Go.Proofs.YtjkakgkiikjdmaaW.PrintMore
attribute [local go_sem] max2_int min2_int max_two min_two max_three min_three max_four min_four   -- for this text's walks alone
set_option linter.unusedVariables false
set_option linter.unusedSimpArgs false

def span_Minus_1.f (a0 : Bool) (a1 : Bool) : Option (Bool) := if a0 = true then (some (!a1)) else (some false)
set_option maxHeartbeats 8000000 in
set_option maxRecDepth 100000 in
theorem span_Minus_1.calls (a0 : Bool) (a1 : Bool) (r : Bool) (w : World) (h : span_Minus_1.f a0 a1 = some r) :
    Calls Try.prog 62 #[.bool a0, .bool a1] w fun e w' => e = .returned (.bool r) ∧ Drawn0 w w' := by
  have H : (if a0 = true then (some (!a1)) else (some false)) = some r := h
  clear h
  by_cases c3 : a0 = true
  · subst c3
    have H1 : (some (!a1)) = some r := by rw [if_pos rfl] at H; exact H
    clear H
    have H := H1
    clear H1
    obtain rfl := Option.some.inj H
    go_enter Try.func62, Try.ntmps62
    go_wp2
    go_ret
    exact ⟨by first | rfl | (simp; done) | (simp [*]; done), by repeat (first | exact Drawn0.refl _ | apply Drawn0.step)⟩
  · replace c3 := Bool.eq_false_iff.mpr c3
    subst c3
    have H1 : (some false) = some r := by rw [if_neg (show ¬ (false = true) by decide)] at H; first | exact H | simpa using H
    clear H
    have H := H1
    clear H1
    obtain rfl := Option.some.inj H
    go_enter Try.func62, Try.ntmps62
    go_wp2
    go_ret
    exact ⟨by first | rfl | (simp; done) | (simp [*]; done), by repeat (first | exact Drawn0.refl _ | apply Drawn0.step)⟩

end Go.Proofs.Ytjkakgkiikjdmaa.G

namespace Go.Proofs.Ytjkakgkiikjdmaa.G
open Go.RowKit Go.Proofs.YtjkakgkiikjdmaaW.PrintWords Go.Proofs.YtjkakgkiikjdmaaW.PrintLast Go.Proofs.YtjkakgkiikjdmaaW.PrintMore
set_option linter.unusedVariables false
set_option linter.unusedSimpArgs false
def img (r : S56) (x : Int) : Int := if r.f2 = true then r.f0 - x else r.f0 + x
def partR (r : S56) (x n : Int) : S56 := ⟨img r x, n, r.f2 && decide (n > 1)⟩
def goes (r t : S56) : Int := r.f0 - img t (t.f1 - 1)
def joins (r t : S56) : Prop := (goes r t = 1 ∨ goes r t = -1) ∧ (t.f1 > 1 → decide (goes r t = -1) = t.f2)
instance (r t : S56) : Decidable (joins r t) := by unfold joins; infer_instance
def addR (r : S56) : List S56 → List S56
  | [] => [partR r 0 r.f1]
  | t :: d => if joins r t then (if r.f1 > 1 ∧ r.f2 ≠ decide (goes r t = -1) then partR r 1 (r.f1 - 1) :: ⟨t.f0, t.f1 + 1, decide (goes r t = -1)⟩ :: d else ⟨t.f0, t.f1 + r.f1, decide (goes r t = -1)⟩ :: d) else partR r 0 r.f1 :: t :: d
def addOf (l : List S56) (r : S56) : List S56 := if r.f1 < 1 then l else (addR r l.reverse).reverse
def imgs (r : S56) : List Int := (List.range r.f1.toNat).map fun (i : Nat) => img r i
def sem (l : List S56) : List Int := l.flatMap imgs
def one (l : List S56) (y : Int) : List S56 := addR ⟨y, 1, false⟩ l
def nrm (xs : List Int) : List S56 := (xs.foldl one []).reverse
def okR (t : S56) : Prop := 1 ≤ t.f1 ∧ (t.f1 = 1 → t.f2 = false)
theorem SR_ext {a b : S56} (h0 : a.f0 = b.f0) (h1 : a.f1 = b.f1) (h2 : a.f2 = b.f2) : a = b := by cases a; cases b; simp_all
theorem addR_ok (r : S56) (h : 1 ≤ r.f1) : ∀ l : List S56, (∀ t ∈ l, okR t) → ∀ t ∈ addR r l, okR t
  | [], hl => by
    intro t ht
    simp only [addR, List.mem_singleton] at ht
    subst ht
    exact ⟨h, fun e => by simp only [partR] at e ⊢; rw [e]; simp⟩
  | t :: d, hl => by
    intro u hu
    have ht := hl t (by simp)
    simp only [addR] at hu
    split at hu
    · split at hu
      · simp only [List.mem_cons] at hu
        rcases hu with rfl | rfl | hu
        · exact ⟨by simp only [partR]; omega, fun e => by simp only [partR] at e ⊢; rw [e]; simp⟩
        · exact ⟨by have := ht.1; dsimp only; omega, fun e => by have := ht.1; dsimp only at e; omega⟩
        · exact hl u (by simp [hu])
      · simp only [List.mem_cons] at hu
        rcases hu with rfl | hu
        · exact ⟨by have := ht.1; dsimp only; omega, fun e => by have := ht.1; dsimp only at e; omega⟩
        · exact hl u (by simp [hu])
    · simp only [List.mem_cons] at hu
      rcases hu with rfl | hu
      · exact ⟨h, fun e => by simp only [partR] at e ⊢; rw [e]; simp⟩
      · exact hl u (by simpa using hu)
theorem addR_len (r : S56) : ∀ l : List S56, (addR r l).length ≤ l.length + 1
  | [] => by simp [addR]
  | t :: d => by simp only [addR]; split <;> (try split) <;> simp
theorem img_of (r : S56) : img r r.f1 = img ⟨r.f0, r.f1, r.f2⟩ r.f1 := rfl
theorem one_ext (t : S56) (d : List S56) (b : Bool) (y : Int) (h1 : 1 ≤ t.f1) (hy : y = if b = true then t.f0 - t.f1 else t.f0 + t.f1) (hb : t.f1 > 1 → t.f2 = b) : one (t :: d) y = ⟨t.f0, t.f1 + 1, b⟩ :: d := by
  obtain ⟨c, m, e⟩ := t
  dsimp only at h1 hy hb
  have hg : goes ⟨y, 1, false⟩ ⟨c, m, e⟩ = if b = true then -1 else 1 := by
    simp only [goes, img]
    by_cases hm : m > 1
    · rw [hb hm]; rw [hy]; cases b <;> simp <;> omega
    · have : m = 1 := by omega
      subst this; rw [hy]; cases b <;> cases e <;> simp <;> omega
  have hj : joins ⟨y, 1, false⟩ ⟨c, m, e⟩ := by
    unfold joins; rw [hg]; refine ⟨by cases b <;> simp, fun h => ?_⟩; rw [hb h]; cases b <;> simp
  simp only [one, addR]
  rw [if_pos hj, if_neg (by omega), hg]
  cases b <;> simp
theorem one_cut (t : S56) (d : List S56) (y : Int) (h : ¬ joins ⟨y, 1, false⟩ t) : one (t :: d) y = ⟨y, 1, false⟩ :: t :: d := by
  simp only [one, addR]
  rw [if_neg h]
  simp [partR, img]
theorem joins_len (a n m : Int) (b : Bool) (t : S56) : joins ⟨a, n, b⟩ t ↔ joins ⟨a, m, b⟩ t := Iff.rfl
theorem addR_step (r : S56) (h : 1 ≤ r.f1) (l : List S56) (hl : ∀ t ∈ l, okR t) : one (addR r l) (img r r.f1) = addR ⟨r.f0, r.f1 + 1, r.f2⟩ l := by
  obtain ⟨a, n, b⟩ := r
  dsimp only at h ⊢
  have new : ∀ d, one (partR ⟨a, n, b⟩ 0 n :: d) (img ⟨a, n, b⟩ n) = partR ⟨a, n + 1, b⟩ 0 (n + 1) :: d := by
    intro d
    rw [one_ext _ d b _ h (by simp only [partR, img]; cases b <;> simp) (by intro hn; simp only [partR] at hn ⊢; simp [hn])]
    simp only [partR, img]
    have : n + 1 > 1 := by omega
    cases b <;> simp [this]
  match l with
  | [] => simp only [addR]; exact new []
  | t :: d =>
    have hm : 1 ≤ t.f1 := (hl t (by simp)).1
    simp only [addR]
    by_cases hj : joins ⟨a, n, b⟩ t
    · rw [if_pos hj, if_pos ((joins_len a n (n + 1) b t).mp hj)]
      have hg : goes ⟨a, n + 1, b⟩ t = goes ⟨a, n, b⟩ t := rfl
      rw [hg]
      generalize hgo : goes ⟨a, n, b⟩ t = g at *
      have hg1 : g = 1 ∨ g = -1 := by have := hj.1; rw [hgo] at this; exact this
      have hg2 : t.f1 > 1 → decide (g = -1) = t.f2 := by have := hj.2; rw [hgo] at this; exact this
      have ha : a = (if decide (g = -1) = true then t.f0 - t.f1 else t.f0 + t.f1) := by
        simp only [goes, img] at hgo
        by_cases hm1 : t.f1 > 1
        · rw [← hg2 hm1] at hgo
          rcases hg1 with rfl | rfl <;> simp at hgo ⊢ <;> omega
        · have e1 : t.f1 = 1 := by omega
          rw [e1] at hgo ⊢
          rcases hg1 with rfl | rfl <;> cases t.f2 <;> simp at hgo ⊢ <;> omega
      by_cases hc : n > 1 ∧ b ≠ decide (g = -1)
      · rw [if_pos hc, if_pos ⟨by omega, hc.2⟩]
        rw [one_ext _ _ b _ (by simp only [partR]; omega) (by simp only [partR, img]; cases b <;> simp <;> omega) (by intro hn; simp only [partR] at hn ⊢; simp [hn])]
        simp only [partR, img]
        have : n + 1 - 1 > 1 := by omega
        cases b <;> simp [this] <;> omega
      · rw [if_neg hc]
        by_cases hb : b = decide (g = -1)
        · rw [if_neg (by intro k; exact k.2 hb)]
          rw [one_ext _ _ b _ (by dsimp only; omega) (by dsimp only [img]; rw [ha, hb]; rcases hg1 with rfl | rfl <;> simp <;> omega) (by intro _; exact hb.symm)]
          rw [hb]; simp; omega
        · have hn : n = 1 := by
            by_cases k : n > 1
            · exact absurd ⟨k, hb⟩ hc
            · omega
          subst hn
          rw [if_pos ⟨by omega, hb⟩, one_cut]
          · simp only [partR, img]; simp
          · intro k
            have k1 := k.2 (by dsimp only; omega)
            revert k1
            simp only [goes, img]
            rw [ha]
            rcases hg1 with rfl | rfl <;> cases b <;> simp at hb ⊢ <;> omega
    · rw [if_neg hj, if_neg (fun k => hj ((joins_len a n (n + 1) b t).mpr k))]; exact new _
theorem imgs_succ (a n : Int) (b : Bool) (h : 0 ≤ n) : imgs ⟨a, n + 1, b⟩ = imgs ⟨a, n, b⟩ ++ [img ⟨a, n, b⟩ n] := by
  obtain ⟨k, rfl⟩ := Int.eq_ofNat_of_zero_le h
  simp only [imgs]
  rw [show ((k : Int) + 1).toNat = k + 1 by omega, show (k : Int).toNat = k by omega, List.range_succ]
  simp [img]
theorem imgs_len (r : S56) : (imgs r).length = r.f1.toNat := by simp [imgs]
theorem imgs_get (r : S56) (i : Nat) (h : (i : Int) < r.f1) : (imgs r)[i]? = some (img r i) := by
  simp only [imgs]
  rw [List.getElem?_map, List.getElem?_range (by omega)]
  rfl
theorem imgs_one (a : Int) (b : Bool) : imgs ⟨a, 1, b⟩ = [a] := by cases b <;> simp [imgs, img]
theorem addR_one (a : Int) (b : Bool) (l : List S56) : addR ⟨a, 1, b⟩ l = one l a := by
  unfold one
  cases l with
  | nil => simp [addR, partR, img]
  | cons t d =>
    have e : goes ⟨a, 1, b⟩ t = goes ⟨a, 1, false⟩ t := rfl
    simp only [addR, e, show joins ⟨a, 1, b⟩ t ↔ joins ⟨a, 1, false⟩ t from Iff.rfl]
    simp [partR, img]
theorem fold_ok (xs : List Int) : ∀ l : List S56, (∀ t ∈ l, okR t) → ∀ t ∈ xs.foldl one l, okR t := by
  induction xs with
  | nil => intro l hl; exact hl
  | cons x xs ih => intro l hl; exact ih _ (addR_ok _ (Int.le_refl 1) l hl)
theorem fold_imgs (k : Nat) (a : Int) (b : Bool) (l : List S56) (hl : ∀ t ∈ l, okR t) : (imgs ⟨a, (k : Int) + 1, b⟩).foldl one l = addR ⟨a, (k : Int) + 1, b⟩ l := by
  induction k with
  | zero => rw [show ((0 : Nat) : Int) + 1 = 1 from rfl, imgs_one, addR_one]; rfl
  | succ k ih =>
    rw [imgs_succ _ _ _ (by omega), List.foldl_append]
    rw [show ((k + 1 : Nat) : Int) = (k : Int) + 1 by omega, ih]
    exact addR_step ⟨a, (k : Int) + 1, b⟩ (by dsimp only; omega) l hl
theorem addR_fold (r : S56) (h : 1 ≤ r.f1) (l : List S56) (hl : ∀ t ∈ l, okR t) : addR r l = (imgs r).foldl one l := by
  obtain ⟨a, n, b⟩ := r
  obtain ⟨k, rfl⟩ : ∃ k : Nat, n = (k : Int) + 1 := ⟨(n - 1).toNat, by dsimp only at h; omega⟩
  exact (fold_imgs k a b l hl).symm
theorem sem_append (a b : List S56) : sem (a ++ b) = sem a ++ sem b := List.flatMap_append
theorem sem_cons (r : S56) (l : List S56) : sem (r :: l) = imgs r ++ sem l := by simp [sem]
theorem sem_nil : sem [] = [] := rfl
theorem one_sem (l : List S56) (y : Int) (hl : ∀ t ∈ l, okR t) : sem (one l y).reverse = sem l.reverse ++ [y] := by
  match l with
  | [] => simp [one, addR, partR, img, sem, imgs_one]
  | t :: d =>
    obtain ⟨c, m, e⟩ := t
    have hm : 1 ≤ m := (hl ⟨c, m, e⟩ (by simp)).1
    simp only [one, addR]
    by_cases hj : joins ⟨y, 1, false⟩ ⟨c, m, e⟩
    · rw [if_pos hj, if_neg (by omega)]
      have hg : y = img ⟨c, m, decide (goes ⟨y, 1, false⟩ ⟨c, m, e⟩ = -1)⟩ m ∧ (m > 1 → decide (goes ⟨y, 1, false⟩ ⟨c, m, e⟩ = -1) = e) := by
        refine ⟨?_, hj.2⟩
        have h1 := hj.1
        have h2 := hj.2
        simp only [goes, img] at h1 h2 ⊢
        by_cases hm1 : m > 1
        · have h3 := h2 hm1
          cases e <;> simp at h1 h3 ⊢ <;> omega
        · have : m = 1 := by omega
          subst this
          cases e <;> simp at h1 ⊢ <;> split <;> omega
      generalize decide (goes ⟨y, 1, false⟩ ⟨c, m, e⟩ = -1) = b at *
      rw [List.reverse_cons, List.reverse_cons, sem_append, sem_append, List.append_assoc]
      congr 1
      simp only [sem, List.flatMap_cons, List.flatMap_nil, List.append_nil]
      rw [imgs_succ c m b (by omega), ← hg.1]
      congr 1
      by_cases hm1 : m > 1
      · rw [hg.2 hm1]
      · have : m = 1 := by omega
        subst this
        rw [imgs_one, imgs_one]
    · rw [if_neg hj, List.reverse_cons, sem_append]
      congr 1
      simp [sem, partR, img, imgs_one]
theorem fold_sem (xs : List Int) : ∀ l : List S56, (∀ t ∈ l, okR t) → sem (xs.foldl one l).reverse = sem l.reverse ++ xs := by
  induction xs with
  | nil => intro l hl; simp
  | cons x xs ih =>
    intro l hl
    have h2 : ∀ t ∈ one l x, okR t := addR_ok ⟨x, 1, false⟩ (Int.le_refl 1) l hl
    rw [List.foldl_cons, ih _ h2, one_sem l x hl]
    simp
theorem sem_nrm (xs : List Int) : sem (nrm xs) = xs := by unfold nrm; rw [fold_sem xs [] (by simp)]; simp [sem]
theorem nrm_ok (xs : List Int) : ∀ t ∈ nrm xs, okR t := by intro t ht; exact fold_ok xs [] (by simp) t (by simpa [nrm] using ht)
theorem addAll_fold (rs : List S56) : ∀ l : List S56, (∀ t ∈ l, okR t) → (∀ r ∈ rs, 1 ≤ r.f1) → rs.foldl addOf l.reverse = ((sem rs).foldl one l).reverse := by
  induction rs with
  | nil => intro l _ _; rfl
  | cons r rs ih =>
    intro l hl hr
    have h1 := hr r (by simp)
    rw [List.foldl_cons, sem_cons, List.foldl_append, ← addR_fold r h1 l hl, ← ih _ (addR_ok r h1 l hl) (fun x hx => hr x (by simp [hx]))]
    simp only [addOf, if_neg (show ¬ r.f1 < 1 by omega), List.reverse_reverse]
theorem addAll (rs : List S56) (h : ∀ r ∈ rs, 1 ≤ r.f1) : rs.foldl addOf [] = nrm (sem rs) := addAll_fold rs [] (by simp) h
theorem addOf_len (l : List S56) (r : S56) : (addOf l r).length ≤ l.length + 1 := by
  unfold addOf
  split
  · omega
  · have := addR_len r l.reverse; simpa using this
theorem addAll_len (rs : List S56) : ∀ l : List S56, (rs.foldl addOf l).length ≤ l.length + rs.length := by
  induction rs with
  | nil => intro l; simp
  | cons r rs ih => intro l; have := ih (addOf l r); have := addOf_len l r; simp only [List.foldl_cons, List.length_cons]; omega
theorem nrm_len (rs : List S56) (h : ∀ r ∈ rs, 1 ≤ r.f1) : (nrm (sem rs)).length ≤ rs.length := by rw [← addAll rs h]; have := addAll_len rs []; simpa using this
def tot13 (m : List S56) : Int := (m.map (·.f1)).foldr (· + ·) 0
theorem tot13_cons (r : S56) (m : List S56) : tot13 (r :: m) = r.f1 + tot13 m := by simp [tot13]
theorem tot13_append (a b : List S56) : tot13 (a ++ b) = tot13 a + tot13 b := by
  induction a with
  | nil => simp [tot13]
  | cons r a ih => rw [List.cons_append, tot13_cons, tot13_cons, ih]; omega
theorem sem_len (m : List S56) (h : ∀ r ∈ m, 0 ≤ r.f1) : ((sem m).length : Int) = tot13 m := by
  induction m with
  | nil => simp [sem, tot13]
  | cons r m ih =>
    have := h r (by simp)
    rw [sem_cons, List.length_append, tot13_cons, imgs_len, ← ih (fun x hx => h x (by simp [hx]))]; omega
def pieces : List S56 → Int → Int → Int → List S56
  | [], _, _, _ => []
  | r :: m, at_, f, t => (if max f at_ < min t (at_ + r.f1) then [partR r (max f at_ - at_) (min t (at_ + r.f1) - max f at_)] else []) ++ pieces m (at_ + r.f1) f t
theorem img_part (r : S56) (x n i : Int) (h0 : 0 ≤ i) (h : i < n) : img (partR r x n) i = img r (x + i) := by
  obtain ⟨a, m, b⟩ := r
  simp only [img, partR]
  cases b with
  | false => simp; omega
  | true =>
    by_cases hn : n > 1
    · simp [hn]; omega
    · have : i = 0 := by omega
      subst this; simp [hn]
theorem imgs_part (r : S56) (x n : Int) (hx : 0 ≤ x) (hn : 0 ≤ n) (h : x + n ≤ r.f1) : imgs (partR r x n) = ((imgs r).take (x + n).toNat).drop x.toNat := by
  apply List.ext_getElem?
  intro i
  rw [List.getElem?_drop, List.getElem?_take]
  by_cases hi : (i : Int) < n
  · rw [imgs_get _ _ (by simpa [partR] using hi), if_pos (by omega), imgs_get _ _ (by omega), img_part _ _ _ _ (by omega) hi]
    congr 2; omega
  · rw [if_neg (by omega), List.getElem?_eq_none]
    rw [imgs_len]; simp only [partR]; omega
theorem sem_pieces (m : List S56) : ∀ (at_ f t : Int), (∀ r ∈ m, 1 ≤ r.f1) → sem (pieces m at_ f t) = ((sem m).take (t - at_).toNat).drop (f - at_).toNat := by
  induction m with
  | nil => intro at_ f t _; simp [pieces, sem]
  | cons r m ih =>
    intro at_ f t h
    have h1 := h r (by simp)
    simp only [pieces]
    rw [sem_append, ih _ _ _ (fun x hx => h x (by simp [hx])), sem_cons, List.take_append, List.drop_append]
    rw [imgs_len, List.length_take, imgs_len]
    congr 1
    · split
      · rename_i hc
        rw [show sem [partR r (max f at_ - at_) (min t (at_ + r.f1) - max f at_)] = imgs (partR r (max f at_ - at_) (min t (at_ + r.f1) - max f at_)) by simp [sem]]
        rw [imgs_part _ _ _ (by omega) (by omega) (by omega), show (max f at_ - at_).toNat = (f - at_).toNat by omega]
        rw [List.take_eq_take_iff.mpr]
        rw [imgs_len]; omega
      · rename_i hc
        rw [sem_nil, eq_comm, List.drop_eq_nil_iff, List.length_take, imgs_len]; omega
    · rw [show (t - at_).toNat - r.f1.toNat = (t - (at_ + r.f1)).toNat by omega]
      by_cases hc : t - at_ ≥ r.f1
      · congr 1; omega
      · rw [show (t - (at_ + r.f1)).toNat = 0 by omega]; simp
theorem pieces_pos (m : List S56) : ∀ (at_ f t : Int), ∀ r ∈ pieces m at_ f t, 1 ≤ r.f1 := by
  induction m with
  | nil => intro at_ f t r hr; simp [pieces] at hr
  | cons r m ih =>
    intro at_ f t q hq
    simp only [pieces, List.mem_append] at hq
    rcases hq with hq | hq
    · split at hq
      · simp only [List.mem_singleton] at hq; subst hq; simp only [partR]; omega
      · simp at hq
    · exact ih _ _ _ q hq
theorem pieces_len (m : List S56) : ∀ (at_ f t : Int), (pieces m at_ f t).length ≤ m.length := by
  induction m with
  | nil => intro at_ f t; simp [pieces]
  | cons r m ih => intro at_ f t; have := ih (at_ + r.f1) f t; simp only [pieces, List.length_append, List.length_cons]; split <;> simp <;> omega
def revR (r : S56) : S56 := ⟨img r (r.f1 - 1), r.f1, !r.f2 && decide (r.f1 > 1)⟩
def revL (m : List S56) : List S56 := m.reverse.map revR
theorem imgs_rev (r : S56) (h : 1 ≤ r.f1) : imgs (revR r) = (imgs r).reverse := by
  apply List.ext_getElem?
  intro i
  by_cases hi : (i : Int) < r.f1
  · rw [imgs_get _ _ (by simpa [revR] using hi), List.getElem?_reverse (by rw [imgs_len]; omega), imgs_len, imgs_get _ _ (by omega)]
    obtain ⟨a, n, b⟩ := r
    dsimp only at *
    simp only [img, revR]
    by_cases hn : n > 1
    · cases b <;> simp [hn] <;> omega
    · have : i = 0 := by omega
      subst this
      have : n = 1 := by omega
      subst this
      cases b <;> simp
  · rw [List.getElem?_eq_none (by rw [imgs_len]; simp only [revR]; omega), List.getElem?_eq_none (by rw [List.length_reverse, imgs_len]; omega)]
theorem sem_rev (m : List S56) (h : ∀ r ∈ m, 1 ≤ r.f1) : sem (revL m) = (sem m).reverse := by
  induction m with
  | nil => rfl
  | cons r m ih =>
    have e : revL (r :: m) = revL m ++ [revR r] := by simp [revL]
    rw [e, sem_append, ih (fun x hx => h x (by simp [hx])), sem_cons r m, List.reverse_append, ← imgs_rev r (h r (by simp))]
    simp [sem]
theorem revL_pos (m : List S56) (h : ∀ r ∈ m, 1 ≤ r.f1) : ∀ r ∈ revL m, 1 ≤ r.f1 := by
  intro r hr
  simp only [revL, List.mem_map, List.mem_reverse] at hr
  obtain ⟨q, hq, rfl⟩ := hr
  exact h q hq
theorem revL_len (m : List S56) : (revL m).length = m.length := by simp [revL]
end Go.Proofs.Ytjkakgkiikjdmaa.G

namespace Go.Proofs.Ytjkakgkiikjdmaa.G
open Go.RowKit Go.Proofs.YtjkakgkiikjdmaaW.PrintWords Go.Proofs.YtjkakgkiikjdmaaW.PrintLast Go.Proofs.YtjkakgkiikjdmaaW.PrintMore
attribute [local go_sem] max2_int min2_int max_two min_two max_three min_three max_four min_four   -- for this text's walks alone
set_option linter.unusedVariables false
set_option linter.unusedSimpArgs false

def iso_image.f (a0_0 : Int) (a0_1 : Int) (a0_2 : Bool) (a1 : Int) : Option (Int) := if a0_2 = true then (some (wrap64 (a0_0 - a1))) else (some (wrap64 (a0_0 + a1)))
set_option maxHeartbeats 8000000 in
set_option maxRecDepth 100000 in
theorem iso_image.calls (a0_0 : Int) (a0_1 : Int) (a0_2 : Bool) (a1 : Int) (r : Int) (w : World) (h : iso_image.f a0_0 a0_1 a0_2 a1 = some r) :
    Calls Try.prog 66 #[.agg #[.int .i64 a0_0, .int .i64 a0_1, .bool a0_2], .int .i64 a1] w fun e w' => e = .returned (.int .i64 r) ∧ Below w.heap.size w w' := by
  have hu56 := Try.underlying56
  have HB := Aside0.mk (Below.refl w.heap.size w)
  have H : (if a0_2 = true then (some (wrap64 (a0_0 - a1))) else (some (wrap64 (a0_0 + a1)))) = some r := h
  clear h
  by_cases c3 : a0_2 = true
  · subst c3
    have H1 : (some (wrap64 (a0_0 - a1))) = some r := by rw [if_pos rfl] at H; exact H
    clear H
    have H := H1
    clear H1
    obtain rfl := Option.some.inj H
    go_enter Try.func66, Try.ntmps66
    go_wp2_with (first | ((with_reducible refine gate_dst (N := 2) rfl ?_); refine box_event ?hg (N := 2) ?hd (cs := #[.int .i64 a0_0, .int .i64 a0_1, .bool true]) (t := 56) ?hr ?_; (case hd => rfl); (case hg => rfl); (case hr => first | (go_simp; done) | (go_simp; rfl)); intro gb67001 hg w4 hbox hb; have n0_ := Aside0.mk (below_step (by repeat (first | exact HB.out | apply below_alloc | apply pw_below_drewN | apply below_drew1)) hb); have n1_ := Aside0.mk (hbox); have n2_ := Aside0.mk ((by rw [hg]; exact (below_size (by repeat (first | exact HB.out | apply below_alloc | apply pw_below_drewN | apply below_drew1))) : w.heap.size ≤ gb67001)); have n3_ := Aside0.mk ((by rw [hg]; exact (below_size (by repeat (first | exact HB.out | apply below_alloc | apply pw_below_drewN | apply below_drew1))) : w.heap.size ≤ gb67001)); clear HB; have HB := n0_; have BK67001 := n1_; have GW67001 := n2_; have GE67001 := n3_; clear n0_ n1_ n2_ n3_; clear hb hbox hg; have hcz5_0 : w4.cell? ⟨gb67001, 0, none⟩ = some (.int .i64 a0_0) := (blk_cell BK67001.out 0).trans rfl; have hcz5_1 : w4.cell? ⟨gb67001, 1, none⟩ = some (.int .i64 a0_1) := (blk_cell BK67001.out 1).trans rfl; have hcz5_2 : w4.cell? ⟨gb67001, 2, none⟩ = some (.bool true) := (blk_cell BK67001.out 2).trans rfl; have hfz5_0 := blk_frozen BK67001.out 0; have hfz5_1 := blk_frozen BK67001.out 1; have hfz5_2 := blk_frozen BK67001.out 2))
    go_ret
    exact ⟨by first | rfl | (simp [errW_none, errW_some] <;> rfl) | (simp [*, errW_none, errW_some] <;> rfl), by repeat (first | exact HB.out | apply below_alloc | apply pw_below_drewN | apply below_drew1 | refine below_set ?_ GE67001.out)⟩
  · replace c3 := Bool.eq_false_iff.mpr c3
    subst c3
    have H1 : (some (wrap64 (a0_0 + a1))) = some r := by rw [if_neg (show ¬ (false = true) by decide)] at H; first | exact H | simpa using H
    clear H
    have H := H1
    clear H1
    obtain rfl := Option.some.inj H
    go_enter Try.func66, Try.ntmps66
    go_wp2_with (first | ((with_reducible refine gate_dst (N := 2) rfl ?_); refine box_event ?hg (N := 2) ?hd (cs := #[.int .i64 a0_0, .int .i64 a0_1, .bool false]) (t := 56) ?hr ?_; (case hd => rfl); (case hg => rfl); (case hr => first | (go_simp; done) | (go_simp; rfl)); intro gb67001 hg w6 hbox hb; have n0_ := Aside0.mk (below_step (by repeat (first | exact HB.out | apply below_alloc | apply pw_below_drewN | apply below_drew1)) hb); have n1_ := Aside0.mk (hbox); have n2_ := Aside0.mk ((by rw [hg]; exact (below_size (by repeat (first | exact HB.out | apply below_alloc | apply pw_below_drewN | apply below_drew1))) : w.heap.size ≤ gb67001)); have n3_ := Aside0.mk ((by rw [hg]; exact (below_size (by repeat (first | exact HB.out | apply below_alloc | apply pw_below_drewN | apply below_drew1))) : w.heap.size ≤ gb67001)); clear HB; have HB := n0_; have BK67001 := n1_; have GW67001 := n2_; have GE67001 := n3_; clear n0_ n1_ n2_ n3_; clear hb hbox hg; have hcz7_0 : w6.cell? ⟨gb67001, 0, none⟩ = some (.int .i64 a0_0) := (blk_cell BK67001.out 0).trans rfl; have hcz7_1 : w6.cell? ⟨gb67001, 1, none⟩ = some (.int .i64 a0_1) := (blk_cell BK67001.out 1).trans rfl; have hcz7_2 : w6.cell? ⟨gb67001, 2, none⟩ = some (.bool false) := (blk_cell BK67001.out 2).trans rfl; have hfz7_0 := blk_frozen BK67001.out 0; have hfz7_1 := blk_frozen BK67001.out 1; have hfz7_2 := blk_frozen BK67001.out 2))
    go_ret
    exact ⟨by first | rfl | (simp [errW_none, errW_some] <;> rfl) | (simp [*, errW_none, errW_some] <;> rfl), by repeat (first | exact HB.out | apply below_alloc | apply pw_below_drewN | apply below_drew1 | refine below_set ?_ GE67001.out)⟩

end Go.Proofs.Ytjkakgkiikjdmaa.G

namespace Go.Proofs.Ytjkakgkiikjdmaa.G
open Go.RowKit Go.Proofs.YtjkakgkiikjdmaaW.PrintWords Go.Proofs.YtjkakgkiikjdmaaW.PrintLast Go.Proofs.YtjkakgkiikjdmaaW.PrintMore
attribute [local go_sem] max2_int min2_int max_two min_two max_three min_three max_four min_four   -- for this text's walks alone
set_option linter.unusedVariables false
set_option linter.unusedSimpArgs false

def iso_part.f (a0_0 : Int) (a0_1 : Int) (a0_2 : Bool) (a1 : Int) (a2 : Int) : Option (Int × Int × Bool) := (iso_image.f a0_0 a0_1 a0_2 a1).bind fun t66003 => (if a0_2 = true then (some (t66003, a2, decide (a2 > 1))) else (some (t66003, a2, false)))
def iso_part.T1 : Bool × List (List Nat × List Nat) := (true, [([], []), ([], []), ([0, 1], [0, 1]), ([], []), ([], []), ([4], [4]), ([5, 2], [5]), ([6], [6]), ([7, 6], [6, 7]), ([6, 8], [6, 8]), ([2, 3, 9], [2, 3, 9]), ([10, 6, 0, 1, 2, 3, 4, 5, 6, 7, 8, 9, 10], [10])])
def iso_part.B1 : List Nat := [0, 0, 3, 0, 0, 16, 55, 119, 247, 503, 1023, 2047]
theorem iso_part.tab1 : rtab .any (opsOf Try.f65 1) = iso_part.T1 := by kernel_rfl
theorem iso_part.bits1 : waitsOk iso_part.T1.2 iso_part.B1 = true := by kernel_rfl
set_option maxHeartbeats 8000000 in
set_option maxRecDepth 100000 in
theorem iso_part.calls (a0_0 : Int) (a0_1 : Int) (a0_2 : Bool) (a1 : Int) (a2 : Int) (r1 : Int) (r2 : Int) (r3 : Bool) (w : World) (h : iso_part.f a0_0 a0_1 a0_2 a1 a2 = some (r1, r2, r3)) :
  Calls Try.prog 65 #[.agg #[.int .i64 a0_0, .int .i64 a0_1, .bool a0_2], .int .i64 a1, .int .i64 a2] w fun e w' => e = .returned (.agg #[.int .i64 r1, .int .i64 r2, .bool r3]) ∧ Below w.heap.size w w' := by
 have hu56 := Try.underlying56
 have HB := Aside0.mk (Below.refl w.heap.size w)
 have H : ((iso_image.f a0_0 a0_1 a0_2 a1).bind fun t66003 => (if a0_2 = true then (some (t66003, a2, decide (a2 > 1))) else (some (t66003, a2, false)))) = some (r1, r2, r3) := h
 clear h
 replace H := Option.bind_eq_some_iff.mp H
 obtain ⟨t66003, A40, H⟩ := H
 replace H : (if a0_2 = true then (some (t66003, a2, decide (a2 > 1))) else (some (t66003, a2, false))) = some (r1, r2, r3) := H
 have A4 := Aside0.mk A40
 clear A40
 by_cases c5 : a0_2 = true
 ·subst c5
  have H1 : (some (t66003, a2, decide (a2 > 1))) = some (r1, r2, r3) := by rw [if_pos rfl] at H; exact H
  clear H
  have H := H1
  clear H1
  simp only [Option.some.injEq, Prod.mk.injEq] at H
  obtain ⟨rfl, rfl, rfl⟩ := H
  go_enter Try.func65, Try.ntmps65
  try go_wp2_with (first | ((with_reducible refine gate_dst (N := 3) rfl ?_); refine box_event ?hg (N := 3) ?hd (cs := #[.int .i64 a0_0, .int .i64 a0_1, .bool true]) (t := 56) ?hr ?_; (case hd => rfl); (case hg => rfl); (case hr => first | (go_simp; done) | (go_simp; rfl)); intro gb66001 hg w6 hbox hb; have n0_ := Aside0.mk (below_step (by repeat (first | exact HB.out | apply below_alloc | apply pw_below_drewN | apply below_drew1)) hb); have n1_ := Aside0.mk (hbox); have n2_ := Aside0.mk ((by rw [hg]; exact (below_size (by repeat (first | exact HB.out | apply below_alloc | apply pw_below_drewN | apply below_drew1))) : w.heap.size ≤ gb66001)); have n3_ := Aside0.mk ((by rw [hg]; exact (below_size (by repeat (first | exact HB.out | apply below_alloc | apply pw_below_drewN | apply below_drew1))) : w.heap.size ≤ gb66001)); clear HB; have HB := n0_; have BK66001 := n1_; have GW66001 := n2_; have GE66001 := n3_; clear n0_ n1_ n2_ n3_; clear hb hbox hg) | ((with_reducible refine gate_dst (N := 6) rfl ?_); refine box_event ?hg (N := 6) ?hd (cs := #[.int .i64 0, .int .i64 0, .bool false]) (t := 56) ?hr ?_; (case hd => rfl); (case hg => rfl); (case hr => first | (go_simp; done) | (go_simp; rfl)); intro gb66002 hg w7 hbox hb; have n0_ := Aside0.mk (blk_below (g := gb66001) (o := .cells #[.int .i64 a0_0, .int .i64 a0_1, .bool true] 56 (0, 0)) (BK66001.out) hb); have n1_ := Aside0.mk (below_step (by repeat (first | exact HB.out | apply below_alloc | apply pw_below_drewN | apply below_drew1 | refine below_set ?_ GE66001.out)) hb); have n2_ := Aside0.mk (hbox); have n3_ := Aside0.mk ((by rw [hg]; exact (below_size (by repeat (first | exact HB.out | apply below_alloc | apply pw_below_drewN | apply below_drew1 | refine below_set ?_ GE66001.out))) : w.heap.size ≤ gb66002)); have n4_ := Aside0.mk ((by rw [hg]; exact (below_size (by repeat (first | exact HB.out | apply below_alloc | apply pw_below_drewN | apply below_drew1 | refine below_set ?_ GE66001.out))) : w.heap.size ≤ gb66002)); have n5_ := Aside0.mk ((by rw [hg]; exact Nat.ne_of_lt (blk_lt (g := gb66001) (o := .cells #[.int .i64 a0_0, .int .i64 a0_1, .bool true] 56 (0, 0)) (BK66001.out)) : gb66001 ≠ gb66002)); have n6_ := Aside0.mk ((by rw [hg]; exact Nat.ne_of_gt (blk_lt (g := gb66001) (o := .cells #[.int .i64 a0_0, .int .i64 a0_1, .bool true] 56 (0, 0)) (BK66001.out)) : gb66002 ≠ gb66001)); clear BK66001; clear HB; have BK66001 := n0_; have HB := n1_; have BK66002 := n2_; have GW66002 := n3_; have GE66002 := n4_; have NB66001_66002 := n5_; have NB66002_66001 := n6_; clear n0_ n1_ n2_ n3_ n4_ n5_ n6_; clear hb hbox hg))
  have n0_ := Aside0.mk (blk_drew BK66001.out)
  have n1_ := Aside0.mk (blk_drew BK66002.out)
  have n2_ := Aside0.mk (below_drew1 HB.out)
  clear BK66001
  clear BK66002
  clear HB
  have BK66001 := n0_
  have BK66002 := n1_
  have HB := n2_
  clear n0_ n1_ n2_
  refine start_ (n := 12) (S := fun w' => w'.cell? ⟨gb66001, 0, none⟩ = some (.int .i64 a0_0) ∧ w'.cell? ⟨gb66001, 1, none⟩ = some (.int .i64 a0_1) ∧ w'.cell? ⟨gb66001, 2, none⟩ = some (.bool true)) (ds := []) #[false, false, false, false, false, false, false, false, false, false, false, false] (by kernel_rfl) rfl rfl ⟨(blk_cell BK66001.out 0).trans rfl, (blk_cell BK66001.out 1).trans rfl, (blk_cell BK66001.out 2).trans rfl⟩ (fun hHeld => ?_); refine with_tabW iso_part.tab1 iso_part.bits1 (fun HT_ HW_ => ?_)
  generalize w7.drew = w8 at BK66001 BK66002 HB hHeld ⊢
  refine pure_ (i := 1) (N := some 8) (v := ?_) (a' := ?_) #[false, true, false, false, false, false, false, false, false, false, false, false] rfl rfl (any_of HT_.out (by kernel_rfl)) (fun _ _ _ h => h) (Or.inl ⟨by rfl, ?_⟩) ?_ ?_
  rotate_left
  ·intro w'
   go_simp
   with_reducible rfl
  rotate_left
  ·simp only [Act.put, List.setIfInBounds_toArray, List.set_cons_zero, List.set_cons_succ, i64_w, i32_w]
   rfl
  refine pure_ (i := 3) (N := some 10) (v := ?_) (a' := ?_) #[false, true, false, true, false, false, false, false, false, false, false, false] rfl rfl (any_of HT_.out (by kernel_rfl)) (fun _ _ _ h => h) (Or.inl ⟨by rfl, ?_⟩) ?_ ?_
  rotate_left
  ·intro w'
   go_simp
   with_reducible rfl
  rotate_left
  ·simp only [Act.put, List.setIfInBounds_toArray, List.set_cons_zero, List.set_cons_succ, i64_w, i32_w]
   rfl
  refine pure_ (i := 4) (N := some 11) (v := ?_) (a' := ?_) #[false, true, false, true, true, false, false, false, false, false, false, false] rfl rfl (any_of HT_.out (by kernel_rfl)) (fun _ _ _ h => h) (Or.inl ⟨by rfl, ?_⟩) ?_ ?_
  rotate_left
  ·intro w'
   go_simp
   with_reducible rfl
  rotate_left
  ·simp only [Act.put, List.setIfInBounds_toArray, List.set_cons_zero, List.set_cons_succ, i64_w, i32_w]
   rfl
  refine take_ (i := 0) (N := some 7) (v := ?_) (a' := ?_) #[true, true, false, true, true, false, false, false, false, false, false, false] rfl rfl (take_ofW HT_.out HW_.out (by kernel_rfl)) (fun _ _ _ h => h) (Or.inl ⟨by rfl, ?_⟩) hHeld ?_ ?_
  rotate_left
  ·rintro w' ⟨s0, s1, s2⟩
   go_simp
   with_reducible rfl
  rotate_left
  ·simp only [Act.put, List.setIfInBounds_toArray, List.set_cons_zero, List.set_cons_succ, i64_w, i32_w]
   rfl
  refine take_ (i := 5) (N := some 12) (v := ?_) (a' := ?_) #[true, true, false, true, true, true, false, false, false, false, false, false] rfl rfl (take_ofW HT_.out HW_.out (by kernel_rfl)) (fun _ _ _ h => h) (Or.inl ⟨by rfl, ?_⟩) hHeld ?_ ?_
  rotate_left
  ·rintro w' ⟨s0, s1, s2⟩
   go_simp
   with_reducible rfl
  rotate_left
  ·simp only [Act.put, List.setIfInBounds_toArray, List.set_cons_zero, List.set_cons_succ, i64_w, i32_w]
   rfl
  refine one_ (i := 2) (N := some 9) #[true, true, true, true, true, true, false, false, false, false, false, false] rfl rfl (one_of HT_.out (by kernel_rfl)) (by decide) (fun K hK => ?_)
  refine goes_ Try.func66 (by kernel_rfl) rfl #[.agg #[.int .i64 a0_0, .int .i64 a0_1, .bool true], .int .i64 a1] (by rfl) rfl rfl (by (try simp only [List.map_toArray, List.map_cons, List.map_nil]); first | done | rfl | (simp only [List.length_drop, List.length_take]; rfl)) ?_
  with_reducible refine (iso_image.calls a0_0 a0_1 true a1 t66003 _ A4.out).mono ?_
  rintro e w9 ⟨rfl, hb⟩
  refine ⟨_, rfl, ?_⟩
  have n0_ := Aside0.mk (blk_below (g := gb66001) (o := .cells #[.int .i64 a0_0, .int .i64 a0_1, .bool true] 56 (0, 0)) (BK66001.out) hb)
  have n1_ := Aside0.mk (blk_below (g := gb66002) (o := .cells #[.int .i64 0, .int .i64 0, .bool false] 56 (0, 0)) (BK66002.out) hb)
  have n2_ := Aside0.mk (below_step (by repeat (first | exact HB.out | apply below_alloc | apply pw_below_drewN | apply below_drew1 | refine below_set ?_ GE66001.out | refine below_set ?_ GE66002.out)) hb)
  clear BK66001
  clear BK66002
  clear HB
  have BK66001 := n0_
  have BK66002 := n1_
  have HB := n2_
  clear n0_ n1_ n2_
  (try clear hb)
  (try clear hb2)
  (try clear hk)
  (try clear hi)
  refine hK.out _ _ ⟨(blk_cell BK66001.out 0).trans rfl, (blk_cell BK66001.out 1).trans rfl, (blk_cell BK66001.out 2).trans rfl⟩ (fun hHeld => ?_)
  clear hK K
  refine norm_ (a' := ?_) ?_ ?_
  rotate_left
  ·show Act.put _ (some 9) _ = _
   simp only [Act.put, List.setIfInBounds_toArray, List.set_cons_zero, List.set_cons_succ, i64_w, i32_w]
   rfl
  refine pure_ (i := 6) (N := some 13) (v := ?_) (a' := ?_) #[true, true, true, true, true, true, true, false, false, false, false, false] rfl rfl (any_of HT_.out (by kernel_rfl)) (fun _ _ _ h => h) (Or.inl ⟨by rfl, ?_⟩) ?_ ?_
  rotate_left
  ·intro w'
   go_simp
   with_reducible rfl
  rotate_left
  ·simp only [Act.put, List.setIfInBounds_toArray, List.set_cons_zero, List.set_cons_succ, i64_w, i32_w]
   rfl
  refine pure_ (i := 7) (N := some 14) (v := ?_) (a' := ?_) #[true, true, true, true, true, true, true, true, false, false, false, false] rfl rfl (any_of HT_.out (by kernel_rfl)) (fun _ _ _ h => h) (Or.inl ⟨by rfl, ?_⟩) ?_ ?_
  rotate_left
  ·intro w'
   go_simp
   with_reducible rfl
  rotate_left
  ·simp only [Act.put, List.setIfInBounds_toArray, List.set_cons_zero, List.set_cons_succ, i64_w, i32_w]
   rfl
  refine pure_ (i := 8) (N := some 15) (v := ?_) (a' := ?_) #[true, true, true, true, true, true, true, true, true, false, false, false] rfl rfl (any_of HT_.out (by kernel_rfl)) (fun _ _ _ h => h) (Or.inl ⟨by rfl, ?_⟩) ?_ ?_
  rotate_left
  ·intro w'
   go_simp
   with_reducible rfl
  rotate_left
  ·simp only [Act.put, List.setIfInBounds_toArray, List.set_cons_zero, List.set_cons_succ, i64_w, i32_w]
   rfl
  refine pure_ (i := 9) (N := some 16) (v := ?_) (a' := ?_) #[true, true, true, true, true, true, true, true, true, true, false, false] rfl rfl (any_of HT_.out (by kernel_rfl)) (fun _ _ _ h => h) (Or.inl ⟨by rfl, ?_⟩) ?_ ?_
  rotate_left
  ·intro w'
   go_simp
   with_reducible rfl
  rotate_left
  ·simp only [Act.put, List.setIfInBounds_toArray, List.set_cons_zero, List.set_cons_succ, i64_w, i32_w]
   rfl
  refine pure_ (i := 10) (N := some 17) (v := ?_) (a' := ?_) #[true, true, true, true, true, true, true, true, true, true, true, false] rfl rfl (any_of HT_.out (by kernel_rfl)) (fun _ _ _ h => h) (Or.inl ⟨by rfl, ?_⟩) ?_ ?_
  rotate_left
  ·intro w'
   go_simp
   with_reducible rfl
  rotate_left
  ·simp only [Act.put, List.setIfInBounds_toArray, List.set_cons_zero, List.set_cons_succ, i64_w, i32_w]
   rfl
  refine one_ (i := 11) (N := none) #[true, true, true, true, true, true, true, true, true, true, true, true] rfl rfl (one_of HT_.out (by kernel_rfl)) (by decide) (fun K hK => ?_)
  have hs10 : w9.cell? ⟨gb66002, 0, none⟩ = some (.int .i64 0) := (blk_cell BK66002.out 0).trans rfl
  have hfs10 := blk_frozen BK66002.out 0
  have hns10_0 := NB66001_66002.out
  have hms10_0 := NB66002_66001.out
  have hs11 : w9.cell? ⟨gb66002, 1, none⟩ = some (.int .i64 0) := (blk_cell BK66002.out 1).trans rfl
  have hfs11 := blk_frozen BK66002.out 1
  have hns11_0 := NB66001_66002.out
  have hms11_0 := NB66002_66001.out
  have hs12 : w9.cell? ⟨gb66002, 2, none⟩ = some (.bool false) := (blk_cell BK66002.out 2).trans rfl
  have hfs12 := blk_frozen BK66002.out 2
  have hns12_0 := NB66001_66002.out
  have hms12_0 := NB66002_66001.out
  refine skip_ (w1 := ?_) (by rfl) rfl ?_ ?_
  rotate_left
  ·go_simp
   rfl
  refine hK.out _ _ ⟨((cell_far (p := ⟨gb66002, _, none⟩) NB66001_66002.out _).trans (((cell_far (p := ⟨gb66002, _, none⟩) NB66001_66002.out _).trans (((cell_far (p := ⟨gb66002, _, none⟩) NB66001_66002.out _).trans (hHeld.1)))))), ((cell_far (p := ⟨gb66002, _, none⟩) NB66001_66002.out _).trans (((cell_far (p := ⟨gb66002, _, none⟩) NB66001_66002.out _).trans (((cell_far (p := ⟨gb66002, _, none⟩) NB66001_66002.out _).trans (hHeld.2.1)))))), ((cell_far (p := ⟨gb66002, _, none⟩) NB66001_66002.out _).trans (((cell_far (p := ⟨gb66002, _, none⟩) NB66001_66002.out _).trans (((cell_far (p := ⟨gb66002, _, none⟩) NB66001_66002.out _).trans (hHeld.2.2))))))⟩ (fun hHeld => ?_)
  clear hK K
  refine done_ (done_of HT_.out (by kernel_rfl)) ?_
  try go_wp2
  refine bodyPost_ret (results_cell_row rfl _ _ gb66002 56 #[.int .i64 t66003, .int .i64 a2, .bool (decide (a2 > 1))] (0, 0) _ rfl (by refine blk_put (cs := #[.int .i64 t66003, .int .i64 a2, .bool false]) ?_ 2 _ rfl; refine blk_put (cs := #[.int .i64 t66003, .int .i64 0, .bool false]) ?_ 1 _ rfl; refine blk_put (cs := #[.int .i64 0, .int .i64 0, .bool false]) ?_ 0 _ rfl; exact BK66002.out) Try.underlying56 rfl (by kernel_rfl)) rfl ?_
  exact ⟨by first | rfl | (simp [errW_none, errW_some] <;> rfl) | (simp [*, errW_none, errW_some] <;> rfl), by repeat (first | exact HB.out | apply below_alloc | apply pw_below_drewN | apply below_drew1 | refine below_set ?_ GE66001.out | refine below_set ?_ GE66002.out)⟩
 ·replace c5 := Bool.eq_false_iff.mpr c5
  subst c5
  have H1 : (some (t66003, a2, false)) = some (r1, r2, r3) := by rw [if_neg (show ¬ (false = true) by decide)] at H; first | exact H | simpa using H
  clear H
  have H := H1
  clear H1
  simp only [Option.some.injEq, Prod.mk.injEq] at H
  obtain ⟨rfl, rfl, rfl⟩ := H
  go_enter Try.func65, Try.ntmps65
  try go_wp2_with (first | ((with_reducible refine gate_dst (N := 3) rfl ?_); refine box_event ?hg (N := 3) ?hd (cs := #[.int .i64 a0_0, .int .i64 a0_1, .bool false]) (t := 56) ?hr ?_; (case hd => rfl); (case hg => rfl); (case hr => first | (go_simp; done) | (go_simp; rfl)); intro gb66001 hg w13 hbox hb; have n0_ := Aside0.mk (below_step (by repeat (first | exact HB.out | apply below_alloc | apply pw_below_drewN | apply below_drew1)) hb); have n1_ := Aside0.mk (hbox); have n2_ := Aside0.mk ((by rw [hg]; exact (below_size (by repeat (first | exact HB.out | apply below_alloc | apply pw_below_drewN | apply below_drew1))) : w.heap.size ≤ gb66001)); have n3_ := Aside0.mk ((by rw [hg]; exact (below_size (by repeat (first | exact HB.out | apply below_alloc | apply pw_below_drewN | apply below_drew1))) : w.heap.size ≤ gb66001)); clear HB; have HB := n0_; have BK66001 := n1_; have GW66001 := n2_; have GE66001 := n3_; clear n0_ n1_ n2_ n3_; clear hb hbox hg) | ((with_reducible refine gate_dst (N := 6) rfl ?_); refine box_event ?hg (N := 6) ?hd (cs := #[.int .i64 0, .int .i64 0, .bool false]) (t := 56) ?hr ?_; (case hd => rfl); (case hg => rfl); (case hr => first | (go_simp; done) | (go_simp; rfl)); intro gb66002 hg w14 hbox hb; have n0_ := Aside0.mk (blk_below (g := gb66001) (o := .cells #[.int .i64 a0_0, .int .i64 a0_1, .bool false] 56 (0, 0)) (BK66001.out) hb); have n1_ := Aside0.mk (below_step (by repeat (first | exact HB.out | apply below_alloc | apply pw_below_drewN | apply below_drew1 | refine below_set ?_ GE66001.out)) hb); have n2_ := Aside0.mk (hbox); have n3_ := Aside0.mk ((by rw [hg]; exact (below_size (by repeat (first | exact HB.out | apply below_alloc | apply pw_below_drewN | apply below_drew1 | refine below_set ?_ GE66001.out))) : w.heap.size ≤ gb66002)); have n4_ := Aside0.mk ((by rw [hg]; exact (below_size (by repeat (first | exact HB.out | apply below_alloc | apply pw_below_drewN | apply below_drew1 | refine below_set ?_ GE66001.out))) : w.heap.size ≤ gb66002)); have n5_ := Aside0.mk ((by rw [hg]; exact Nat.ne_of_lt (blk_lt (g := gb66001) (o := .cells #[.int .i64 a0_0, .int .i64 a0_1, .bool false] 56 (0, 0)) (BK66001.out)) : gb66001 ≠ gb66002)); have n6_ := Aside0.mk ((by rw [hg]; exact Nat.ne_of_gt (blk_lt (g := gb66001) (o := .cells #[.int .i64 a0_0, .int .i64 a0_1, .bool false] 56 (0, 0)) (BK66001.out)) : gb66002 ≠ gb66001)); clear BK66001; clear HB; have BK66001 := n0_; have HB := n1_; have BK66002 := n2_; have GW66002 := n3_; have GE66002 := n4_; have NB66001_66002 := n5_; have NB66002_66001 := n6_; clear n0_ n1_ n2_ n3_ n4_ n5_ n6_; clear hb hbox hg))
  have n0_ := Aside0.mk (blk_drew BK66001.out)
  have n1_ := Aside0.mk (blk_drew BK66002.out)
  have n2_ := Aside0.mk (below_drew1 HB.out)
  clear BK66001
  clear BK66002
  clear HB
  have BK66001 := n0_
  have BK66002 := n1_
  have HB := n2_
  clear n0_ n1_ n2_
  refine start_ (n := 12) (S := fun w' => w'.cell? ⟨gb66001, 0, none⟩ = some (.int .i64 a0_0) ∧ w'.cell? ⟨gb66001, 1, none⟩ = some (.int .i64 a0_1) ∧ w'.cell? ⟨gb66001, 2, none⟩ = some (.bool false)) (ds := []) #[false, false, false, false, false, false, false, false, false, false, false, false] (by kernel_rfl) rfl rfl ⟨(blk_cell BK66001.out 0).trans rfl, (blk_cell BK66001.out 1).trans rfl, (blk_cell BK66001.out 2).trans rfl⟩ (fun hHeld => ?_); refine with_tabW iso_part.tab1 iso_part.bits1 (fun HT_ HW_ => ?_)
  generalize w14.drew = w15 at BK66001 BK66002 HB hHeld ⊢
  refine pure_ (i := 1) (N := some 8) (v := ?_) (a' := ?_) #[false, true, false, false, false, false, false, false, false, false, false, false] rfl rfl (any_of HT_.out (by kernel_rfl)) (fun _ _ _ h => h) (Or.inl ⟨by rfl, ?_⟩) ?_ ?_
  rotate_left
  ·intro w'
   go_simp
   with_reducible rfl
  rotate_left
  ·simp only [Act.put, List.setIfInBounds_toArray, List.set_cons_zero, List.set_cons_succ, i64_w, i32_w]
   rfl
  refine pure_ (i := 3) (N := some 10) (v := ?_) (a' := ?_) #[false, true, false, true, false, false, false, false, false, false, false, false] rfl rfl (any_of HT_.out (by kernel_rfl)) (fun _ _ _ h => h) (Or.inl ⟨by rfl, ?_⟩) ?_ ?_
  rotate_left
  ·intro w'
   go_simp
   with_reducible rfl
  rotate_left
  ·simp only [Act.put, List.setIfInBounds_toArray, List.set_cons_zero, List.set_cons_succ, i64_w, i32_w]
   rfl
  refine pure_ (i := 4) (N := some 11) (v := ?_) (a' := ?_) #[false, true, false, true, true, false, false, false, false, false, false, false] rfl rfl (any_of HT_.out (by kernel_rfl)) (fun _ _ _ h => h) (Or.inl ⟨by rfl, ?_⟩) ?_ ?_
  rotate_left
  ·intro w'
   go_simp
   with_reducible rfl
  rotate_left
  ·simp only [Act.put, List.setIfInBounds_toArray, List.set_cons_zero, List.set_cons_succ, i64_w, i32_w]
   rfl
  refine take_ (i := 0) (N := some 7) (v := ?_) (a' := ?_) #[true, true, false, true, true, false, false, false, false, false, false, false] rfl rfl (take_ofW HT_.out HW_.out (by kernel_rfl)) (fun _ _ _ h => h) (Or.inl ⟨by rfl, ?_⟩) hHeld ?_ ?_
  rotate_left
  ·rintro w' ⟨s0, s1, s2⟩
   go_simp
   with_reducible rfl
  rotate_left
  ·simp only [Act.put, List.setIfInBounds_toArray, List.set_cons_zero, List.set_cons_succ, i64_w, i32_w]
   rfl
  refine take_ (i := 5) (N := some 12) (v := ?_) (a' := ?_) #[true, true, false, true, true, true, false, false, false, false, false, false] rfl rfl (take_ofW HT_.out HW_.out (by kernel_rfl)) (fun _ _ _ h => h) (Or.inl ⟨by rfl, ?_⟩) hHeld ?_ ?_
  rotate_left
  ·rintro w' ⟨s0, s1, s2⟩
   go_simp
   with_reducible rfl
  rotate_left
  ·simp only [Act.put, List.setIfInBounds_toArray, List.set_cons_zero, List.set_cons_succ, i64_w, i32_w]
   rfl
  refine one_ (i := 2) (N := some 9) #[true, true, true, true, true, true, false, false, false, false, false, false] rfl rfl (one_of HT_.out (by kernel_rfl)) (by decide) (fun K hK => ?_)
  refine goes_ Try.func66 (by kernel_rfl) rfl #[.agg #[.int .i64 a0_0, .int .i64 a0_1, .bool false], .int .i64 a1] (by rfl) rfl rfl (by (try simp only [List.map_toArray, List.map_cons, List.map_nil]); first | done | rfl | (simp only [List.length_drop, List.length_take]; rfl)) ?_
  with_reducible refine (iso_image.calls a0_0 a0_1 false a1 t66003 _ A4.out).mono ?_
  rintro e w16 ⟨rfl, hb⟩
  refine ⟨_, rfl, ?_⟩
  have n0_ := Aside0.mk (blk_below (g := gb66001) (o := .cells #[.int .i64 a0_0, .int .i64 a0_1, .bool false] 56 (0, 0)) (BK66001.out) hb)
  have n1_ := Aside0.mk (blk_below (g := gb66002) (o := .cells #[.int .i64 0, .int .i64 0, .bool false] 56 (0, 0)) (BK66002.out) hb)
  have n2_ := Aside0.mk (below_step (by repeat (first | exact HB.out | apply below_alloc | apply pw_below_drewN | apply below_drew1 | refine below_set ?_ GE66001.out | refine below_set ?_ GE66002.out)) hb)
  clear BK66001
  clear BK66002
  clear HB
  have BK66001 := n0_
  have BK66002 := n1_
  have HB := n2_
  clear n0_ n1_ n2_
  (try clear hb)
  (try clear hb2)
  (try clear hk)
  (try clear hi)
  refine hK.out _ _ ⟨(blk_cell BK66001.out 0).trans rfl, (blk_cell BK66001.out 1).trans rfl, (blk_cell BK66001.out 2).trans rfl⟩ (fun hHeld => ?_)
  clear hK K
  refine norm_ (a' := ?_) ?_ ?_
  rotate_left
  ·show Act.put _ (some 9) _ = _
   simp only [Act.put, List.setIfInBounds_toArray, List.set_cons_zero, List.set_cons_succ, i64_w, i32_w]
   rfl
  refine pure_ (i := 6) (N := some 13) (v := ?_) (a' := ?_) #[true, true, true, true, true, true, true, false, false, false, false, false] rfl rfl (any_of HT_.out (by kernel_rfl)) (fun _ _ _ h => h) (Or.inl ⟨by rfl, ?_⟩) ?_ ?_
  rotate_left
  ·intro w'
   go_simp
   with_reducible rfl
  rotate_left
  ·simp only [Act.put, List.setIfInBounds_toArray, List.set_cons_zero, List.set_cons_succ, i64_w, i32_w]
   rfl
  refine pure_ (i := 7) (N := some 14) (v := undef) (a' := ?_) #[true, true, true, true, true, true, true, true, false, false, false, false] rfl rfl (any_of HT_.out (by kernel_rfl)) (fun _ _ _ h => h) (Or.inr ⟨by rfl, rfl⟩) ?_ ?_
  rotate_left
  ·simp only [Act.put, List.setIfInBounds_toArray, List.set_cons_zero, List.set_cons_succ, i64_w, i32_w]
   rfl
  refine pure_ (i := 8) (N := some 15) (v := undef) (a' := ?_) #[true, true, true, true, true, true, true, true, true, false, false, false] rfl rfl (any_of HT_.out (by kernel_rfl)) (fun _ _ _ h => h) (Or.inr ⟨by rfl, rfl⟩) ?_ ?_
  rotate_left
  ·simp only [Act.put, List.setIfInBounds_toArray, List.set_cons_zero, List.set_cons_succ, i64_w, i32_w]
   rfl
  refine pure_ (i := 9) (N := some 16) (v := ?_) (a' := ?_) #[true, true, true, true, true, true, true, true, true, true, false, false] rfl rfl (any_of HT_.out (by kernel_rfl)) (fun _ _ _ h => h) (Or.inl ⟨by rfl, ?_⟩) ?_ ?_
  rotate_left
  ·intro w'
   go_simp
   with_reducible rfl
  rotate_left
  ·simp only [Act.put, List.setIfInBounds_toArray, List.set_cons_zero, List.set_cons_succ, i64_w, i32_w]
   rfl
  refine pure_ (i := 10) (N := some 17) (v := ?_) (a' := ?_) #[true, true, true, true, true, true, true, true, true, true, true, false] rfl rfl (any_of HT_.out (by kernel_rfl)) (fun _ _ _ h => h) (Or.inl ⟨by rfl, ?_⟩) ?_ ?_
  rotate_left
  ·intro w'
   go_simp
   with_reducible rfl
  rotate_left
  ·simp only [Act.put, List.setIfInBounds_toArray, List.set_cons_zero, List.set_cons_succ, i64_w, i32_w]
   rfl
  refine one_ (i := 11) (N := none) #[true, true, true, true, true, true, true, true, true, true, true, true] rfl rfl (one_of HT_.out (by kernel_rfl)) (by decide) (fun K hK => ?_)
  have hs17 : w16.cell? ⟨gb66002, 0, none⟩ = some (.int .i64 0) := (blk_cell BK66002.out 0).trans rfl
  have hfs17 := blk_frozen BK66002.out 0
  have hns17_0 := NB66001_66002.out
  have hms17_0 := NB66002_66001.out
  have hs18 : w16.cell? ⟨gb66002, 1, none⟩ = some (.int .i64 0) := (blk_cell BK66002.out 1).trans rfl
  have hfs18 := blk_frozen BK66002.out 1
  have hns18_0 := NB66001_66002.out
  have hms18_0 := NB66002_66001.out
  have hs19 : w16.cell? ⟨gb66002, 2, none⟩ = some (.bool false) := (blk_cell BK66002.out 2).trans rfl
  have hfs19 := blk_frozen BK66002.out 2
  have hns19_0 := NB66001_66002.out
  have hms19_0 := NB66002_66001.out
  refine skip_ (w1 := ?_) (by rfl) rfl ?_ ?_
  rotate_left
  ·go_simp
   rfl
  refine hK.out _ _ ⟨((cell_far (p := ⟨gb66002, _, none⟩) NB66001_66002.out _).trans (((cell_far (p := ⟨gb66002, _, none⟩) NB66001_66002.out _).trans (((cell_far (p := ⟨gb66002, _, none⟩) NB66001_66002.out _).trans (hHeld.1)))))), ((cell_far (p := ⟨gb66002, _, none⟩) NB66001_66002.out _).trans (((cell_far (p := ⟨gb66002, _, none⟩) NB66001_66002.out _).trans (((cell_far (p := ⟨gb66002, _, none⟩) NB66001_66002.out _).trans (hHeld.2.1)))))), ((cell_far (p := ⟨gb66002, _, none⟩) NB66001_66002.out _).trans (((cell_far (p := ⟨gb66002, _, none⟩) NB66001_66002.out _).trans (((cell_far (p := ⟨gb66002, _, none⟩) NB66001_66002.out _).trans (hHeld.2.2))))))⟩ (fun hHeld => ?_)
  clear hK K
  refine done_ (done_of HT_.out (by kernel_rfl)) ?_
  try go_wp2
  refine bodyPost_ret (results_cell_row rfl _ _ gb66002 56 #[.int .i64 t66003, .int .i64 a2, .bool false] (0, 0) _ rfl (by refine blk_put (cs := #[.int .i64 t66003, .int .i64 a2, .bool false]) ?_ 2 _ rfl; refine blk_put (cs := #[.int .i64 t66003, .int .i64 0, .bool false]) ?_ 1 _ rfl; refine blk_put (cs := #[.int .i64 0, .int .i64 0, .bool false]) ?_ 0 _ rfl; exact BK66002.out) Try.underlying56 rfl (by kernel_rfl)) rfl ?_
  exact ⟨by first | rfl | (simp [errW_none, errW_some] <;> rfl) | (simp [*, errW_none, errW_some] <;> rfl), by repeat (first | exact HB.out | apply below_alloc | apply pw_below_drewN | apply below_drew1 | refine below_set ?_ GE66001.out | refine below_set ?_ GE66002.out)⟩

end Go.Proofs.Ytjkakgkiikjdmaa.G

namespace Go.Proofs.Ytjkakgkiikjdmaa.G
open Go.RowKit Go.Proofs.YtjkakgkiikjdmaaW.PrintWords Go.Proofs.YtjkakgkiikjdmaaW.PrintLast Go.Proofs.YtjkakgkiikjdmaaW.PrintMore
attribute [local go_sem] max2_int min2_int max_two min_two max_three min_three max_four min_four   -- for this text's walks alone
set_option linter.unusedVariables false
set_option linter.unusedSimpArgs false
def vR (r : S56) : Value := .agg #[.int .i64 r.f0, .int .i64 r.f1, .bool r.f2]
def nearR (r : S56) : Prop := -1099511627776 ≤ r.f0 ∧ r.f0 ≤ 1099511627776 ∧ r.f1 ≤ 1099511627776
theorem image_is (r : S56) (x : Int) (h : nearR r) (h0 : -1099511627776 ≤ x) (h1 : x ≤ 1099511627776) : iso_image.f r.f0 r.f1 r.f2 x = some (img r x) := by
  have := h.1; have := h.2.1
  have e1 : wrap64 (r.f0 - x) = r.f0 - x := by unfold wrap64; omega
  have e2 : wrap64 (r.f0 + x) = r.f0 + x := by unfold wrap64; omega
  unfold iso_image.f img
  rw [e1, e2]
  split <;> rfl
theorem part_is (r : S56) (x n : Int) (h : nearR r) (h0 : -1099511627776 ≤ x) (h1 : x ≤ 1099511627776) : iso_part.f r.f0 r.f1 r.f2 x n = some ((partR r x n).f0, (partR r x n).f1, (partR r x n).f2) := by
  unfold iso_part.f
  rw [image_is r x h h0 h1, Option.bind_some]
  cases hb : r.f2 <;> simp [partR, hb]
theorem part_calls (r : S56) (x n : Int) (w : World) (h : nearR r) (h0 : -1099511627776 ≤ x) (h1 : x ≤ 1099511627776) : Calls Try.prog 65 #[.agg #[.int .i64 r.f0, .int .i64 r.f1, .bool r.f2], .int .i64 x, .int .i64 n] w fun e w' => e = .returned (.agg #[.int .i64 (partR r x n).f0, .int .i64 (partR r x n).f1, .bool (partR r x n).f2]) ∧ Below w.heap.size w w' :=
  iso_part.calls _ _ _ _ _ _ _ _ w (part_is r x n h h0 h1)
theorem pieces_append (a b : List S56) : ∀ (at_ f t : Int), pieces (a ++ b) at_ f t = pieces a at_ f t ++ pieces b (at_ + tot13 a) f t := by
  induction a with
  | nil => intro at_ f t; simp [pieces, tot13]
  | cons r a ih => intro at_ f t; simp only [List.cons_append, pieces]; rw [ih, tot13_cons, List.append_assoc, Int.add_assoc]
theorem tot13_bound (m : List S56) (h : ∀ r ∈ m, 0 ≤ r.f1 ∧ r.f1 ≤ 17179869184) : 0 ≤ tot13 m ∧ tot13 m ≤ m.length * 17179869184 := by
  induction m with
  | nil => simp [tot13]
  | cons r m ih => have := ih (fun x hx => h x (by simp [hx])); have := h r (by simp); rw [tot13_cons, List.length_cons]; omega
set_option maxRecDepth 100000 in
set_option maxHeartbeats 8000000 in
theorem each_add (g N : Nat) (Inv : List S56 → World → Prop) (ok : S56 → Prop)
    (Dirty : World → Nat → Prop) (hd : ∀ ps W k, Inv ps W → Dirty W k → k < W.heap.size)
    (hmono : ∀ ps W W', Inv ps W → Below W.heap.size W W' → Inv ps W' ∧ ∀ k, Dirty W' k → Dirty W k)
    (hstep : ∀ ps r W, ps.length < N → Inv ps W → ok r → Calls Try.prog 51 #[.pointer (some ⟨g, 0, none⟩), .agg #[.int .i64 r.f0, .int .i64 r.f1, .bool r.f2]] W fun e W' => e = .returned (.tuple #[]) ∧ Inv (ps ++ [r]) W' ∧ Below g W W' ∧ ∀ X o, W.heap[X]? = some o → ¬ Dirty W X → W'.heap[X]? = some o)
    (A0 : Option Addr) (c0 : Nat) (m : List S56) (f t : Int) (ps0 : List S56) (w0 w : World) (hr : Kd.C k56 w0 A0 m.length m) (hc : m.length ≤ c0) (hg : w0.heap.size ≤ g) (hb : Below w0.heap.size w0 w) (hi : Inv ps0 w)
    (hN : ps0.length + m.length ≤ N) (hl : m.length ≤ 65536) (hm : ∀ r ∈ m, 0 ≤ r.f0 ∧ r.f0 ≤ 17179869184 ∧ 1 ≤ r.f1 ∧ r.f1 ≤ 17179869184) (hf : 0 ≤ f ∧ f ≤ 1099511627776) (ht : 0 ≤ t ∧ t ≤ 1099511627776)
    (hok : ∀ r ∈ m, ∀ a n, 0 ≤ a → 1 ≤ n → a + n ≤ r.f1 → ok (partR r a n)) :
    Calls Try.prog 50 #[.slice A0 m.length c0, .int .i64 f, .int .i64 t, .func (.func 51) #[.pointer (some ⟨g, 0, none⟩)] #[]] w fun e w' => e = .returned (.tuple #[]) ∧ Inv (ps0 ++ pieces m 0 f t) w' ∧ Below w0.heap.size w0 w' := by
  have HR := Aside0.mk hr
  have HC := Aside0.mk hc
  have HG := Aside0.mk hg
  have HM := Aside0.mk hm
  have HOK := Aside0.mk hok
  have HS := Aside0.mk hstep
  have HMo := Aside0.mk hmono
  have HD := Aside0.mk hd
  have HI := Aside0.mk hi
  have HB0 := Aside0.mk hb
  have HF := Aside0.mk hf
  have HT := Aside0.mk ht
  clear hr hc hg hm hok hstep hmono hi hb hf ht hd
  go_enter Try.func50, Try.ntmps50
  go_wp2
  go_loopw [8, 15] (fun a i wr => ∃ kk : Nat, i = .int .i64 kk ∧ a = .int .i64 (tot13 (m.take kk)) ∧ Aside0 (kk ≤ m.length) ∧ Aside0 (Inv (ps0 ++ pieces (m.take kk) 0 f t) wr) ∧ Aside0 (Below w0.heap.size w0 wr))
    (fun _ i _ => m.length - (intOf i).toNat)
  case atStart => exact ⟨0, rfl, by simp [tot13], ⟨Nat.zero_le _⟩, ⟨by simpa [pieces] using HI.out⟩, HB0⟩
  case round =>
    obtain ⟨kk, rfl, rfl, HK, HI1, HB⟩ := hrel
    by_cases hk : kk < m.length
    · have hk1 : (kk : Int) < (m.length : Int) := by omega
      have hd0 : decide (kk < m.length) = true := by simpa using hk
      obtain ⟨ad, rfl, hz0, hz1, hz2⟩ := at_T56 (Kd.C_below HR.out HB.out) (kk : Int) (by omega) hk1
      simp only [Int.toNat_natCast] at hz0 hz1 hz2
      have hpl := Aside0.mk (show (ps0 ++ pieces (m.take kk) 0 f t).length < N by have := pieces_len (m.take kk) 0 f t; rw [List.length_take] at this; rw [List.length_append]; omega)
      have hrm := Aside0.mk (show rd_T56 m kk ∈ m by simp [rd_T56, List.getD_eq_getElem?_getD, List.getElem?_eq_getElem hk])
      have hsn := Aside0.mk (show m.take (kk + 1) = m.take kk ++ [rd_T56 m kk] by rw [List.take_succ_eq_append_getElem hk]; simp [rd_T56, List.getD_eq_getElem?_getD, List.getElem?_eq_getElem hk])
      have hv := HM.out _ hrm.out
      have htb := tot13_bound (m.take kk) (fun r hr => by have := HM.out r (List.mem_of_mem_take hr); omega)
      have htl : (m.take kk).length ≤ 65536 := by rw [List.length_take]; omega
      have hpn := Aside0.mk (show pieces (m.take (kk + 1)) 0 f t = pieces (m.take kk) 0 f t ++ (if max f (tot13 (m.take kk)) < min t (tot13 (m.take kk) + (rd_T56 m kk).f1) then [partR (rd_T56 m kk) (max f (tot13 (m.take kk)) - tot13 (m.take kk)) (min t (tot13 (m.take kk) + (rd_T56 m kk).f1) - max f (tot13 (m.take kk)))] else []) by rw [hsn.out, pieces_append]; simp [pieces])
      have htn := Aside0.mk (show tot13 (m.take (kk + 1)) = tot13 (m.take kk) + (rd_T56 m kk).f1 by rw [hsn.out, tot13_append]; simp [tot13])
      have hokr := Aside0.mk (HOK.out _ hrm.out)
      generalize tot13 (m.take kk) = a at *
      generalize rd_T56 m kk = x at *
      have hw1 : wrap64 (a + x.f1) = a + x.f1 := by unfold wrap64; omega
      go_wp2
      go_quiet (fail)
      rename_i nq
      have e1 : (if f < a then a else f) = max f a := by split <;> omega
      have e2 : (if a + x.f1 < t then a + x.f1 else t) = min t (a + x.f1) := by split <;> omega
      rw [e1, e2]
      clear e1 e2
      have hp : 0 ≤ max f a ∧ max f a ≤ 1125904201809920 := by have := HF.out; omega
      have hq : min t (a + x.f1) ≤ 1099511627776 := by have := HT.out; omega
      have hp2 : a ≤ max f a := by omega
      have hq2 : min t (a + x.f1) ≤ a + x.f1 := by omega
      have HB1 := Aside0.mk (pw_below_drewN (HB.out.alloc HB.out.size (.cells #[.int .i64 x.f0, .int .i64 x.f1, .bool x.f2] 56)) nq)
      have HBw := Aside0.mk (pw_below_drewN ((Below.refl wr.heap.size wr).alloc (Nat.le_refl _) (.cells #[.int .i64 x.f0, .int .i64 x.f1, .bool x.f2] 56)) nq)
      have HX := Aside0.mk (blk_drewN (World.alloc_heap_new wr (.cells #[.int .i64 x.f0, .int .i64 x.f1, .bool x.f2] 56)) nq)
      have HI2 := Aside0.mk (HMo.out _ _ _ HI1.out HBw.out).1
      have HN := Aside0.mk (show ¬ Dirty ((wr.alloc (.cells #[.int .i64 x.f0, .int .i64 x.f1, .bool x.f2] 56)).drewN nq) wr.heap.size from fun h => Nat.lt_irrefl _ (HD.out _ _ _ HI1.out ((HMo.out _ _ _ HI1.out HBw.out).2 _ h)))
      generalize max f a = p at *
      generalize min t (a + x.f1) = q at *
      generalize (wr.alloc (.cells #[.int .i64 x.f0, .int .i64 x.f1, .bool x.f2] 56)).drewN nq = w1 at *
      have hz0' := blk_cell HX.out 0
      have hz1' := blk_cell HX.out 1
      have hz2' := blk_cell HX.out 2
      by_cases hpq : p < q
      · have hpqb : decide (p < q) = true := by simpa using hpq
        have e3 : wrap64 (p - a) = p - a := by unfold wrap64; omega
        have e4 : wrap64 (q - p) = q - p := by unfold wrap64; omega
        have hnx : nearR x := ⟨by omega, by omega, by omega⟩
        go_wp2_with (first | (go_at_call 65; (with_reducible refine (part_calls x (p - a) (q - p) _ hnx (by omega) (by omega)).mono ?_); rintro e w2 ⟨rfl, hb2⟩; have HB2 := Aside0.mk (below_then HB1.out HB1.out.size hb2); have HI3 := Aside0.mk (HMo.out _ _ _ HI2.out hb2).1; have HN3 := Aside0.mk (show ¬ Dirty w2 wr.heap.size from fun h => HN.out ((HMo.out _ _ _ HI2.out hb2).2 _ h)); have HX2 := Aside0.mk (blk_below HX.out hb2); clear hb2) | (go_at_call 51; (with_reducible refine (HS.out _ (partR x (p - a) (q - p)) _ hpl.out HI3.out (hokr.out _ _ (by omega) (by omega) (by omega))).mono ?_); rintro e w3 ⟨rfl, hi4, hb3, hfr⟩; have HI4 := Aside0.mk hi4; have HX3 := Aside0.mk (hfr _ _ HX2.out HN3.out); have HB3 := Aside0.mk (HB2.out.trans (hb3.mono HG.out)); clear hi4 hb3 hfr; have hy1 := blk_cell HX3.out 1))
        go_roundw
        case rel => exact ⟨kk + 1, by go_num, by rw [htn.out], ⟨by omega⟩, ⟨by rw [hpn.out, if_pos hpq, ← List.append_assoc]; exact HI4.out⟩, HB3⟩
        case measure => simp [intOf]; omega
      · have hpqb : decide (p < q) = false := by simpa using hpq
        go_wp2
        go_roundw
        case rel => exact ⟨kk + 1, by go_num, by rw [htn.out], ⟨by omega⟩, ⟨by rw [hpn.out, if_neg hpq, List.append_nil]; exact HI2.out⟩, HB1⟩
        case measure => simp [intOf]; omega
    · have hd0 : decide (kk < m.length) = false := by simpa using hk
      have hfin := Aside0.mk (show m.take kk = m from List.take_of_length_le (by omega))
      go_wp2
      (try simp only [Exit.inBlock, Exit.then]); refine bodyPost_end (results_none rfl _ _ _) rfl ?_
      exact ⟨rfl, by have := HI1.out; rwa [hfin.out] at this, HB.out⟩
end Go.Proofs.Ytjkakgkiikjdmaa.G

namespace Go.Proofs.Ytjkakgkiikjdmaa.G
open Go.RowKit Go.Proofs.YtjkakgkiikjdmaaW.PrintWords Go.Proofs.YtjkakgkiikjdmaaW.PrintLast Go.Proofs.YtjkakgkiikjdmaaW.PrintMore
attribute [local go_sem] max2_int min2_int max_two min_two max_three min_three max_four min_four   -- for this text's walks alone
set_option linter.unusedVariables false
set_option linter.unusedSimpArgs false
structure Bld (g : Nat) (v : Value) (l : List S56) (W : World) : Prop where
  c : W.heap[g]? = some (.cells #[v] 66 (0, 0))
  o : Kd.R k56 56 W g (fun k => k ≠ g) v l
def KeptB (g : Nat) (v : Value) (w w' : World) : Prop := ∀ X o, w.heap[X]? = some o → X ≠ g → v.ownBlock ≠ some X → w'.heap[X]? = some o
theorem KeptB.below {g : Nat} {v : Value} {w w' : World} (h : Below w.heap.size w w') : KeptB g v w w' := fun X o hx _ _ => blk_below hx h
theorem KeptB.trans {g : Nat} {v v' : Value} {w w1 w2 : World} (h : KeptB g v w w1) (k : KeptB g v' w1 w2) (hv : ∀ X, v'.ownBlock = some X → v.ownBlock = some X ∨ w.heap.size ≤ X) : KeptB g v w w2 :=
  fun X o hx hg hn => k X o (h X o hx hg hn) hg (fun e => by rcases hv X e with e1 | e1; exact hn e1; have := blk_lt hx; omega)
theorem KeptB.grown {g : Nat} {v : Value} {w W W' : World} (h : KeptB g v w W) (hg : W.grownBy W' v.ownBlock) : KeptB g v w W' :=
  fun X o hx h1 h2 => blk_grown (h X o hx h1 h2) hg (fun e => h2 e.symm)
theorem KeptB.put {g : Nat} {v : Value} {w W : World} (h : KeptB g v w W) (u : Value) : KeptB g v w (W.setCell ⟨g, 0, none⟩ u) :=
  fun X o hx h1 h2 => (Below.heap_setCell W ⟨g, 0, none⟩ u X h1).trans (h X o hx h1 h2)
def Own (v v' : Value) (w : World) : Prop := ∀ k, v'.ownBlock = some k → v.ownBlock = some k ∨ w.heap.size ≤ k
theorem Own.of {v v1 : Value} {w W : World} (h : v1.ownBlock = v.ownBlock ∨ ∃ b, v1.ownBlock = some b ∧ W.heap.size ≤ b) (hw : w.heap.size ≤ W.heap.size) : Own v v1 w := by
  intro k hk
  rcases h with h | ⟨b, h, hb⟩
  · exact .inl (h ▸ hk)
  · rw [hk] at h; injection h with h; exact .inr (by omega)
theorem Bld.below {g : Nat} {v : Value} {l : List S56} {W W' : World} (h : Bld g v l W) (hb : Below W.heap.size W W') : Bld g v l W' := ⟨blk_below h.c hb, Kd.R_below h.o hb⟩
theorem Bld.lt {g : Nat} {v : Value} {l : List S56} {W : World} (h : Bld g v l W) : g < W.heap.size := blk_lt h.c
theorem Bld.base {g : Nat} {v : Value} {l : List S56} {W : World} (h : Bld g v l W) {k : Nat} (hk : v.ownBlock = some k) : k ≠ g ∧ k < W.heap.size := ⟨h.o.1 k hk, Kd.R_lt h.o k hk⟩
set_option maxRecDepth 100000 in
set_option maxHeartbeats 4000000 in
theorem add_none (g : Nat) (v : Value) (l : List S56) (r : S56) (w : World) (hB : Bld g v l w) (h : r.f1 < 1) :
    Calls Try.prog 51 #[.pointer (some ⟨g, 0, none⟩), .agg #[.int .i64 r.f0, .int .i64 r.f1, .bool r.f2]] w fun e w' => e = .returned (.tuple #[]) ∧ Bld g v l w' ∧ Below w.heap.size w w' := by
  have h1 : decide (r.f1 < 1) = true := by simpa using h
  have HB := Aside0.mk (hB.below ((Below.refl _ _).alloc (Nat.le_refl _) (.cells #[.int .i64 r.f0, .int .i64 r.f1, .bool r.f2] 56)))
  clear hB h
  go_enter Try.func51, Try.ntmps51
  go_wp2
  refine bodyPost_ret (results_none rfl _ _ _) rfl ?_
  exact ⟨rfl, HB.out, (Below.refl _ _).alloc (Nat.le_refl _) _⟩
set_option maxRecDepth 100000 in
set_option maxHeartbeats 8000000 in
theorem add_first (g : Nat) (v : Value) (r : S56) (w : World) (hB : Bld g v [] w) (h : 1 ≤ r.f1) (hn : nearR r) :
    Calls Try.prog 51 #[.pointer (some ⟨g, 0, none⟩), .agg #[.int .i64 r.f0, .int .i64 r.f1, .bool r.f2]] w fun e w' => e = .returned (.tuple #[]) ∧ (∃ v', Bld g v' [partR r 0 r.f1] w' ∧ Own v v' w) ∧ Below g w w' ∧ KeptB g v w w' := by
  have h1 : decide (r.f1 < 1) = false := by simp; omega
  have hnx := Aside0.mk hn
  have HBW := Aside0.mk ((Below.refl w.heap.size w).alloc (Nat.le_refl _) (.cells #[.int .i64 r.f0, .int .i64 r.f1, .bool r.f2] 56))
  have HB1 := Aside0.mk (hB.below HBW.out)
  have HK := Aside0.mk (KeptB.below (g := g) (v := v) HBW.out)
  have HB := Aside0.mk (HBW.out.mono (Nat.le_of_lt hB.lt))
  have HX := Aside0.mk (World.alloc_heap_new w (.cells #[.int .i64 r.f0, .int .i64 r.f1, .bool r.f2] 56))
  have HNX := Aside0.mk (show v.ownBlock ≠ some w.heap.size from fun e => Nat.lt_irrefl _ (hB.base e).2)
  have HL := Aside0.mk (show ([] : List S56).length + 1 ≤ 1000000 by simp)
  have HZ := Aside0.mk (show g ≤ (w.alloc (.cells #[.int .i64 r.f0, .int .i64 r.f1, .bool r.f2] 56)).heap.size by have := hB.lt; simp; omega)
  have HWS := Aside0.mk (show w.heap.size ≤ (w.alloc (.cells #[.int .i64 r.f0, .int .i64 r.f1, .bool r.f2] 56)).heap.size by simp)
  obtain ⟨A, c, e, _, _⟩ := Kd.R_reads hB.o
  subst e
  have hq : (w.alloc (.cells #[.int .i64 r.f0, .int .i64 r.f1, .bool r.f2] 56)).cell? ⟨g, 0, none⟩ = some (.slice A ([] : List S56).length c) := blk_cell HB1.out.c 0
  have hx1 : (w.alloc (.cells #[.int .i64 r.f0, .int .i64 r.f1, .bool r.f2] 56)).cell? ⟨w.heap.size, 1, none⟩ = some (.int .i64 r.f1) := blk_cell HX.out 1
  clear hB h hn
  go_enter Try.func51, Try.ntmps51
  go_wp2
  have HC := Aside0.mk HB1.out.c
  have HO := Aside0.mk HB1.out.o
  clear HB1 hq hx1 HBW
  generalize hv_ : (Value.slice A ([] : List S56).length c) = v at *
  generalize w.alloc _ = w1 at *
  generalize hgX_ : w.heap.size = gX at HX HNX ⊢
  generalize hl_ : ([] : List S56) = l at *
  refine start_ (n := 14) (S := fun w' => w'.cell? ⟨g, 0, none⟩ = some v ∧ w'.cell? ⟨gX, 0, none⟩ = some (.int .i64 r.f0) ∧ w'.cell? ⟨gX, 1, none⟩ = some (.int .i64 r.f1) ∧ w'.cell? ⟨gX, 2, none⟩ = some (.bool r.f2)) (ds := [13]) #[false, false, false, false, false, false, false, false, false, false, false, false, false, false] (by kernel_rfl) rfl rfl ⟨(blk_cell HC.out 0).trans rfl, (blk_cell HX.out 0).trans rfl, (blk_cell HX.out 1).trans rfl, (blk_cell HX.out 2).trans rfl⟩ (fun hHeld => ?_)
  generalize hwy_ : w1.drew = wy at hHeld ⊢
  replace HC := Aside0.mk (hwy_ ▸ blk_drew HC.out)
  replace HX := Aside0.mk (hwy_ ▸ blk_drew HX.out)
  replace HO := Aside0.mk (hwy_ ▸ Kd.R_drew HO.out)
  replace HB := Aside0.mk (hwy_ ▸ HB.out.drew)
  replace HZ := Aside0.mk (show g ≤ wy.heap.size from hwy_ ▸ HZ.out)
  replace HWS := Aside0.mk (show w.heap.size ≤ wy.heap.size from hwy_ ▸ HWS.out)
  replace HK := Aside0.mk (show KeptB g v w wy from hwy_ ▸ HK.out)
  clear hwy_
  refine pure_ (i := 0) (N := some 18) (v := ?_) (a' := ?_) #[true, false, false, false, false, false, false, false, false, false, false, false, false, false] rfl rfl (by kernel_rfl) (fun _ _ _ h => h) (Or.inl ⟨by rfl, ?_⟩) ?_ ?_
  rotate_left
  · intro w'
    go_simp
    with_reducible rfl
  rotate_left
  · simp only [Act.put, List.setIfInBounds_toArray, List.set_cons_zero, List.set_cons_succ, i64_w, i32_w]
    rfl
  refine pure_ (i := 1) (N := some 19) (v := ?_) (a' := ?_) #[true, true, false, false, false, false, false, false, false, false, false, false, false, false] rfl rfl (by kernel_rfl) (fun _ _ _ h => h) (Or.inl ⟨by rfl, ?_⟩) ?_ ?_
  rotate_left
  · intro w'
    go_simp
    with_reducible rfl
  rotate_left
  · simp only [Act.put, List.setIfInBounds_toArray, List.set_cons_zero, List.set_cons_succ, i64_w, i32_w]
    rfl
  refine pure_ (i := 2) (N := some 20) (v := ?_) (a' := ?_) #[true, true, true, false, false, false, false, false, false, false, false, false, false, false] rfl rfl (by kernel_rfl) (fun _ _ _ h => h) (Or.inl ⟨by rfl, ?_⟩) ?_ ?_
  rotate_left
  · intro w'
    go_simp
    with_reducible rfl
  rotate_left
  · simp only [Act.put, List.setIfInBounds_toArray, List.set_cons_zero, List.set_cons_succ, i64_w, i32_w]
    rfl
  refine pure_ (i := 3) (N := some 21) (v := ?_) (a' := ?_) #[true, true, true, true, false, false, false, false, false, false, false, false, false, false] rfl rfl (by kernel_rfl) (fun _ _ _ h => h) (Or.inl ⟨by rfl, ?_⟩) ?_ ?_
  rotate_left
  · intro w'
    go_simp
    with_reducible rfl
  rotate_left
  · simp only [Act.put, List.setIfInBounds_toArray, List.set_cons_zero, List.set_cons_succ, i64_w, i32_w]
    rfl
  refine pure_ (i := 6) (N := some 24) (v := ?_) (a' := ?_) #[true, true, true, true, false, false, true, false, false, false, false, false, false, false] rfl rfl (by kernel_rfl) (fun _ _ _ h => h) (Or.inl ⟨by rfl, ?_⟩) ?_ ?_
  rotate_left
  · intro w'
    go_simp
    with_reducible rfl
  rotate_left
  · simp only [Act.put, List.setIfInBounds_toArray, List.set_cons_zero, List.set_cons_succ, i64_w, i32_w]
    rfl
  refine take_ (i := 4) (N := some 22) (v := ?_) (a' := ?_) #[true, true, true, true, true, false, true, false, false, false, false, false, false, false] rfl rfl (by kernel_rfl) (fun _ _ _ h => h) (Or.inl ⟨by rfl, ?_⟩) hHeld ?_ ?_
  rotate_left
  · rintro w' ⟨s0, s1, s2, s3⟩
    go_simp
    with_reducible rfl
  rotate_left
  · simp only [Act.put, List.setIfInBounds_toArray, List.set_cons_zero, List.set_cons_succ, i64_w, i32_w]
    rfl
  refine take_ (i := 5) (N := some 23) (v := ?_) (a' := ?_) #[true, true, true, true, true, true, true, false, false, false, false, false, false, false] rfl rfl (by kernel_rfl) (fun _ _ _ h => h) (Or.inl ⟨by rfl, ?_⟩) hHeld ?_ ?_
  rotate_left
  · rintro w' ⟨s0, s1, s2, s3⟩
    go_simp
    with_reducible rfl
  rotate_left
  · simp only [Act.put, List.setIfInBounds_toArray, List.set_cons_zero, List.set_cons_succ, i64_w, i32_w]
    rfl
  refine take_ (i := 7) (N := some 25) (v := ?_) (a' := ?_) #[true, true, true, true, true, true, true, true, false, false, false, false, false, false] rfl rfl (by kernel_rfl) (fun _ _ _ h => h) (Or.inl ⟨by rfl, ?_⟩) hHeld ?_ ?_
  rotate_left
  · rintro w' ⟨s0, s1, s2, s3⟩
    go_simp
    with_reducible rfl
  rotate_left
  · simp only [Act.put, List.setIfInBounds_toArray, List.set_cons_zero, List.set_cons_succ, i64_w, i32_w]
    rfl
  refine one_ (i := 8) (N := some 26) #[true, true, true, true, true, true, true, true, true, false, false, false, false, false] rfl rfl (by kernel_rfl) (by decide) (fun K hK => ?_)
  refine goes_ Try.func65 (by kernel_rfl) rfl #[.agg #[.int .i64 r.f0, .int .i64 r.f1, .bool r.f2], .int .i64 0, .int .i64 r.f1] (by rfl) rfl rfl (by simp only [List.map_toArray, List.map_cons, List.map_nil]; rfl) ?_
  with_reducible refine (part_calls r 0 r.f1 _ hnx.out (by omega) (by omega)).mono ?_
  rintro e w3 ⟨rfl, hb3⟩
  refine ⟨_, rfl, ?_⟩
  replace HC := Aside0.mk (blk_below HC.out hb3)
  replace HX := Aside0.mk (blk_below HX.out hb3)
  replace HO := Aside0.mk (Kd.R_below HO.out hb3)
  replace HB := Aside0.mk (HB.out.trans (hb3.mono HZ.out))
  replace HZ := Aside0.mk (Nat.le_trans HZ.out hb3.size)
  replace HWS := Aside0.mk (Nat.le_trans HWS.out hb3.size)
  replace HK := Aside0.mk (HK.out.trans (KeptB.below hb3) (fun X e => Or.inl e))
  clear hb3
  generalize hp_ : partR r 0 r.f1 = p
  refine hK.out _ _ ⟨(blk_cell HC.out 0).trans rfl, (blk_cell HX.out 0).trans rfl, (blk_cell HX.out 1).trans rfl, (blk_cell HX.out 2).trans rfl⟩ (fun hHeld => ?_)
  clear hK K
  refine norm_ (a' := ?_) ?_ ?_
  rotate_left
  · show Act.put _ (some 26) _ = _
    simp only [Act.put, List.setIfInBounds_toArray, List.set_cons_zero, List.set_cons_succ, i64_w, i32_w]
    rfl
  refine one_ (i := 9) (N := some 27) #[true, true, true, true, true, true, true, true, true, true, false, false, false, false] rfl rfl (by kernel_rfl) (by decide) (fun K hK => ?_)
  refine value_ (w1 := ?_) (v := ?_) (by rfl) rfl ?_ ?_
  rotate_left 2
  · go_simp
    constructor
    · rfl
    · rfl
  refine hK.out _ _ ⟨(blk_cell (blk_alloc HC.out _) 0).trans rfl, (blk_cell (blk_alloc HX.out _) 0).trans rfl, (blk_cell (blk_alloc HX.out _) 1).trans rfl, (blk_cell (blk_alloc HX.out _) 2).trans rfl⟩ (fun hHeld => ?_)
  clear hK K
  refine norm_ (a' := ?_) ?_ ?_
  rotate_left
  · show Act.put _ (some 27) _ = _
    simp only [Act.put, List.setIfInBounds_toArray, List.set_cons_zero, List.set_cons_succ, i64_w, i32_w]
    rfl
  refine one_ (i := 10) (N := some 28) #[true, true, true, true, true, true, true, true, true, true, true, false, false, false] rfl rfl (by kernel_rfl) (by decide) (fun K hK => ?_)
  refine Kd.R_append_step k56 (w0 := w) g (by rfl) (.tmp 22) (.tmp 27) 32 56 (.agg #[(.int .i64 0), (.int .i64 0), (.bool false)]) 24 rfl Try.underlying32 info56 rfl (by decide) (by omega) v l p [.int .i64 p.f0, .int .i64 p.f1, .bool p.f2] (fun k => k ≠ g) (fun _ => False) rfl rfl ?aP (fun _ hk => hk.elim) ?aF ?aO ?aB ?aS ?aL ?_
  (case aP => exact k56_mkM _ _ _ p)
  (case aB => exact HB.out)
  (case aF => exact fun k hk => by have := blk_lt HC.out; omega)
  (case aO => exact HO.out)
  (case aS => exact HZ.out)
  (case aL => have := HL.out; omega)
  intro v' w5 ho hb5 hg5 hat5
  replace HC := Aside0.mk (blk_grown HC.out hg5 (fun e => HO.out.1 g e.symm rfl))
  replace HX := Aside0.mk (blk_grown HX.out hg5 (fun e => HNX.out e.symm))
  replace HO := Aside0.mk ho
  replace HB := Aside0.mk hb5
  replace HK := Aside0.mk (HK.out.grown hg5)
  have HAT := Aside0.mk (Own.of hat5 HWS.out)
  clear ho hb5 hg5 hat5
  obtain ⟨A5, c5, e5, _, _⟩ := Kd.R_reads HO.out
  subst e5
  have hgc := blk_cell HC.out 0
  have hgf : w5.frozen? ⟨g, 0, none⟩ = false := by simp [World.frozen?, HC.out]
  refine hK.out _ _ ⟨(blk_cell HC.out 0).trans rfl, (blk_cell HX.out 0).trans rfl, (blk_cell HX.out 1).trans rfl, (blk_cell HX.out 2).trans rfl⟩ (fun hHeld => ?_)
  clear hK K
  refine norm_ (a' := ?_) ?_ ?_
  rotate_left
  · show Act.put _ (some 28) _ = _
    simp only [Act.put, List.setIfInBounds_toArray, List.set_cons_zero, List.set_cons_succ, i64_w, i32_w]
    rfl
  refine pure_ (i := 11) (N := some 29) (v := ?_) (a' := ?_) #[true, true, true, true, true, true, true, true, true, true, true, true, false, false] rfl rfl (by kernel_rfl) (fun _ _ _ h => h) (Or.inl ⟨by rfl, ?_⟩) ?_ ?_
  rotate_left
  · intro w'
    go_simp
    with_reducible rfl
  rotate_left
  · simp only [Act.put, List.setIfInBounds_toArray, List.set_cons_zero, List.set_cons_succ, i64_w, i32_w]
    rfl
  refine pure_ (i := 12) (N := some 30) (v := ?_) (a' := ?_) #[true, true, true, true, true, true, true, true, true, true, true, true, true, false] rfl rfl (by kernel_rfl) (fun _ _ _ h => h) (Or.inl ⟨by rfl, ?_⟩) ?_ ?_
  rotate_left
  · intro w'
    go_simp
    with_reducible rfl
  rotate_left
  · simp only [Act.put, List.setIfInBounds_toArray, List.set_cons_zero, List.set_cons_succ, i64_w, i32_w]
    rfl
  refine last_ (i := 13) (N := none) #[true, true, true, true, true, true, true, true, true, true, true, true, true, true] rfl rfl (by kernel_rfl) (by decide) (fun K hK => ?_)
  refine skip_ (w1 := ?_) (by rfl) rfl ?_ ?_
  rotate_left
  · go_simp
    rfl
  refine hK.out _ _ ?_
  clear hK K
  refine done_ (by kernel_rfl) ?_
  try go_wp2
  subst hv_
  subst hp_
  subst hl_
  refine bodyPost_ret (results_none rfl _ _ _) rfl ?_
  refine ⟨rfl, ⟨_, ⟨blk_set HC.out 0 _, Kd.R_far HO.out (fun k hk => hk) _⟩, HAT.out⟩, HB.out.setCell (p := ⟨g, 0, none⟩) (Nat.le_refl _) _, HK.out.put _⟩
theorem image_far (r : S56) (x : Int) (h : (-1099511627776 ≤ r.f0 ∧ r.f0 ≤ 1099511627776) ∧ 1 ≤ r.f1 ∧ r.f1 ≤ 1125899906842624) (h0 : -1125899906842624 ≤ x) (h1 : x ≤ 1125899906842624) : iso_image.f r.f0 r.f1 r.f2 x = some (img r x) := by
  have := h.1
  have e1 : wrap64 (r.f0 - x) = r.f0 - x := by unfold wrap64; omega
  have e2 : wrap64 (r.f0 + x) = r.f0 + x := by unfold wrap64; omega
  unfold iso_image.f img
  rw [e1, e2]
  split <;> rfl
set_option maxRecDepth 100000 in
set_option maxHeartbeats 16000000 in
theorem add_new (g m : Nat) (v : Value) (l : List S56) (r : S56) (w : World) (hB : Bld g v l w) (hm : l.length = m + 1) (hl : l.length + 1 ≤ 1000000) (hbt : (-1099511627776 ≤ (rd_T56 l (m : Int)).f0 ∧ (rd_T56 l (m : Int)).f0 ≤ 1099511627776) ∧ 1 ≤ (rd_T56 l (m : Int)).f1 ∧ (rd_T56 l (m : Int)).f1 ≤ 1125899906842624)
    (h : 1 ≤ r.f1) (hn : nearR r) (hj : ¬ joins r (rd_T56 l (m : Int))) :
    Calls Try.prog 51 #[.pointer (some ⟨g, 0, none⟩), .agg #[.int .i64 r.f0, .int .i64 r.f1, .bool r.f2]] w fun e w' => e = .returned (.tuple #[]) ∧ (∃ v', Bld g v' (l ++ [partR r 0 r.f1]) w' ∧ Own v v' w) ∧ Below g w w' ∧ KeptB g v w w' := by
  have h1 : decide (r.f1 < 1) = false := by simp; omega
  have hnx := Aside0.mk hn
  have HBW := Aside0.mk ((Below.refl w.heap.size w).alloc (Nat.le_refl _) (.cells #[.int .i64 r.f0, .int .i64 r.f1, .bool r.f2] 56))
  have HB1 := Aside0.mk (hB.below HBW.out)
  have HX1 := World.alloc_heap_new w (.cells #[.int .i64 r.f0, .int .i64 r.f1, .bool r.f2] 56)
  obtain ⟨gO, cO, e, hgO, hgO2, _⟩ := Kd.R_form hB.o (by omega)
  subst e
  have hbo := hB.base (k := gO) rfl
  obtain ⟨ad, ea, hy0, hy1, hy2⟩ := at_T56 (Kd.R_reads' HB1.out.o).2.2 (m : Int) (by omega) (by omega)
  injection ea with ea
  subst ea
  simp only [add_plain, Int.toNat_natCast] at hy0 hy1 hy2
  have hq : (w.alloc (.cells #[.int .i64 r.f0, .int .i64 r.f1, .bool r.f2] 56)).cell? ⟨g, 0, none⟩ = some (.slice (some ⟨gO, 0, none⟩) (m + 1) cO) := by rw [← hm]; exact blk_cell HB1.out.c 0
  have hx1 : (w.alloc (.cells #[.int .i64 r.f0, .int .i64 r.f1, .bool r.f2] 56)).cell? ⟨w.heap.size, 1, none⟩ = some (.int .i64 r.f1) := blk_cell HX1 1
  generalize ht : rd_T56 l (m : Int) = t at *
  have HBY := Aside0.mk (HBW.out.alloc HBW.out.size (.cells #[.int .i64 t.f0, .int .i64 t.f1, .bool t.f2] 56))
  have HK := Aside0.mk (KeptB.below (g := g) (v := .slice (some ⟨gO, 0, none⟩) (m + 1) cO) HBY.out)
  have HB := Aside0.mk (HBY.out.mono (Nat.le_of_lt hB.lt))
  have HB2 := Aside0.mk (hB.below HBY.out)
  have HX := Aside0.mk (blk_alloc HX1 (.cells #[.int .i64 t.f0, .int .i64 t.f1, .bool t.f2] 56))
  have HY := Aside0.mk (World.alloc_heap_new (w.alloc (.cells #[.int .i64 r.f0, .int .i64 r.f1, .bool r.f2] 56)) (.cells #[.int .i64 t.f0, .int .i64 t.f1, .bool t.f2] 56))
  rw [World.size_alloc] at HY
  have HNX := Aside0.mk (show (Value.slice (some ⟨gO, 0, none⟩) (m + 1) cO).ownBlock ≠ some w.heap.size from fun e => by have e2 := Option.some.inj e; have h2 := hbo.2; simp only at e2; omega)
  have HNY := Aside0.mk (show (Value.slice (some ⟨gO, 0, none⟩) (m + 1) cO).ownBlock ≠ some (w.heap.size + 1) from fun e => by have e2 := Option.some.inj e; have h2 := hbo.2; simp only at e2; omega)
  have HL := Aside0.mk hl
  have HZ := Aside0.mk (show g ≤ ((w.alloc (.cells #[.int .i64 r.f0, .int .i64 r.f1, .bool r.f2] 56)).alloc (.cells #[.int .i64 t.f0, .int .i64 t.f1, .bool t.f2] 56)).heap.size by have := hB.lt; simp; omega)
  have HWS := Aside0.mk (show w.heap.size ≤ ((w.alloc (.cells #[.int .i64 r.f0, .int .i64 r.f1, .bool r.f2] 56)).alloc (.cells #[.int .i64 t.f0, .int .i64 t.f1, .bool t.f2] 56)).heap.size by simp; omega)
  have hw1 : IntKind.i64.wrap (m : Int) = (m : Int) := by rw [i64_w]; unfold wrap64; omega
  have hm0 : 0 ≤ (m : Int) := by omega
  have hmt : ((m : Int)).toNat = m := by omega
  have he0 : ((m : Int) + 1 == 0) = false := by simp; omega
  have HM := Aside0.mk hm
  have hnt := Aside0.mk hbt
  have HIM := Aside0.mk (show ∀ W, Calls Try.prog 66 #[.agg #[.int .i64 t.f0, .int .i64 t.f1, .bool t.f2], .int .i64 (wrap64 (t.f1 - 1))] W fun e w' => e = .returned (.int .i64 (img t (t.f1 - 1))) ∧ Below W.heap.size W w' from fun W => by
    have e : wrap64 (t.f1 - 1) = t.f1 - 1 := by unfold wrap64; have := hbt.1; have := hbt.2; omega
    rw [e]
    exact iso_image.calls _ _ _ _ _ W (image_far t (t.f1 - 1) hbt (by have := hbt.2; omega) (by have := hbt.2; omega)))
  have hgoes : wrap64 (r.f0 - img t (t.f1 - 1)) = goes r t := by
    unfold wrap64 goes img
    have := hbt.1; have := hbt.2; have := hn.1; have := hn.2.1
    split <;> omega
  clear hB h hn hbo hgO hgO2 hl hbt
  go_enter Try.func51, Try.ntmps51
  go_wp2
  have HC := Aside0.mk (show ((w.alloc (.cells #[.int .i64 r.f0, .int .i64 r.f1, .bool r.f2] 56)).alloc (.cells #[.int .i64 t.f0, .int .i64 t.f1, .bool t.f2] 56)).heap[g]? = some (.cells #[.slice (some ⟨gO, 0, none⟩) (m + 1) cO] 66 (0, 0)) by have := HB2.out.c; rw [hm] at this; exact this)
  have HO := Aside0.mk (show Kd.R k56 56 ((w.alloc (.cells #[.int .i64 r.f0, .int .i64 r.f1, .bool r.f2] 56)).alloc (.cells #[.int .i64 t.f0, .int .i64 t.f1, .bool t.f2] 56)) g (fun k => k ≠ g) (.slice (some ⟨gO, 0, none⟩) (m + 1) cO) l by have := HB2.out.o; rw [hm] at this; exact this)
  clear HB1 HB2 HX1 hq hx1 HBW HBY hy0 hy1 hy2 hw1 hm0 he0
  generalize hv_ : (Value.slice (some ⟨gO, 0, none⟩) (m + 1) cO) = v at *
  generalize (w.alloc (.cells #[.int .i64 r.f0, .int .i64 r.f1, .bool r.f2] 56)).alloc _ = w1 at *
  generalize hgY_ : w.heap.size + 1 = gY at HY HNY ⊢
  generalize hgX_ : w.heap.size = gX at HX HNX ⊢
  refine start_ (n := 9) (S := fun w' => w'.cell? ⟨gX, 0, none⟩ = some (.int .i64 r.f0) ∧ w'.cell? ⟨gY, 0, none⟩ = some (.int .i64 t.f0) ∧ w'.cell? ⟨gY, 1, none⟩ = some (.int .i64 t.f1) ∧ w'.cell? ⟨gY, 2, none⟩ = some (.bool t.f2)) (ds := []) #[false, false, false, false, false, false, false, false, false] (by kernel_rfl) rfl rfl ⟨(blk_cell HX.out 0).trans rfl, (blk_cell HY.out 0).trans rfl, (blk_cell HY.out 1).trans rfl, (blk_cell HY.out 2).trans rfl⟩ (fun hHeld => ?_)
  generalize hwy_ : w1.drew = wy at hHeld ⊢
  replace HC := Aside0.mk (hwy_ ▸ blk_drew HC.out)
  replace HX := Aside0.mk (hwy_ ▸ blk_drew HX.out)
  replace HY := Aside0.mk (hwy_ ▸ blk_drew HY.out)
  replace HO := Aside0.mk (hwy_ ▸ Kd.R_drew HO.out)
  replace HB := Aside0.mk (hwy_ ▸ HB.out.drew)
  replace HZ := Aside0.mk (show g ≤ wy.heap.size from hwy_ ▸ HZ.out)
  replace HWS := Aside0.mk (show w.heap.size ≤ wy.heap.size from hwy_ ▸ HWS.out)
  replace HK := Aside0.mk (show KeptB g v w wy from hwy_ ▸ HK.out)
  clear hwy_
  refine pure_ (i := 0) (N := some 39) (v := ?_) (a' := ?_) #[true, false, false, false, false, false, false, false, false] rfl rfl (by kernel_rfl) (fun _ _ _ h => h) (Or.inl ⟨by rfl, ?_⟩) ?_ ?_
  rotate_left
  · intro w'
    go_simp
    with_reducible rfl
  rotate_left
  · simp only [Act.put, List.setIfInBounds_toArray, List.set_cons_zero, List.set_cons_succ, i64_w, i32_w]
    rfl
  refine pure_ (i := 3) (N := some 42) (v := ?_) (a' := ?_) #[true, false, false, true, false, false, false, false, false] rfl rfl (by kernel_rfl) (fun _ _ _ h => h) (Or.inl ⟨by rfl, ?_⟩) ?_ ?_
  rotate_left
  · intro w'
    go_simp
    with_reducible rfl
  rotate_left
  · simp only [Act.put, List.setIfInBounds_toArray, List.set_cons_zero, List.set_cons_succ, i64_w, i32_w]
    rfl
  refine take_ (i := 1) (N := some 40) (v := ?_) (a' := ?_) #[true, true, false, true, false, false, false, false, false] rfl rfl (by kernel_rfl) (fun _ _ _ h => h) (Or.inl ⟨by rfl, ?_⟩) hHeld ?_ ?_
  rotate_left
  · rintro w' ⟨s0, s1, s2, s3⟩
    go_simp
    with_reducible rfl
  rotate_left
  · simp only [Act.put, List.setIfInBounds_toArray, List.set_cons_zero, List.set_cons_succ, i64_w, i32_w]
    rfl
  refine take_ (i := 2) (N := some 41) (v := ?_) (a' := ?_) #[true, true, true, true, false, false, false, false, false] rfl rfl (by kernel_rfl) (fun _ _ _ h => h) (Or.inl ⟨by rfl, ?_⟩) hHeld ?_ ?_
  rotate_left
  · rintro w' ⟨s0, s1, s2, s3⟩
    go_simp
    with_reducible rfl
  rotate_left
  · simp only [Act.put, List.setIfInBounds_toArray, List.set_cons_zero, List.set_cons_succ, i64_w, i32_w]
    rfl
  refine take_ (i := 4) (N := some 43) (v := ?_) (a' := ?_) #[true, true, true, true, true, false, false, false, false] rfl rfl (by kernel_rfl) (fun _ _ _ h => h) (Or.inl ⟨by rfl, ?_⟩) hHeld ?_ ?_
  rotate_left
  · rintro w' ⟨s0, s1, s2, s3⟩
    go_simp
    with_reducible rfl
  rotate_left
  · simp only [Act.put, List.setIfInBounds_toArray, List.set_cons_zero, List.set_cons_succ, i64_w, i32_w]
    rfl
  refine pure_ (i := 5) (N := some 44) (v := ?_) (a' := ?_) #[true, true, true, true, true, true, false, false, false] rfl rfl (by kernel_rfl) (fun _ _ _ h => h) (Or.inl ⟨by rfl, ?_⟩) ?_ ?_
  rotate_left
  · intro w'
    go_simp
    with_reducible rfl
  rotate_left
  · simp only [Act.put, List.setIfInBounds_toArray, List.set_cons_zero, List.set_cons_succ, i64_w, i32_w]
    rfl
  refine one_ (i := 6) (N := some 45) #[true, true, true, true, true, true, true, false, false] rfl rfl (by kernel_rfl) (by decide) (fun K hK => ?_)
  refine goes_ Try.func66 (by kernel_rfl) rfl #[.agg #[.int .i64 t.f0, .int .i64 t.f1, .bool t.f2], .int .i64 (wrap64 (t.f1 - 1))] (by rfl) rfl rfl (by simp only [List.map_toArray, List.map_cons, List.map_nil]; rfl) ?_
  with_reducible refine (HIM.out _).mono ?_
  rintro e w3 ⟨rfl, hb3⟩
  refine ⟨_, rfl, ?_⟩
  replace HC := Aside0.mk (blk_below HC.out hb3)
  replace HX := Aside0.mk (blk_below HX.out hb3)
  replace HY := Aside0.mk (blk_below HY.out hb3)
  replace HO := Aside0.mk (Kd.R_below HO.out hb3)
  replace HB := Aside0.mk (HB.out.trans (hb3.mono HZ.out))
  replace HK := Aside0.mk (HK.out.trans (KeptB.below hb3) (fun X e => Or.inl e))
  replace HZ := Aside0.mk (Nat.le_trans HZ.out hb3.size)
  replace HWS := Aside0.mk (Nat.le_trans HWS.out hb3.size)
  clear hb3
  refine hK.out _ _ ⟨(blk_cell HX.out 0).trans rfl, (blk_cell HY.out 0).trans rfl, (blk_cell HY.out 1).trans rfl, (blk_cell HY.out 2).trans rfl⟩ (fun hHeld => ?_)
  clear hK K
  refine norm_ (a' := ?_) ?_ ?_
  rotate_left
  · show Act.put _ (some 45) _ = _
    simp only [Act.put, List.setIfInBounds_toArray, List.set_cons_zero, List.set_cons_succ, i64_w, i32_w]
    rfl
  refine pure_ (i := 7) (N := some 46) (v := ?_) (a' := ?_) #[true, true, true, true, true, true, true, true, false] rfl rfl (by kernel_rfl) (fun _ _ _ h => h) (Or.inl ⟨by rfl, ?_⟩) ?_ ?_
  rotate_left
  · intro w'
    go_simp
    with_reducible rfl
  rotate_left
  · simp only [Act.put, List.setIfInBounds_toArray, List.set_cons_zero, List.set_cons_succ, i64_w, i32_w]
    rfl
  refine pure_ (i := 8) (N := some 6) (v := ?_) (a' := ?_) #[true, true, true, true, true, true, true, true, true] rfl rfl (by kernel_rfl) (fun _ _ _ h => h) (Or.inl ⟨by rfl, ?_⟩) ?_ ?_
  rotate_left
  · intro w'
    go_simp
    with_reducible rfl
  rotate_left
  · simp only [Act.put, List.setIfInBounds_toArray, List.set_cons_zero, List.set_cons_succ, i64_w, i32_w]
    rfl
  refine done_ (by kernel_rfl) ?_
  rw [hgoes]
  clear hgoes HIM
  have hpath : (goes r t ≠ 1 ∧ goes r t ≠ -1) ∨ (goes r t = 1 ∧ 1 < t.f1 ∧ t.f2 = true) ∨ (goes r t = -1 ∧ 1 < t.f1 ∧ t.f2 = false) := by
    have hj' := hj
    unfold joins at hj'
    generalize goes r t = s at hj' ⊢
    by_cases e1 : s = 1
    · subst e1
      refine Or.inr (Or.inl ⟨rfl, ?_⟩)
      cases hb : t.f2 <;> simp [hb] at hj' ⊢ <;> omega
    · by_cases e2 : s = -1
      · subst e2
        refine Or.inr (Or.inr ⟨rfl, ?_⟩)
        cases hb : t.f2 <;> simp [hb] at hj' ⊢ <;> omega
      · exact Or.inl ⟨e1, e2⟩
  generalize goes r t = s at *
  clear ht hj
  obtain ⟨tc, tm, te⟩ := t
  have hyc := blk_cell HY.out 1
  have hyd := blk_cell HY.out 2
  rcases hpath with ⟨e1, e2⟩ | ⟨e1, e2, e3⟩ | ⟨e1, e2, e3⟩
  case' inl =>
    have t1 : (s != 1) = true := by simpa using e1
    have t2 : (s != -1) = true := by simpa using e2
    clear e1 e2
  case' inr.inl =>
    dsimp only at e2 e3
    subst e1
    subst e3
    have t3 : decide (1 < tm) = true := by simpa using e2
    clear e2
  case' inr.inr =>
    dsimp only at e2 e3
    subst e1
    subst e3
    have t3 : decide (1 < tm) = true := by simpa using e2
    clear e2
  all_goals
    go_wp2
    clear hyc hyd
    refine start_ (n := 14) (S := fun w' => w'.cell? ⟨g, 0, none⟩ = some v ∧ w'.cell? ⟨gX, 0, none⟩ = some (.int .i64 r.f0) ∧ w'.cell? ⟨gX, 1, none⟩ = some (.int .i64 r.f1) ∧ w'.cell? ⟨gX, 2, none⟩ = some (.bool r.f2)) (ds := [13]) #[false, false, false, false, false, false, false, false, false, false, false, false, false, false] (by kernel_rfl) rfl rfl ⟨(blk_cell HC.out 0).trans rfl, (blk_cell HX.out 0).trans rfl, (blk_cell HX.out 1).trans rfl, (blk_cell HX.out 2).trans rfl⟩ (fun hHeld => ?_)
    generalize hwy_ : w3.drew = wy at hHeld ⊢
    replace HC := Aside0.mk (hwy_ ▸ blk_drew HC.out)
    replace HX := Aside0.mk (hwy_ ▸ blk_drew HX.out)
    replace HO := Aside0.mk (hwy_ ▸ Kd.R_drew HO.out)
    replace HB := Aside0.mk (hwy_ ▸ HB.out.drew)
    replace HZ := Aside0.mk (show g ≤ wy.heap.size from hwy_ ▸ HZ.out)
    replace HWS := Aside0.mk (show w.heap.size ≤ wy.heap.size from hwy_ ▸ HWS.out)
    replace HK := Aside0.mk (show KeptB g v w wy from hwy_ ▸ HK.out)
    clear hwy_
    refine pure_ (i := 0) (N := some 65) (v := ?_) (a' := ?_) #[true, false, false, false, false, false, false, false, false, false, false, false, false, false] rfl rfl (by kernel_rfl) (fun _ _ _ h => h) (Or.inl ⟨by rfl, ?_⟩) ?_ ?_
    rotate_left
    · intro w'
      go_simp
      with_reducible rfl
    rotate_left
    · simp only [Act.put, List.setIfInBounds_toArray, List.set_cons_zero, List.set_cons_succ, i64_w, i32_w]
      rfl
    refine pure_ (i := 1) (N := some 66) (v := ?_) (a' := ?_) #[true, true, false, false, false, false, false, false, false, false, false, false, false, false] rfl rfl (by kernel_rfl) (fun _ _ _ h => h) (Or.inl ⟨by rfl, ?_⟩) ?_ ?_
    rotate_left
    · intro w'
      go_simp
      with_reducible rfl
    rotate_left
    · simp only [Act.put, List.setIfInBounds_toArray, List.set_cons_zero, List.set_cons_succ, i64_w, i32_w]
      rfl
    refine pure_ (i := 2) (N := some 67) (v := ?_) (a' := ?_) #[true, true, true, false, false, false, false, false, false, false, false, false, false, false] rfl rfl (by kernel_rfl) (fun _ _ _ h => h) (Or.inl ⟨by rfl, ?_⟩) ?_ ?_
    rotate_left
    · intro w'
      go_simp
      with_reducible rfl
    rotate_left
    · simp only [Act.put, List.setIfInBounds_toArray, List.set_cons_zero, List.set_cons_succ, i64_w, i32_w]
      rfl
    refine pure_ (i := 3) (N := some 68) (v := ?_) (a' := ?_) #[true, true, true, true, false, false, false, false, false, false, false, false, false, false] rfl rfl (by kernel_rfl) (fun _ _ _ h => h) (Or.inl ⟨by rfl, ?_⟩) ?_ ?_
    rotate_left
    · intro w'
      go_simp
      with_reducible rfl
    rotate_left
    · simp only [Act.put, List.setIfInBounds_toArray, List.set_cons_zero, List.set_cons_succ, i64_w, i32_w]
      rfl
    refine pure_ (i := 6) (N := some 71) (v := ?_) (a' := ?_) #[true, true, true, true, false, false, true, false, false, false, false, false, false, false] rfl rfl (by kernel_rfl) (fun _ _ _ h => h) (Or.inl ⟨by rfl, ?_⟩) ?_ ?_
    rotate_left
    · intro w'
      go_simp
      with_reducible rfl
    rotate_left
    · simp only [Act.put, List.setIfInBounds_toArray, List.set_cons_zero, List.set_cons_succ, i64_w, i32_w]
      rfl
    refine take_ (i := 4) (N := some 69) (v := ?_) (a' := ?_) #[true, true, true, true, true, false, true, false, false, false, false, false, false, false] rfl rfl (by kernel_rfl) (fun _ _ _ h => h) (Or.inl ⟨by rfl, ?_⟩) hHeld ?_ ?_
    rotate_left
    · rintro w' ⟨s0, s1, s2, s3⟩
      go_simp
      with_reducible rfl
    rotate_left
    · simp only [Act.put, List.setIfInBounds_toArray, List.set_cons_zero, List.set_cons_succ, i64_w, i32_w]
      rfl
    refine take_ (i := 5) (N := some 70) (v := ?_) (a' := ?_) #[true, true, true, true, true, true, true, false, false, false, false, false, false, false] rfl rfl (by kernel_rfl) (fun _ _ _ h => h) (Or.inl ⟨by rfl, ?_⟩) hHeld ?_ ?_
    rotate_left
    · rintro w' ⟨s0, s1, s2, s3⟩
      go_simp
      with_reducible rfl
    rotate_left
    · simp only [Act.put, List.setIfInBounds_toArray, List.set_cons_zero, List.set_cons_succ, i64_w, i32_w]
      rfl
    refine take_ (i := 7) (N := some 72) (v := ?_) (a' := ?_) #[true, true, true, true, true, true, true, true, false, false, false, false, false, false] rfl rfl (by kernel_rfl) (fun _ _ _ h => h) (Or.inl ⟨by rfl, ?_⟩) hHeld ?_ ?_
    rotate_left
    · rintro w' ⟨s0, s1, s2, s3⟩
      go_simp
      with_reducible rfl
    rotate_left
    · simp only [Act.put, List.setIfInBounds_toArray, List.set_cons_zero, List.set_cons_succ, i64_w, i32_w]
      rfl
    refine one_ (i := 8) (N := some 73) #[true, true, true, true, true, true, true, true, true, false, false, false, false, false] rfl rfl (by kernel_rfl) (by decide) (fun K hK => ?_)
    refine goes_ Try.func65 (by kernel_rfl) rfl #[.agg #[.int .i64 r.f0, .int .i64 r.f1, .bool r.f2], .int .i64 0, .int .i64 r.f1] (by rfl) rfl rfl (by simp only [List.map_toArray, List.map_cons, List.map_nil]; rfl) ?_
    with_reducible refine (part_calls r 0 r.f1 _ hnx.out (by omega) (by omega)).mono ?_
    rintro e w3 ⟨rfl, hb3⟩
    refine ⟨_, rfl, ?_⟩
    replace HC := Aside0.mk (blk_below HC.out hb3)
    replace HX := Aside0.mk (blk_below HX.out hb3)
    replace HO := Aside0.mk (Kd.R_below HO.out hb3)
    replace HB := Aside0.mk (HB.out.trans (hb3.mono HZ.out))
    replace HZ := Aside0.mk (Nat.le_trans HZ.out hb3.size)
    replace HWS := Aside0.mk (Nat.le_trans HWS.out hb3.size)
    replace HK := Aside0.mk (HK.out.trans (KeptB.below hb3) (fun X e => Or.inl e))
    clear hb3
    generalize hp_ : partR r 0 r.f1 = p
    refine hK.out _ _ ⟨(blk_cell HC.out 0).trans rfl, (blk_cell HX.out 0).trans rfl, (blk_cell HX.out 1).trans rfl, (blk_cell HX.out 2).trans rfl⟩ (fun hHeld => ?_)
    clear hK K
    refine norm_ (a' := ?_) ?_ ?_
    rotate_left
    · show Act.put _ (some 73) _ = _
      simp only [Act.put, List.setIfInBounds_toArray, List.set_cons_zero, List.set_cons_succ, i64_w, i32_w]
      rfl
    refine one_ (i := 9) (N := some 74) #[true, true, true, true, true, true, true, true, true, true, false, false, false, false] rfl rfl (by kernel_rfl) (by decide) (fun K hK => ?_)
    refine value_ (w1 := ?_) (v := ?_) (by rfl) rfl ?_ ?_
    rotate_left 2
    · go_simp
      constructor
      · rfl
      · rfl
    refine hK.out _ _ ⟨(blk_cell (blk_alloc HC.out _) 0).trans rfl, (blk_cell (blk_alloc HX.out _) 0).trans rfl, (blk_cell (blk_alloc HX.out _) 1).trans rfl, (blk_cell (blk_alloc HX.out _) 2).trans rfl⟩ (fun hHeld => ?_)
    clear hK K
    refine norm_ (a' := ?_) ?_ ?_
    rotate_left
    · show Act.put _ (some 74) _ = _
      simp only [Act.put, List.setIfInBounds_toArray, List.set_cons_zero, List.set_cons_succ, i64_w, i32_w]
      rfl
    refine one_ (i := 10) (N := some 75) #[true, true, true, true, true, true, true, true, true, true, true, false, false, false] rfl rfl (by kernel_rfl) (by decide) (fun K hK => ?_)
    refine Kd.R_append_step k56 (w0 := w) g (by rfl) (.tmp 69) (.tmp 74) 32 56 (.agg #[(.int .i64 0), (.int .i64 0), (.bool false)]) 24 rfl Try.underlying32 info56 rfl (by decide) (by omega) v l p [.int .i64 p.f0, .int .i64 p.f1, .bool p.f2] (fun k => k ≠ g) (fun _ => False) rfl rfl ?aP (fun _ hk => hk.elim) ?aF ?aO ?aB ?aS ?aL ?_
    (case aP => exact k56_mkM _ _ _ p)
    (case aB => exact HB.out)
    (case aF => exact fun k hk => by have := blk_lt HC.out; omega)
    (case aO => exact HO.out)
    (case aS => exact HZ.out)
    (case aL => have := HL.out; omega)
    intro v' w5 ho hb5 hg5 hat5
    replace HC := Aside0.mk (blk_grown HC.out hg5 (fun e => HO.out.1 g e.symm rfl))
    replace HX := Aside0.mk (blk_grown HX.out hg5 (fun e => HNX.out e.symm))
    replace HO := Aside0.mk ho
    replace HB := Aside0.mk hb5
    replace HK := Aside0.mk (HK.out.grown hg5)
    have HAT := Aside0.mk (Own.of hat5 HWS.out)
    clear ho hb5 hg5 hat5
    obtain ⟨A5, c5, e5, _, _⟩ := Kd.R_reads HO.out
    subst e5
    have hgc := blk_cell HC.out 0
    have hgf : w5.frozen? ⟨g, 0, none⟩ = false := by simp [World.frozen?, HC.out]
    refine hK.out _ _ ⟨(blk_cell HC.out 0).trans rfl, (blk_cell HX.out 0).trans rfl, (blk_cell HX.out 1).trans rfl, (blk_cell HX.out 2).trans rfl⟩ (fun hHeld => ?_)
    clear hK K
    refine norm_ (a' := ?_) ?_ ?_
    rotate_left
    · show Act.put _ (some 75) _ = _
      simp only [Act.put, List.setIfInBounds_toArray, List.set_cons_zero, List.set_cons_succ, i64_w, i32_w]
      rfl
    refine pure_ (i := 11) (N := some 76) (v := ?_) (a' := ?_) #[true, true, true, true, true, true, true, true, true, true, true, true, false, false] rfl rfl (by kernel_rfl) (fun _ _ _ h => h) (Or.inl ⟨by rfl, ?_⟩) ?_ ?_
    rotate_left
    · intro w'
      go_simp
      with_reducible rfl
    rotate_left
    · simp only [Act.put, List.setIfInBounds_toArray, List.set_cons_zero, List.set_cons_succ, i64_w, i32_w]
      rfl
    refine pure_ (i := 12) (N := some 77) (v := ?_) (a' := ?_) #[true, true, true, true, true, true, true, true, true, true, true, true, true, false] rfl rfl (by kernel_rfl) (fun _ _ _ h => h) (Or.inl ⟨by rfl, ?_⟩) ?_ ?_
    rotate_left
    · intro w'
      go_simp
      with_reducible rfl
    rotate_left
    · simp only [Act.put, List.setIfInBounds_toArray, List.set_cons_zero, List.set_cons_succ, i64_w, i32_w]
      rfl
    refine last_ (i := 13) (N := none) #[true, true, true, true, true, true, true, true, true, true, true, true, true, true] rfl rfl (by kernel_rfl) (by decide) (fun K hK => ?_)
    refine skip_ (w1 := ?_) (by rfl) rfl ?_ ?_
    rotate_left
    · go_simp
      rfl
    refine hK.out _ _ ?_
    clear hK K
    refine done_ (by kernel_rfl) ?_
    try go_wp2
    subst hv_
    subst hp_
    have e2 : m + 1 + 1 = (l ++ [partR r 0 r.f1]).length := by simp [hm]
    have e3 : m + 1 = l.length := hm.symm
    rw [e2]
    simp only [e3] at HK
    refine bodyPost_ret (results_none rfl _ _ _) rfl ?_
    exact ⟨rfl, ⟨_, ⟨blk_set HC.out 0 _, Kd.R_far HO.out (fun k hk => hk) _⟩, HAT.out⟩, HB.out.setCell (p := ⟨g, 0, none⟩) (Nat.le_refl _) _, HK.out.put _⟩
end Go.Proofs.Ytjkakgkiikjdmaa.G

namespace Go.Proofs.Ytjkakgkiikjdmaa.G
open Go.RowKit Go.Proofs.YtjkakgkiikjdmaaW.PrintWords Go.Proofs.YtjkakgkiikjdmaaW.PrintLast Go.Proofs.YtjkakgkiikjdmaaW.PrintMore
attribute [local go_sem] max2_int min2_int max_two min_two max_three min_three max_four min_four   -- for this text's walks alone
set_option linter.unusedVariables false
set_option linter.unusedSimpArgs false
theorem krun_sz : (k56).sz = 3 := rfl
theorem run_store {ops : Array Oper} {rest : List Oper} {o : Oper} {a : Act} {Q : Exit → Act → World → Prop} {w0 W : World} (base : Nat) (hN : o.dst = none) (hgd : o.guard = none) (p x : Operand) (ho : o.op = .store 56 p x) {g n cap o' : Nat} (i : Int) (xs : List S56) (xa xb : Int) (xc : Bool) (ok : Nat → Prop)
    (haddr : a.eval p = .pointer (some ⟨g, o', none⟩)) (hoff : o' = i.toNat * 3) (hx : a.eval x = .agg #[.int .i64 xa, .int .i64 xb, .bool xc])
    (HO : Kd.R k56 56 W base ok (.slice (some ⟨g, 0, none⟩) n cap) xs) (h0 : 0 ≤ i) (hi : i < n) (HB : Below base w0 W)
    (h : ∀ w1, Kd.R k56 56 w1 base ok (.slice (some ⟨g, 0, none⟩) n cap) (xs.set i.toNat ⟨xa, xb, xc⟩) → Below base w0 w1 → W.grownBy w1 (some g) → wpList Try.prog ops Q rest a w1) : wpList Try.prog ops Q (o :: rest) a W := by
  obtain ⟨ce, hcl, hM, hcc, hfr⟩ := Kd.R_elem HO z56 i h0 hi
  have h3 : ce.length = 3 := hcl
  exact Kd.R_store k56 base hN hgd 56 p x ho 56 i 0 xs ⟨xa, xb, xc⟩ _ [.int .i64 xa, .int .i64 xb, .bool xc] ce ok (fun _ => False) haddr hoff hx rfl (by kernel_rfl) (by simp [Value.oneCell']) HO h0 hi hcl hcc (Nat.le_refl 3) (by
    have e : ce.take 0 ++ [.int .i64 xa, .int .i64 xb, .bool xc] ++ ce.drop (0 + [Value.int .i64 xa, .int .i64 xb, .bool xc].length) = [.int .i64 xa, .int .i64 xb, .bool xc] := by
      rw [List.drop_of_length_le (by simp; omega)]; simp
    rw [e]; exact k56_mkM _ _ _ ⟨xa, xb, xc⟩) (fun _ h => h.elim) HB h
set_option maxRecDepth 100000 in
set_option maxHeartbeats 32000000 in
theorem add_grow (g m : Nat) (v : Value) (l : List S56) (r : S56) (w : World) (k : Int) (Q : Ending → World → Prop) (hB : Bld g v l w) (hm : l.length = m + 1) (hl : l.length + 1 ≤ 1000000) (hbt : (-1099511627776 ≤ (rd_T56 l (m : Int)).f0 ∧ (rd_T56 l (m : Int)).f0 ≤ 1099511627776) ∧ 1 ≤ (rd_T56 l (m : Int)).f1 ∧ (rd_T56 l (m : Int)).f1 ≤ 1125899906842624)
    (h : 1 ≤ r.f1) (hn : nearR r) (hj : joins r (rd_T56 l (m : Int)))
    (hk : k = if r.f1 > 1 ∧ r.f2 = decide (goes r (rd_T56 l (m : Int)) = -1) then r.f1 else 1)
    (hrec : ∀ w' x', x' = (⟨(rd_T56 l (m : Int)).f0, (rd_T56 l (m : Int)).f1 + k, decide (goes r (rd_T56 l (m : Int)) = -1)⟩ : S56) → Bld g v (l.set m x') w' → Below g w w' → KeptB g v w w' → Calls Try.prog 51 #[.pointer (some ⟨g, 0, none⟩), .agg #[.int .i64 (partR r k (r.f1 - k)).f0, .int .i64 (partR r k (r.f1 - k)).f1, .bool (partR r k (r.f1 - k)).f2]] w' fun e w2 => e = .returned (.tuple #[]) ∧ Q e w2) :
    Calls Try.prog 51 #[.pointer (some ⟨g, 0, none⟩), .agg #[.int .i64 r.f0, .int .i64 r.f1, .bool r.f2]] w fun e w' => e = .returned (.tuple #[]) ∧ Q e w' := by
  have HREC := Aside0.mk hrec
  have HKK := Aside0.mk hk
  have hk1 : 1 ≤ k ∧ k ≤ 1099511627776 := by have := hn.2.2; rw [hk]; split <;> omega
  clear hrec hk
  have h1 : decide (r.f1 < 1) = false := by simp; omega
  have hnx := Aside0.mk hn
  have HBW := Aside0.mk ((Below.refl w.heap.size w).alloc (Nat.le_refl _) (.cells #[.int .i64 r.f0, .int .i64 r.f1, .bool r.f2] 56))
  have HB1 := Aside0.mk (hB.below HBW.out)
  have HX1 := World.alloc_heap_new w (.cells #[.int .i64 r.f0, .int .i64 r.f1, .bool r.f2] 56)
  obtain ⟨gO, cO, e, hgO, hgO2, _⟩ := Kd.R_form hB.o (by omega)
  subst e
  have hbo := hB.base (k := gO) rfl
  obtain ⟨ad, ea, hy0, hy1, hy2⟩ := at_T56 (Kd.R_reads' HB1.out.o).2.2 (m : Int) (by omega) (by omega)
  injection ea with ea
  subst ea
  simp only [add_plain, Int.toNat_natCast] at hy0 hy1 hy2
  have hq : (w.alloc (.cells #[.int .i64 r.f0, .int .i64 r.f1, .bool r.f2] 56)).cell? ⟨g, 0, none⟩ = some (.slice (some ⟨gO, 0, none⟩) (m + 1) cO) := by rw [← hm]; exact blk_cell HB1.out.c 0
  have hx1 : (w.alloc (.cells #[.int .i64 r.f0, .int .i64 r.f1, .bool r.f2] 56)).cell? ⟨w.heap.size, 1, none⟩ = some (.int .i64 r.f1) := blk_cell HX1 1
  generalize ht : rd_T56 l (m : Int) = t at *
  have HBY := Aside0.mk (HBW.out.alloc HBW.out.size (.cells #[.int .i64 t.f0, .int .i64 t.f1, .bool t.f2] 56))
  have HK := Aside0.mk (KeptB.below (g := g) (v := .slice (some ⟨gO, 0, none⟩) (m + 1) cO) HBY.out)
  have HB := Aside0.mk (HBY.out.mono (Nat.le_of_lt hB.lt))
  have HB2 := Aside0.mk (hB.below HBY.out)
  have HX := Aside0.mk (blk_alloc HX1 (.cells #[.int .i64 t.f0, .int .i64 t.f1, .bool t.f2] 56))
  have HY := Aside0.mk (World.alloc_heap_new (w.alloc (.cells #[.int .i64 r.f0, .int .i64 r.f1, .bool r.f2] 56)) (.cells #[.int .i64 t.f0, .int .i64 t.f1, .bool t.f2] 56))
  rw [World.size_alloc] at HY
  have HNX := Aside0.mk (show (Value.slice (some ⟨gO, 0, none⟩) (m + 1) cO).ownBlock ≠ some w.heap.size from fun e => by have e2 := Option.some.inj e; have h2 := hbo.2; simp only at e2; omega)
  have HNY := Aside0.mk (show (Value.slice (some ⟨gO, 0, none⟩) (m + 1) cO).ownBlock ≠ some (w.heap.size + 1) from fun e => by have e2 := Option.some.inj e; have h2 := hbo.2; simp only at e2; omega)
  have HL := Aside0.mk hl
  have HZ := Aside0.mk (show g ≤ ((w.alloc (.cells #[.int .i64 r.f0, .int .i64 r.f1, .bool r.f2] 56)).alloc (.cells #[.int .i64 t.f0, .int .i64 t.f1, .bool t.f2] 56)).heap.size by have := hB.lt; simp; omega)
  have HWS := Aside0.mk (show w.heap.size ≤ ((w.alloc (.cells #[.int .i64 r.f0, .int .i64 r.f1, .bool r.f2] 56)).alloc (.cells #[.int .i64 t.f0, .int .i64 t.f1, .bool t.f2] 56)).heap.size by simp; omega)
  have hw1 : IntKind.i64.wrap (m : Int) = (m : Int) := by rw [i64_w]; unfold wrap64; omega
  have hm0 : 0 ≤ (m : Int) := by omega
  have hmt : ((m : Int)).toNat = m := by omega
  have he0 : ((m : Int) + 1 == 0) = false := by simp; omega
  have HM := Aside0.mk hm
  have hnt := Aside0.mk hbt
  have HIM := Aside0.mk (show ∀ W, Calls Try.prog 66 #[.agg #[.int .i64 t.f0, .int .i64 t.f1, .bool t.f2], .int .i64 (wrap64 (t.f1 - 1))] W fun e w' => e = .returned (.int .i64 (img t (t.f1 - 1))) ∧ Below W.heap.size W w' from fun W => by
    have e : wrap64 (t.f1 - 1) = t.f1 - 1 := by unfold wrap64; have := hbt.1; have := hbt.2; omega
    rw [e]
    exact iso_image.calls _ _ _ _ _ W (image_far t (t.f1 - 1) hbt (by have := hbt.2; omega) (by have := hbt.2; omega)))
  have hgoes : wrap64 (r.f0 - img t (t.f1 - 1)) = goes r t := by
    unfold wrap64 goes img
    have := hbt.1; have := hbt.2; have := hn.1; have := hn.2.1
    split <;> omega
  clear hB hn hbo hgO hgO2 hl hbt
  go_enter Try.func51, Try.ntmps51
  go_wp2
  have HC := Aside0.mk (show ((w.alloc (.cells #[.int .i64 r.f0, .int .i64 r.f1, .bool r.f2] 56)).alloc (.cells #[.int .i64 t.f0, .int .i64 t.f1, .bool t.f2] 56)).heap[g]? = some (.cells #[.slice (some ⟨gO, 0, none⟩) (m + 1) cO] 66 (0, 0)) by have := HB2.out.c; rw [hm] at this; exact this)
  have HO := Aside0.mk (show Kd.R k56 56 ((w.alloc (.cells #[.int .i64 r.f0, .int .i64 r.f1, .bool r.f2] 56)).alloc (.cells #[.int .i64 t.f0, .int .i64 t.f1, .bool t.f2] 56)) g (fun k => k ≠ g) (.slice (some ⟨gO, 0, none⟩) (m + 1) cO) l by have := HB2.out.o; rw [hm] at this; exact this)
  clear HB1 HB2 HX1 hq hx1 HBW HBY hy0 hy1 hy2 hw1 hm0 he0
  generalize hv_ : (Value.slice (some ⟨gO, 0, none⟩) (m + 1) cO) = v at *
  generalize (w.alloc (.cells #[.int .i64 r.f0, .int .i64 r.f1, .bool r.f2] 56)).alloc _ = w1 at *
  generalize hgY_ : w.heap.size + 1 = gY at HY HNY ⊢
  generalize hgX_ : w.heap.size = gX at HX HNX ⊢
  refine start_ (n := 9) (S := fun w' => w'.cell? ⟨gX, 0, none⟩ = some (.int .i64 r.f0) ∧ w'.cell? ⟨gY, 0, none⟩ = some (.int .i64 t.f0) ∧ w'.cell? ⟨gY, 1, none⟩ = some (.int .i64 t.f1) ∧ w'.cell? ⟨gY, 2, none⟩ = some (.bool t.f2)) (ds := []) #[false, false, false, false, false, false, false, false, false] (by kernel_rfl) rfl rfl ⟨(blk_cell HX.out 0).trans rfl, (blk_cell HY.out 0).trans rfl, (blk_cell HY.out 1).trans rfl, (blk_cell HY.out 2).trans rfl⟩ (fun hHeld => ?_)
  generalize hwy_ : w1.drew = wy at hHeld ⊢
  replace HC := Aside0.mk (hwy_ ▸ blk_drew HC.out)
  replace HX := Aside0.mk (hwy_ ▸ blk_drew HX.out)
  replace HY := Aside0.mk (hwy_ ▸ blk_drew HY.out)
  replace HO := Aside0.mk (hwy_ ▸ Kd.R_drew HO.out)
  replace HB := Aside0.mk (hwy_ ▸ HB.out.drew)
  replace HZ := Aside0.mk (show g ≤ wy.heap.size from hwy_ ▸ HZ.out)
  replace HWS := Aside0.mk (show w.heap.size ≤ wy.heap.size from hwy_ ▸ HWS.out)
  replace HK := Aside0.mk (show KeptB g v w wy from hwy_ ▸ HK.out)
  clear hwy_
  refine pure_ (i := 0) (N := some 39) (v := ?_) (a' := ?_) #[true, false, false, false, false, false, false, false, false] rfl rfl (by kernel_rfl) (fun _ _ _ h => h) (Or.inl ⟨by rfl, ?_⟩) ?_ ?_
  rotate_left
  · intro w'
    go_simp
    with_reducible rfl
  rotate_left
  · simp only [Act.put, List.setIfInBounds_toArray, List.set_cons_zero, List.set_cons_succ, i64_w, i32_w]
    rfl
  refine pure_ (i := 3) (N := some 42) (v := ?_) (a' := ?_) #[true, false, false, true, false, false, false, false, false] rfl rfl (by kernel_rfl) (fun _ _ _ h => h) (Or.inl ⟨by rfl, ?_⟩) ?_ ?_
  rotate_left
  · intro w'
    go_simp
    with_reducible rfl
  rotate_left
  · simp only [Act.put, List.setIfInBounds_toArray, List.set_cons_zero, List.set_cons_succ, i64_w, i32_w]
    rfl
  refine take_ (i := 1) (N := some 40) (v := ?_) (a' := ?_) #[true, true, false, true, false, false, false, false, false] rfl rfl (by kernel_rfl) (fun _ _ _ h => h) (Or.inl ⟨by rfl, ?_⟩) hHeld ?_ ?_
  rotate_left
  · rintro w' ⟨s0, s1, s2, s3⟩
    go_simp
    with_reducible rfl
  rotate_left
  · simp only [Act.put, List.setIfInBounds_toArray, List.set_cons_zero, List.set_cons_succ, i64_w, i32_w]
    rfl
  refine take_ (i := 2) (N := some 41) (v := ?_) (a' := ?_) #[true, true, true, true, false, false, false, false, false] rfl rfl (by kernel_rfl) (fun _ _ _ h => h) (Or.inl ⟨by rfl, ?_⟩) hHeld ?_ ?_
  rotate_left
  · rintro w' ⟨s0, s1, s2, s3⟩
    go_simp
    with_reducible rfl
  rotate_left
  · simp only [Act.put, List.setIfInBounds_toArray, List.set_cons_zero, List.set_cons_succ, i64_w, i32_w]
    rfl
  refine take_ (i := 4) (N := some 43) (v := ?_) (a' := ?_) #[true, true, true, true, true, false, false, false, false] rfl rfl (by kernel_rfl) (fun _ _ _ h => h) (Or.inl ⟨by rfl, ?_⟩) hHeld ?_ ?_
  rotate_left
  · rintro w' ⟨s0, s1, s2, s3⟩
    go_simp
    with_reducible rfl
  rotate_left
  · simp only [Act.put, List.setIfInBounds_toArray, List.set_cons_zero, List.set_cons_succ, i64_w, i32_w]
    rfl
  refine pure_ (i := 5) (N := some 44) (v := ?_) (a' := ?_) #[true, true, true, true, true, true, false, false, false] rfl rfl (by kernel_rfl) (fun _ _ _ h => h) (Or.inl ⟨by rfl, ?_⟩) ?_ ?_
  rotate_left
  · intro w'
    go_simp
    with_reducible rfl
  rotate_left
  · simp only [Act.put, List.setIfInBounds_toArray, List.set_cons_zero, List.set_cons_succ, i64_w, i32_w]
    rfl
  refine one_ (i := 6) (N := some 45) #[true, true, true, true, true, true, true, false, false] rfl rfl (by kernel_rfl) (by decide) (fun K hK => ?_)
  refine goes_ Try.func66 (by kernel_rfl) rfl #[.agg #[.int .i64 t.f0, .int .i64 t.f1, .bool t.f2], .int .i64 (wrap64 (t.f1 - 1))] (by rfl) rfl rfl (by simp only [List.map_toArray, List.map_cons, List.map_nil]; rfl) ?_
  with_reducible refine (HIM.out _).mono ?_
  rintro e w3 ⟨rfl, hb3⟩
  refine ⟨_, rfl, ?_⟩
  replace HC := Aside0.mk (blk_below HC.out hb3)
  replace HX := Aside0.mk (blk_below HX.out hb3)
  replace HY := Aside0.mk (blk_below HY.out hb3)
  replace HO := Aside0.mk (Kd.R_below HO.out hb3)
  replace HB := Aside0.mk (HB.out.trans (hb3.mono HZ.out))
  replace HK := Aside0.mk (HK.out.trans (KeptB.below hb3) (fun X e => Or.inl e))
  replace HZ := Aside0.mk (Nat.le_trans HZ.out hb3.size)
  replace HWS := Aside0.mk (Nat.le_trans HWS.out hb3.size)
  clear hb3
  refine hK.out _ _ ⟨(blk_cell HX.out 0).trans rfl, (blk_cell HY.out 0).trans rfl, (blk_cell HY.out 1).trans rfl, (blk_cell HY.out 2).trans rfl⟩ (fun hHeld => ?_)
  clear hK K
  refine norm_ (a' := ?_) ?_ ?_
  rotate_left
  · show Act.put _ (some 45) _ = _
    simp only [Act.put, List.setIfInBounds_toArray, List.set_cons_zero, List.set_cons_succ, i64_w, i32_w]
    rfl
  refine pure_ (i := 7) (N := some 46) (v := ?_) (a' := ?_) #[true, true, true, true, true, true, true, true, false] rfl rfl (by kernel_rfl) (fun _ _ _ h => h) (Or.inl ⟨by rfl, ?_⟩) ?_ ?_
  rotate_left
  · intro w'
    go_simp
    with_reducible rfl
  rotate_left
  · simp only [Act.put, List.setIfInBounds_toArray, List.set_cons_zero, List.set_cons_succ, i64_w, i32_w]
    rfl
  refine pure_ (i := 8) (N := some 6) (v := ?_) (a' := ?_) #[true, true, true, true, true, true, true, true, true] rfl rfl (by kernel_rfl) (fun _ _ _ h => h) (Or.inl ⟨by rfl, ?_⟩) ?_ ?_
  rotate_left
  · intro w'
    go_simp
    with_reducible rfl
  rotate_left
  · simp only [Act.put, List.setIfInBounds_toArray, List.set_cons_zero, List.set_cons_succ, i64_w, i32_w]
    rfl
  refine done_ (by kernel_rfl) ?_
  rw [hgoes]
  clear hgoes HIM
  have hs1 : goes r t = 1 ∨ goes r t = -1 := hj.1
  have hs2 : 1 < t.f1 → decide (goes r t = -1) = t.f2 := hj.2
  generalize goes r t = s at *
  clear hj ht
  have hwk : wrap64 (t.f1 + k) = t.f1 + k := by unfold wrap64; have := hnt.out.2; omega
  have hwk2 : wrap64 (r.f1 - k) = r.f1 - k := by unfold wrap64; have := hnx.out.2.2; omega
  have HPC := Aside0.mk (show ∀ W, Calls Try.prog 65 #[.agg #[.int .i64 r.f0, .int .i64 r.f1, .bool r.f2], .int .i64 k, .int .i64 (r.f1 - k)] W fun e w' => e = .returned (.agg #[.int .i64 (partR r k (r.f1 - k)).f0, .int .i64 (partR r k (r.f1 - k)).f1, .bool (partR r k (r.f1 - k)).f2]) ∧ Below W.heap.size W w' from fun W => part_calls r k (r.f1 - k) W hnx.out (by omega) (by omega))
  have HPZ := Aside0.mk (show k = r.f1 → ∀ W, Calls Try.prog 65 #[.agg #[.int .i64 r.f0, .int .i64 r.f1, .bool r.f2], .int .i64 k, .int .i64 0] W fun e w' => e = .returned (.agg #[.int .i64 (partR r k (r.f1 - k)).f0, .int .i64 (partR r k (r.f1 - k)).f1, .bool (partR r k (r.f1 - k)).f2]) ∧ Below W.heap.size W w' from fun e W => by rw [show r.f1 - k = 0 by omega]; exact part_calls r k 0 W hnx.out (by omega) (by omega))
  have HGO := Aside0.mk (show g ≠ gO from fun e => HO.out.1 g (by rw [← hv_, e]; rfl) rfl)
  subst hv_
  simp only [hm] at HREC
  obtain ⟨tc, tm, te⟩ := t
  obtain ⟨rc, rn, rb⟩ := r
  dsimp only at hs2 hwk hwk2
  have hxb := blk_cell HX.out 1
  have hxd := blk_cell HX.out 2
  have hya := blk_cell HY.out 0
  have hyc := blk_cell HY.out 1
  have hyd := blk_cell HY.out 2
  have hgc := blk_cell HC.out 0
  have hw1 : IntKind.i64.wrap (m : Int) = (m : Int) := by rw [i64_w]; unfold wrap64; have := HL.out; have := HM.out; omega
  have hm0 : 0 ≤ (m : Int) := by omega
  have hmm : ((m : Int) < (m : Int) + 1) = True := eq_true (by omega)
  have hpath : ∃ b : Bool, decide (s = -1) = b ∧ (s == -1) = b := ⟨_, rfl, rfl⟩
  by_cases htm : 1 < tm
  case' pos =>
    obtain rfl := hs2 htm
    have t3 : decide (1 < tm) = true := by simpa using htm
  case' neg => have t3 : decide (1 < tm) = false := by simpa using htm
  all_goals
    clear hpath htm hs2
    rcases hs1 with rfl | rfl
  all_goals
    by_cases hrn : 1 < rn
  all_goals
    first | have t4 : decide (1 < rn) = true := by simpa using hrn | have t4 : decide (1 < rn) = false := by simpa using hrn
    cases rb
  all_goals
    have hkk := HKK.out
    simp [hrn] at hkk
    subst k
    clear hrn
    go_wp2
    go_still_tail 16, (by kernel_rfl)
    change wpList _ _ _ _ _ w3.drew
    refine run_store g rfl rfl (.tmp 105) (.tmp 104) rfl (m : Int) l _ _ _ (fun k => k ≠ g) rfl (by simp) rfl (Kd.R_drew HO.out) (by omega) (by omega) (below_drew HB.out) ?_
    intro w4 hr4 hb4 hg4
    rw [hmt] at hr4
    simp only [i64_w, hwk] at hr4
    have HX4 := Aside0.mk (blk_grown (blk_drew HX.out) hg4 (fun e => HNX.out e.symm))
    have HC4 := Aside0.mk (blk_grown (blk_drew HC.out) hg4 (fun e => HGO.out (Option.some.inj e)))
    have HO4 := Aside0.mk hr4
    have HB4 := Aside0.mk hb4
    have HK4 := Aside0.mk (KeptB.grown (W := w3.drew) HK.out hg4)
    have HZ4 := Aside0.mk (show g ≤ w4.heap.size from Nat.le_of_lt (blk_lt HC4.out))
    clear hr4 hb4 hg4 hxb hxd hya hyc hyd hgc hw1 hm0 hmm hwk
    have hxa := blk_cell HX4.out 0
    have hxb := blk_cell HX4.out 1
    have hxd := blk_cell HX4.out 2
    go_wp2_with (first | (go_at_call 65; (first | (with_reducible refine (HPC.out _).mono ?_) | (with_reducible refine (HPZ.out (by first | trivial | rfl) _).mono ?_)); rintro e w5 ⟨rfl, hb5⟩; have HB5 := Aside0.mk (HB4.out.trans (hb5.mono HZ4.out)); have HL5 := Aside0.mk (Bld.below (show Bld _ _ _ _ from ⟨HC4.out, HO4.out⟩) hb5); have HK5 := Aside0.mk (HK4.out.trans (KeptB.below hb5) (fun X e => Or.inl e)); clear hb5) | (go_at_call 51; have HQ := HREC.out _ _ (by first | rfl | simp) HL5.out HB5.out HK5.out; (try simp only [Int.sub_self] at HQ); (with_reducible refine HQ.mono ?_); rintro e w6 ⟨rfl, hq6⟩))
    (try simp only [Exit.inBlock, Exit.then]); refine bodyPost_end (results_none rfl _ _ _) rfl ?_
    exact ⟨rfl, hq6⟩
end Go.Proofs.Ytjkakgkiikjdmaa.G

namespace Go.Proofs.Ytjkakgkiikjdmaa.G
open Go.RowKit Go.Proofs.YtjkakgkiikjdmaaW.PrintWords Go.Proofs.YtjkakgkiikjdmaaW.PrintLast Go.Proofs.YtjkakgkiikjdmaaW.PrintMore
set_option linter.unusedVariables false
set_option linter.unusedSimpArgs false
theorem partR_part (r : S56) (x n : Int) : partR (partR r x n) 0 n = partR r x n := by
  obtain ⟨a, m, b⟩ := r
  simp only [partR, img]
  cases b <;> by_cases hn : n > 1 <;> simp [hn]
theorem joins_at (r t : S56) (ht : 1 ≤ t.f1) (hj : joins r t) : r.f0 = if decide (goes r t = -1) = true then t.f0 - t.f1 else t.f0 + t.f1 := by
  have h1 := hj.1
  have h2 := hj.2
  obtain ⟨c, m, e⟩ := t
  dsimp only at ht h2 ⊢
  by_cases hm : m > 1
  · rw [h2 hm]
    simp only [goes, img] at h1 h2
    have h3 := h2 hm
    cases e <;> simp at h1 h3 ⊢ <;> omega
  · have e1 : m = 1 := by omega
    subst e1
    simp only [goes, img] at h1 ⊢
    cases e <;> simp at h1 ⊢ <;> split <;> omega
theorem not_joins (r t : S56) (ht : 1 ≤ t.f1) (hj : joins r t) (hf : r.f2 ≠ decide (goes r t = -1)) (n : Int) : ¬ joins (partR r 1 n) ⟨t.f0, t.f1 + 1, decide (goes r t = -1)⟩ := by
  intro k
  have k2 := k.2 (by dsimp only; omega)
  have ha := joins_at r t ht hj
  have hg : goes (partR r 1 n) ⟨t.f0, t.f1 + 1, decide (goes r t = -1)⟩ = if r.f2 = true then -1 else 1 := by
    generalize decide (goes r t = -1) = b at ha ⊢
    simp only [goes, img, partR]
    cases r.f2 <;> cases b <;> simp at ha ⊢ <;> omega
  rw [hg] at k2
  dsimp only at k2
  apply hf
  rw [← k2]
  cases r.f2 <;> simp
def sane (r : S56) : Prop := -549755813888 ≤ r.f0 ∧ r.f0 ≤ 549755813888 ∧ r.f1 ≤ 549755813888
theorem sane.near {r : S56} (h : sane r) : nearR r := ⟨by have := h.1; omega, by have := h.2.1; omega, by have := h.2.2; omega⟩
theorem sane.part {r : S56} (h : sane r) {x n : Int} (h0 : 0 ≤ x) (h1 : x ≤ r.f1) (hn : n ≤ r.f1) : nearR (partR r x n) := by
  obtain ⟨a, b, c⟩ := h
  refine ⟨?_, ?_, ?_⟩ <;> simp only [partR, img] <;> (try split) <;> omega
set_option maxHeartbeats 4000000 in
theorem add_main (g : Nat) (v : Value) (l : List S56) (r : S56) (w : World) (hB : Bld g v l w) (hr : sane r) (hl : l.length + 2 ≤ 1000000) (hbt : ∀ t ∈ l, (-1099511627776 ≤ t.f0 ∧ t.f0 ≤ 1099511627776) ∧ 1 ≤ t.f1 ∧ t.f1 ≤ 1125899906842623) :
    Calls Try.prog 51 #[.pointer (some ⟨g, 0, none⟩), .agg #[.int .i64 r.f0, .int .i64 r.f1, .bool r.f2]] w fun e w' => e = .returned (.tuple #[]) ∧ (∃ v', Bld g v' (addOf l r) w' ∧ Own v v' w) ∧ Below g w w' ∧ KeptB g v w w' := by
  by_cases h0 : r.f1 < 1
  · refine (add_none g v l r w hB h0).mono ?_
    rintro e w' ⟨rfl, h1, h2⟩
    exact ⟨rfl, ⟨v, by rw [addOf, if_pos h0]; exact h1, fun k hk => .inl hk⟩, h2.mono (Nat.le_of_lt hB.lt), KeptB.below h2⟩
  · have h1 : 1 ≤ r.f1 := by omega
    rcases List.eq_nil_or_concat l with rfl | ⟨d, t, rfl⟩
    · refine (add_first g v r w hB h1 hr.near).mono ?_
      rintro e w' ⟨rfl, h2, h3, h4⟩
      exact ⟨rfl, by rw [addOf, if_neg h0]; exact h2, h3, h4⟩
    · rw [List.concat_eq_append] at *
      have hm : (d ++ [t]).length = d.length + 1 := by simp
      have hrd : rd_T56 (d ++ [t]) (d.length : Int) = t := by simp [rd_T56]
      have ht := hbt t (by simp)
      have hset : ∀ x, (d ++ [t]).set d.length x = d ++ [x] := fun x => by simp
      by_cases hj : joins r t
      · refine add_grow g d.length v (d ++ [t]) r w (if r.f1 > 1 ∧ r.f2 = decide (goes r t = -1) then r.f1 else 1) (fun _ w2 => (∃ v', Bld g v' (addOf (d ++ [t]) r) w2 ∧ Own v v' w) ∧ Below g w w2 ∧ KeptB g v w w2) hB hm (by omega) (by rw [hrd]; omega) h1 hr.near (by rw [hrd]; exact hj) (by rw [hrd]) ?_
        rw [hrd]
        intro w' x' hx hB' hb' hk'
        have hs' := hb'.size
        rw [hset] at hB'
        have hadd : addOf (d ++ [t]) r = if r.f1 > 1 ∧ r.f2 ≠ decide (goes r t = -1) then d ++ [⟨t.f0, t.f1 + 1, decide (goes r t = -1)⟩] ++ [partR r 1 (r.f1 - 1)] else d ++ [⟨t.f0, t.f1 + r.f1, decide (goes r t = -1)⟩] := by
          rw [addOf, if_neg h0]
          simp only [List.reverse_append, List.reverse_cons, List.reverse_nil, List.nil_append, List.singleton_append, addR, if_pos hj]
          split <;> simp
        by_cases hc : r.f1 > 1 ∧ r.f2 ≠ decide (goes r t = -1)
        · have hk1 : (if r.f1 > 1 ∧ r.f2 = decide (goes r t = -1) then r.f1 else 1) = 1 := if_neg (fun k => hc.2 k.2)
          rw [hk1] at hx ⊢
          have hrd2 : rd_T56 (d ++ [x']) (d.length : Int) = x' := by simp [rd_T56]
          refine (add_new g d.length v (d ++ [x']) (partR r 1 (r.f1 - 1)) w' hB' (by simp) (by simp at hl ⊢; omega) (by rw [hrd2, hx]; dsimp only; omega) (by simp only [partR]; omega) (hr.part (by omega) (by omega) (by omega)) (by rw [hrd2, hx]; exact not_joins r t ht.2.1 hj hc.2 _)).mono ?_
          rintro e w2 ⟨rfl, ⟨v', hB2, hO2⟩, hb2, hk2⟩
          refine ⟨rfl, ⟨v', ?_, fun k hk => (hO2 k hk).imp id (fun h => Nat.le_trans hs' h)⟩, hb'.trans hb2, hk'.trans hk2 (fun X e => Or.inl e)⟩
          rw [hadd, if_pos hc, ← hx, ← partR_part r 1 (r.f1 - 1)]
          exact hB2
        · have hk1 : (if r.f1 > 1 ∧ r.f2 = decide (goes r t = -1) then r.f1 else 1) = r.f1 := by
            by_cases h2 : r.f1 > 1
            · rw [if_pos ⟨h2, Classical.byContradiction fun k => hc ⟨h2, k⟩⟩]
            · rw [if_neg (fun k => h2 k.1)]; omega
          rw [hk1] at hx ⊢
          refine (add_none g v (d ++ [x']) (partR r r.f1 (r.f1 - r.f1)) w' hB' (by simp only [partR]; omega)).mono ?_
          rintro e w2 ⟨rfl, hB2, hb2⟩
          refine ⟨rfl, ⟨v, ?_, fun k hk => .inl hk⟩, hb'.trans (hb2.mono (Nat.le_of_lt hB'.lt)), hk'.trans (KeptB.below hb2) (fun X e => Or.inl e)⟩
          rw [hadd, if_neg hc, ← hx]
          exact hB2
      · refine (add_new g d.length v (d ++ [t]) r w hB hm (by omega) (by rw [hrd]; omega) h1 hr.near (by rw [hrd]; exact hj)).mono ?_
        rintro e w' ⟨rfl, h2, h3, h4⟩
        refine ⟨rfl, ?_, h3, h4⟩
        have hadd : addOf (d ++ [t]) r = d ++ [t] ++ [partR r 0 r.f1] := by
          rw [addOf, if_neg h0]
          simp only [List.reverse_append, List.reverse_cons, List.reverse_nil, List.nil_append, List.singleton_append, addR, if_neg hj]
          simp
        rw [hadd]
        exact h2
end Go.Proofs.Ytjkakgkiikjdmaa.G

namespace Go.Proofs.Ytjkakgkiikjdmaa.G
open Go.RowKit Go.Proofs.YtjkakgkiikjdmaaW.PrintWords Go.Proofs.YtjkakgkiikjdmaaW.PrintLast Go.Proofs.YtjkakgkiikjdmaaW.PrintMore
attribute [local go_sem] max2_int min2_int max_two min_two max_three min_three max_four min_four   -- for this text's walks alone
set_option linter.unusedVariables false
set_option linter.unusedSimpArgs false
theorem goesV_ {P : Program} {ops : Array Oper} {Q : Exit → Act → World → Prop} {oi : Oper} {N : Option Tmp} {a : Act} {w : World} {K : Act → World → Prop} {f : FuncId} {fn : Func} {as_ : Array Operand} {ts : Array TypeId} (j : Tmp) (first captured : Array Value) (hf : P.funcs[f]? = some fn) (hname : (fn.name == "runtime.NumGoroutine") = false) (hb : fn.body.isSome = true) (args : Array Value)
    (hw : Region.wanted oi (yielded ops a.tmps) = true) (hN : oi.dst = N) (hop : oi.op = .call { callee := .value (.tmp j), args := as_, argTypes := ts }) (hc : a.eval (.tmp j) = .func (.func f) first captured) (hargs : first ++ as_.map a.eval ++ captured = args)
    (h : Calls P f args w fun e w' => ∃ v, e = .returned v ∧ K (a.put N v) w') : if Region.wanted oi (yielded ops a.tmps) = true then Oper.wp P oi a w K Q else K (a.put N undef) w := by
  refine call_ f args hw hN ?_ h
  have he := enters_ hf hname hb args w
  unfold execOp
  simp only [hop, resolve, hc, Deferred.ofValue, Sem.run_bind, Sem.run_pure, Result.andThen_ok, invoke, hargs, he]
theorem revL_cons (r : S56) (d : List S56) : revL (r :: d) = revL d ++ [revR r] := by simp [revL]
end Go.Proofs.Ytjkakgkiikjdmaa.G

namespace Go.Proofs.Ytjkakgkiikjdmaa.G
open Go.RowKit Go.Proofs.YtjkakgkiikjdmaaW.PrintWords Go.Proofs.YtjkakgkiikjdmaaW.PrintLast Go.Proofs.YtjkakgkiikjdmaaW.PrintMore
attribute [local go_sem] max2_int min2_int max_two min_two max_three min_three max_four min_four   -- for this text's walks alone
set_option linter.unusedVariables false
set_option linter.unusedSimpArgs false

mutual
def iso_Check.l0 : Nat → Int → List (S56) → Int → Int → Option (Int)
 | 0, _, _, _, _ => none
 | k + 1, x3, x9, x10, x11 => if x11 < x10 then (if 0 ≤ x11 then (if x11 < (x9.length : Int) then (if ((rd_T56 x9 x11).f1) < 1 then (iso_Check.j1 k x3 x9 x10 x11 true ((rd_T56 x9 x11).f0) ((rd_T56 x9 x11).f1) ((rd_T56 x9 x11).f2)) else (if ((rd_T56 x9 x11).f1) > 17179869184 then (iso_Check.j1 k x3 x9 x10 x11 true ((rd_T56 x9 x11).f0) ((rd_T56 x9 x11).f1) ((rd_T56 x9 x11).f2)) else (if ((rd_T56 x9 x11).f0) < 0 then (iso_Check.j1 k x3 x9 x10 x11 true ((rd_T56 x9 x11).f0) ((rd_T56 x9 x11).f1) ((rd_T56 x9 x11).f2)) else (iso_Check.j1 k x3 x9 x10 x11 (decide (((rd_T56 x9 x11).f0) ≥ 17179869184)) ((rd_T56 x9 x11).f0) ((rd_T56 x9 x11).f1) ((rd_T56 x9 x11).f2))))) else (none)) else (none)) else (if x3 > 17179869184 then (some 21) else (some 0))
def iso_Check.j1 : Nat → Int → List (S56) → Int → Int → Bool → Int → Int → Bool → Option (Int)
 | 0, _, _, _, _, _, _, _, _ => none
 | k + 1, x3, x9, x10, x11, x32, x49003000, x49003001, x49003002 => if x32 = true then (some 1) else (if x49003002 = true then (if (wrap64 ((wrap64 (x49003000 - x49003001)) + 1)) < 0 then (some 1) else (iso_Check.l0 k (wrap64 (x3 + x49003001)) x9 x10 (wrap64 (x11 + 1)))) else (if (wrap64 (x49003000 + x49003001)) > 17179869184 then (some 1) else (iso_Check.l0 k (wrap64 (x3 + x49003001)) x9 x10 (wrap64 (x11 + 1)))))
end
def iso_Check.f (k : Nat) (l0 : List (S56)) : Option (Int) := if (l0.length : Int) > 256 then (some 8) else (iso_Check.l0 k 0 l0 (l0.length : Int) 0)
theorem iso_Check.mono_l : ∀ k, (∀ y0 y1 y2 y3, LeO (iso_Check.l0 k y0 y1 y2 y3) (iso_Check.l0 (k + 1) y0 y1 y2 y3)) ∧ (∀ y0 y1 y2 y3 y4 y5 y6 y7, LeO (iso_Check.j1 k y0 y1 y2 y3 y4 y5 y6 y7) (iso_Check.j1 (k + 1) y0 y1 y2 y3 y4 y5 y6 y7))
 | 0 => ⟨fun _ _ _ _ r h => by simp [iso_Check.l0] at h, fun _ _ _ _ _ _ _ _ r h => by simp [iso_Check.j1] at h⟩
 | k + 1 => by
  obtain ⟨ih0, ih1⟩ := iso_Check.mono_l k
  refine ⟨?_, ?_⟩
  ·intro y0 y1 y2 y3
   unfold iso_Check.l0
   repeat' first
   | (with_reducible exact ih0 _ _ _ _)
   | (with_reducible exact ih1 _ _ _ _ _ _ _ _)
   | (with_reducible exact LeO.refl _)
   | (with_reducible exact LeO.none _)
   | (with_reducible refine LeO.ite ?_ ?_)
   | (with_reducible refine LeO.bind ?_ (fun _ => ?_))
   | exact ih0 _ _ _ _
   | exact ih1 _ _ _ _ _ _ _ _
   | exact LeO.none _
   | refine LeO.ite ?_ ?_
   | refine LeO.bind ?_ (fun _ => ?_)
  ·intro y0 y1 y2 y3 y4 y5 y6 y7
   unfold iso_Check.j1
   repeat' first
   | (with_reducible exact ih0 _ _ _ _)
   | (with_reducible exact ih1 _ _ _ _ _ _ _ _)
   | (with_reducible exact LeO.refl _)
   | (with_reducible exact LeO.none _)
   | (with_reducible refine LeO.ite ?_ ?_)
   | (with_reducible refine LeO.bind ?_ (fun _ => ?_))
   | exact ih0 _ _ _ _
   | exact ih1 _ _ _ _ _ _ _ _
   | exact LeO.none _
   | refine LeO.ite ?_ ?_
   | refine LeO.bind ?_ (fun _ => ?_)
theorem iso_Check.mono : ∀ a0 k, LeO (iso_Check.f k a0) (iso_Check.f (k + 1) a0) := by
 intro a0 k
 obtain ⟨ih0, ih1⟩ := iso_Check.mono_l k
 unfold iso_Check.f
 repeat' first
   | (with_reducible exact ih0 _ _ _ _)
   | (with_reducible exact ih1 _ _ _ _ _ _ _ _)
   | (with_reducible exact LeO.refl _)
   | (with_reducible exact LeO.none _)
   | (with_reducible refine LeO.ite ?_ ?_)
   | (with_reducible refine LeO.bind ?_ (fun _ => ?_))
   | exact ih0 _ _ _ _
   | exact ih1 _ _ _ _ _ _ _ _
   | exact LeO.none _
   | refine LeO.ite ?_ ?_
   | refine LeO.bind ?_ (fun _ => ?_)
set_option maxHeartbeats 8000000 in
set_option maxRecDepth 100000 in
theorem iso_Check.calls (k : Nat) (A0 : Option Addr) (c0 : Nat) (l0 : List (S56)) (r : Int) (w : World) (hr0 : Kd.C k56 w A0 l0.length l0) (hc0 : l0.length ≤ c0) (h : iso_Check.f k l0 = some r) :
  Calls Try.prog 48 #[.slice A0 l0.length c0] w fun e w' => e = .returned (.int .i64 r) ∧ Below w.heap.size w w' := by
 have hu56 := Try.underlying56
 have HR0 := Aside0.mk hr0
 have HC0 := Aside0.mk hc0
 clear hr0 hc0
 have HB := Aside0.mk (Below.refl w.heap.size w)
 have H : (if (l0.length : Int) > 256 then (some 8) else (iso_Check.l0 k 0 l0 (l0.length : Int) 0)) = some r := h
 clear h
 by_cases c2 : (l0.length : Int) > 256
 ·rw [if_pos c2] at H
  have c2b0 : decide (256 < (l0.length : Int)) = true := decide_eq_true c2
  have c2b1 : decide (256 < l0.length) = true := decide_eq_true (by omega)
  clear c2
  obtain rfl := Option.some.inj H
  go_enter Try.func48, Try.ntmps48
  go_wp2
  go_ret
  exact ⟨by first | rfl | (simp [errW_none, errW_some] <;> rfl) | (simp [*, errW_none, errW_some] <;> rfl), by repeat (first | exact HB.out | apply below_alloc | apply pw_below_drewN | apply below_drew1)⟩
 ·rw [if_neg c2] at H
  have c2b0 : decide (256 < (l0.length : Int)) = false := decide_eq_false c2
  have c2b1 : decide (256 < l0.length) = false := decide_eq_false (by omega)
  clear c2
  have H' := Aside0.mk H
  clear H
  go_enter Try.func48, Try.ntmps48
  go_wp2
  go_loopg [3, 11] k (fun kq v3 v11 w' => ∃ (x3_1 : Int) (x11_1 : Int), v3 = .int .i64 x3_1 ∧ v11 = .int .i64 x11_1 ∧ Aside0 (iso_Check.l0 kq x3_1 l0 (l0.length : Int) x11_1 = some r) ∧ Aside0 (kq ≤ k) ∧ Aside0 (Below w.heap.size w w'))
  case atStart => exact ⟨(0), (0), (by first | rfl | (simp; done) | (simp [*]; done)), (by first | rfl | (simp; done) | (simp [*]; done)), H', ⟨Nat.le_refl _⟩, ⟨by repeat (first | exact HB.out | apply below_alloc | apply pw_below_drewN | apply below_drew1)⟩⟩
  case round =>
   clear H'
   try clear c2
   try clear c2b0
   try clear c2b1
   try clear p2
   obtain ⟨x3_1, x11_1, rfl, rfl, HA, HK1, HB⟩ := hrel
   cases gk with
   | zero => exact absurd HA.out (by simp [iso_Check.l0])
   | succ k1 =>
    have H := HA.out
    clear HA
    simp only [iso_Check.l0] at H
    by_cases c3 : x11_1 < (l0.length : Int)
    ·rw [if_pos c3] at H
     have c3b0 : decide (x11_1 < (l0.length : Int)) = true := decide_eq_true c3
     clear c3
     by_cases c4 : 0 ≤ x11_1
     ·rw [if_pos c4] at H
      have c4b0 : decide (0 ≤ x11_1) = true := decide_eq_true c4
      clear c4
      by_cases c5 : x11_1 < (l0.length : Int)
      ·rw [if_pos c5] at H
       have c5b0 : decide (x11_1 < (l0.length : Int)) = true := decide_eq_true c5
       clear c5
       have HC6 := Aside0.mk H
       clear H
       have p49001 : 0 ≤ (x11_1 : Int) := of_decide_eq_true (by assumption)
       have q49001 : x11_1 < (l0.length : Int) := of_decide_eq_true (by assumption)
       obtain ⟨ad49001, e49001, hx49001_0, hx49001_1, hx49001_2⟩ := at_T56 HR0.out x11_1 p49001 q49001
       cases e49001
       replace hx49001_0 := (HB.out.cell (World.block_lt_of_cell? w _ hx49001_0)).trans hx49001_0
       replace hx49001_1 := (HB.out.cell (World.block_lt_of_cell? w _ hx49001_1)).trans hx49001_1
       replace hx49001_2 := (HB.out.cell (World.block_lt_of_cell? w _ hx49001_2)).trans hx49001_2
       replace p49001 := eq_true p49001
       replace q49001 := eq_true q49001
       go_upto_region 7 with (first | ((with_reducible refine gate_dst (N := 5) rfl ?_); refine box_event ?hg (N := 5) ?hd (cs := #[.int .i64 0, .int .i64 0, .bool false]) (t := 56) ?hr ?_; (case hd => rfl); (case hg => rfl); (case hr => first | (go_simp; done) | (go_simp; rfl)); intro gb49002 hg w7 hbox hb; have n0_ := Aside0.mk (below_step (by repeat (first | exact HB.out | apply below_alloc | apply pw_below_drewN | apply below_drew1)) hb); have n1_ := Aside0.mk (hbox); have n2_ := Aside0.mk ((by rw [hg]; exact (below_size (by repeat (first | exact HB.out | apply below_alloc | apply pw_below_drewN | apply below_drew1))) : w.heap.size ≤ gb49002)); have n3_ := Aside0.mk ((by rw [hg]; exact (below_size (by repeat (first | exact HB.out | apply below_alloc | apply pw_below_drewN | apply below_drew1))) : w.heap.size ≤ gb49002)); clear HB; have HB := n0_; have BK49002 := n1_; have GW49002 := n2_; have GE49002 := n3_; clear n0_ n1_ n2_ n3_; clear hb hbox hg; have hcz8_0 : w7.cell? ⟨gb49002, 0, none⟩ = some (.int .i64 0) := (blk_cell BK49002.out 0).trans rfl; have hcz8_1 : w7.cell? ⟨gb49002, 1, none⟩ = some (.int .i64 0) := (blk_cell BK49002.out 1).trans rfl; have hcz8_2 : w7.cell? ⟨gb49002, 2, none⟩ = some (.bool false) := (blk_cell BK49002.out 2).trans rfl; have hfz8_0 := blk_frozen BK49002.out 0; have hfz8_1 := blk_frozen BK49002.out 1; have hfz8_2 := blk_frozen BK49002.out 2))
       (try simp only [Act.put, List.setIfInBounds_toArray, List.set_cons_zero, List.set_cons_succ])
       go_cut [32] (fun v32 wc => ∃ (kq : Nat) (x32_5 : Bool), v32 = .bool x32_5 ∧ Aside0 (iso_Check.j1 kq x3_1 l0 (l0.length : Int) x11_1 x32_5 ((rd_T56 l0 x11_1).f0) ((rd_T56 l0 x11_1).f1) ((rd_T56 l0 x11_1).f2) = some r) ∧ Aside0 (kq ≤ k1) ∧ Aside0 (wc.heap[gb49002]? = some (.cells #[.int .i64 ((rd_T56 l0 x11_1).f0), .int .i64 ((rd_T56 l0 x11_1).f1), .bool ((rd_T56 l0 x11_1).f2)] 56 (0, 0))) ∧ Aside0 (Below w.heap.size w wc))
       case first =>
        have H := HC6.out
        clear HC6
        by_cases c9 : ((rd_T56 l0 x11_1).f1) < 1
        ·rw [if_pos c9] at H
         have c9b0 : decide (((rd_T56 l0 x11_1).f1) < 1) = true := decide_eq_true c9
         clear c9
         (first | rw [c9b0] | (simp only [i64_w, i32_w]; rw [c9b0]) | skip)
         have H' := Aside0.mk H
         clear H
         have hcz10_0 : w7.cell? ⟨gb49002, 0, none⟩ = some (.int .i64 0) := (blk_cell BK49002.out 0).trans rfl
         have hcz10_1 : w7.cell? ⟨gb49002, 1, none⟩ = some (.int .i64 0) := (blk_cell BK49002.out 1).trans rfl
         have hcz10_2 : w7.cell? ⟨gb49002, 2, none⟩ = some (.bool false) := (blk_cell BK49002.out 2).trans rfl
         have hfz10_0 := blk_frozen BK49002.out 0
         have hfz10_1 := blk_frozen BK49002.out 1
         have hfz10_2 := blk_frozen BK49002.out 2
         go_wp2
         go_meet
         case rel => exact ⟨_, (true), (by first | rfl | (simp; done) | (simp [*]; done)), H', ⟨by have := HK1.out; first | omega | exact Nat.le_refl _⟩, ⟨by refine blk_put (cs := #[.int .i64 ((rd_T56 l0 x11_1).f0), .int .i64 ((rd_T56 l0 x11_1).f1), .bool false]) ?_ 2 _ rfl; refine blk_put (cs := #[.int .i64 ((rd_T56 l0 x11_1).f0), .int .i64 0, .bool false]) ?_ 1 _ rfl; refine blk_put (cs := #[.int .i64 0, .int .i64 0, .bool false]) ?_ 0 _ rfl; exact BK49002.out⟩, ⟨by repeat (first | exact HB.out | apply below_alloc | apply pw_below_drewN | apply below_drew1 | refine below_set ?_ GE49002.out)⟩⟩
        ·rw [if_neg c9] at H
         have c9b0 : decide (((rd_T56 l0 x11_1).f1) < 1) = false := decide_eq_false c9
         clear c9
         (first | rw [c9b0] | (simp only [i64_w, i32_w]; rw [c9b0]) | skip)
         by_cases c11 : ((rd_T56 l0 x11_1).f1) > 17179869184
         ·rw [if_pos c11] at H
          have c11b0 : decide (17179869184 < ((rd_T56 l0 x11_1).f1)) = true := decide_eq_true c11
          clear c11
          have H' := Aside0.mk H
          clear H
          have hcz12_0 : w7.cell? ⟨gb49002, 0, none⟩ = some (.int .i64 0) := (blk_cell BK49002.out 0).trans rfl
          have hcz12_1 : w7.cell? ⟨gb49002, 1, none⟩ = some (.int .i64 0) := (blk_cell BK49002.out 1).trans rfl
          have hcz12_2 : w7.cell? ⟨gb49002, 2, none⟩ = some (.bool false) := (blk_cell BK49002.out 2).trans rfl
          have hfz12_0 := blk_frozen BK49002.out 0
          have hfz12_1 := blk_frozen BK49002.out 1
          have hfz12_2 := blk_frozen BK49002.out 2
          go_wp2
          go_meet
          case rel => exact ⟨_, (true), (by first | rfl | (simp; done) | (simp [*]; done)), H', ⟨by have := HK1.out; first | omega | exact Nat.le_refl _⟩, ⟨by refine blk_put (cs := #[.int .i64 ((rd_T56 l0 x11_1).f0), .int .i64 ((rd_T56 l0 x11_1).f1), .bool false]) ?_ 2 _ rfl; refine blk_put (cs := #[.int .i64 ((rd_T56 l0 x11_1).f0), .int .i64 0, .bool false]) ?_ 1 _ rfl; refine blk_put (cs := #[.int .i64 0, .int .i64 0, .bool false]) ?_ 0 _ rfl; exact BK49002.out⟩, ⟨by repeat (first | exact HB.out | apply below_alloc | apply pw_below_drewN | apply below_drew1 | refine below_set ?_ GE49002.out)⟩⟩
         ·rw [if_neg c11] at H
          have c11b0 : decide (17179869184 < ((rd_T56 l0 x11_1).f1)) = false := decide_eq_false c11
          clear c11
          by_cases c13 : ((rd_T56 l0 x11_1).f0) < 0
          ·rw [if_pos c13] at H
           have c13b0 : decide (((rd_T56 l0 x11_1).f0) < 0) = true := decide_eq_true c13
           clear c13
           have H' := Aside0.mk H
           clear H
           have hcz14_0 : w7.cell? ⟨gb49002, 0, none⟩ = some (.int .i64 0) := (blk_cell BK49002.out 0).trans rfl
           have hcz14_1 : w7.cell? ⟨gb49002, 1, none⟩ = some (.int .i64 0) := (blk_cell BK49002.out 1).trans rfl
           have hcz14_2 : w7.cell? ⟨gb49002, 2, none⟩ = some (.bool false) := (blk_cell BK49002.out 2).trans rfl
           have hfz14_0 := blk_frozen BK49002.out 0
           have hfz14_1 := blk_frozen BK49002.out 1
           have hfz14_2 := blk_frozen BK49002.out 2
           go_wp2
           go_meet
           case rel => exact ⟨_, (true), (by first | rfl | (simp; done) | (simp [*]; done)), H', ⟨by have := HK1.out; first | omega | exact Nat.le_refl _⟩, ⟨by refine blk_put (cs := #[.int .i64 ((rd_T56 l0 x11_1).f0), .int .i64 ((rd_T56 l0 x11_1).f1), .bool false]) ?_ 2 _ rfl; refine blk_put (cs := #[.int .i64 ((rd_T56 l0 x11_1).f0), .int .i64 0, .bool false]) ?_ 1 _ rfl; refine blk_put (cs := #[.int .i64 0, .int .i64 0, .bool false]) ?_ 0 _ rfl; exact BK49002.out⟩, ⟨by repeat (first | exact HB.out | apply below_alloc | apply pw_below_drewN | apply below_drew1 | refine below_set ?_ GE49002.out)⟩⟩
          ·rw [if_neg c13] at H
           have c13b0 : decide (((rd_T56 l0 x11_1).f0) < 0) = false := decide_eq_false c13
           clear c13
           have H' := Aside0.mk H
           clear H
           have hcz15_0 : w7.cell? ⟨gb49002, 0, none⟩ = some (.int .i64 0) := (blk_cell BK49002.out 0).trans rfl
           have hcz15_1 : w7.cell? ⟨gb49002, 1, none⟩ = some (.int .i64 0) := (blk_cell BK49002.out 1).trans rfl
           have hcz15_2 : w7.cell? ⟨gb49002, 2, none⟩ = some (.bool false) := (blk_cell BK49002.out 2).trans rfl
           have hfz15_0 := blk_frozen BK49002.out 0
           have hfz15_1 := blk_frozen BK49002.out 1
           have hfz15_2 := blk_frozen BK49002.out 2
           go_wp2
           go_meet
           case rel => exact ⟨_, (decide (((rd_T56 l0 x11_1).f0) ≥ 17179869184)), (by first | rfl | (simp; done) | (simp [*]; done)), H', ⟨by have := HK1.out; first | omega | exact Nat.le_refl _⟩, ⟨by refine blk_put (cs := #[.int .i64 ((rd_T56 l0 x11_1).f0), .int .i64 ((rd_T56 l0 x11_1).f1), .bool false]) ?_ 2 _ rfl; refine blk_put (cs := #[.int .i64 ((rd_T56 l0 x11_1).f0), .int .i64 0, .bool false]) ?_ 1 _ rfl; refine blk_put (cs := #[.int .i64 0, .int .i64 0, .bool false]) ?_ 0 _ rfl; exact BK49002.out⟩, ⟨by repeat (first | exact HB.out | apply below_alloc | apply pw_below_drewN | apply below_drew1 | refine below_set ?_ GE49002.out)⟩⟩
       case rest =>
        clear HC6
        try clear c1
        try clear c2
        try clear c2b0
        try clear c2b1
        try clear p2
        try clear c3
        try clear c3b0
        try clear c4
        try clear c4b0
        try clear p4
        try clear q4
        try clear hx4
        try clear c5
        try clear c5b0
        try clear c9
        try clear c9b0
        try clear c11
        try clear c11b0
        try clear c13
        try clear c13b0
        try clear hcz10_0
        try clear hcz10_1
        try clear hcz10_2
        try clear hcz12_0
        try clear hcz12_1
        try clear hcz12_2
        try clear hcz14_0
        try clear hcz14_1
        try clear hcz14_2
        try clear hcz15_0
        try clear hcz15_1
        try clear hcz15_2
        try clear hcz8_0
        try clear hcz8_1
        try clear hcz8_2
        try clear hfz10_0
        try clear hfz10_1
        try clear hfz10_2
        try clear hfz12_0
        try clear hfz12_1
        try clear hfz12_2
        try clear hfz14_0
        try clear hfz14_1
        try clear hfz14_2
        try clear hfz15_0
        try clear hfz15_1
        try clear hfz15_2
        try clear hfz8_0
        try clear hfz8_1
        try clear hfz8_2
        try clear hx49001_0
        try clear hx49001_1
        try clear hx49001_2
        try clear p2
        try clear p49001
        try clear q49001
        obtain ⟨kq, x32_5, rfl, HA, HJ5, BK49002, HB⟩ := hcut
        cases kq with
        | zero => exact absurd HA.out (by simp [iso_Check.j1])
        | succ kj5 =>
         have H := HA.out
         clear HA
         simp only [iso_Check.j1] at H
         by_cases c16 : x32_5 = true
         ·subst c16
          have H1 : (some 1) = some r := by rw [if_pos rfl] at H; exact H
          clear H
          have H := H1
          clear H1
          obtain rfl := Option.some.inj H
          go_wp2
          go_ret
          exact ⟨by first | rfl | (simp [errW_none, errW_some] <;> rfl) | (simp [*, errW_none, errW_some] <;> rfl), by repeat (first | exact HB.out | apply below_alloc | apply pw_below_drewN | apply below_drew1 | refine below_set ?_ GE49002.out)⟩
         ·replace c16 := Bool.eq_false_iff.mpr c16
          subst c16
          have H1 : (if ((rd_T56 l0 x11_1).f2) = true then (if (wrap64 ((wrap64 (((rd_T56 l0 x11_1).f0) - ((rd_T56 l0 x11_1).f1))) + 1)) < 0 then (some 1) else (iso_Check.l0 kj5 (wrap64 (x3_1 + ((rd_T56 l0 x11_1).f1))) l0 (l0.length : Int) (wrap64 (x11_1 + 1)))) else (if (wrap64 (((rd_T56 l0 x11_1).f0) + ((rd_T56 l0 x11_1).f1))) > 17179869184 then (some 1) else (iso_Check.l0 kj5 (wrap64 (x3_1 + ((rd_T56 l0 x11_1).f1))) l0 (l0.length : Int) (wrap64 (x11_1 + 1))))) = some r := by rw [if_neg (show ¬ (false = true) by decide)] at H; first | exact H | simpa using H
          clear H
          have H := H1
          clear H1
          by_cases c17 : ((rd_T56 l0 x11_1).f2) = true
          ·rw [if_pos c17] at H
           have c17b0 : ((rd_T56 l0 x11_1).f2) = true := c17
           clear c17
           by_cases c18 : (wrap64 ((wrap64 (((rd_T56 l0 x11_1).f0) - ((rd_T56 l0 x11_1).f1))) + 1)) < 0
           ·rw [if_pos c18] at H
            have c18b0 : decide ((wrap64 ((wrap64 (((rd_T56 l0 x11_1).f0) - ((rd_T56 l0 x11_1).f1))) + 1)) < 0) = true := decide_eq_true c18
            clear c18
            obtain rfl := Option.some.inj H
            have hcz19_0 : wc.cell? ⟨gb49002, 0, none⟩ = some (.int .i64 ((rd_T56 l0 x11_1).f0)) := (blk_cell BK49002.out 0).trans rfl
            have hcz19_1 : wc.cell? ⟨gb49002, 1, none⟩ = some (.int .i64 ((rd_T56 l0 x11_1).f1)) := (blk_cell BK49002.out 1).trans rfl
            have hcz19_2 : wc.cell? ⟨gb49002, 2, none⟩ = some (.bool ((rd_T56 l0 x11_1).f2)) := (blk_cell BK49002.out 2).trans rfl
            have hfz19_0 := blk_frozen BK49002.out 0
            have hfz19_1 := blk_frozen BK49002.out 1
            have hfz19_2 := blk_frozen BK49002.out 2
            go_wp2
            go_ret
            exact ⟨by first | rfl | (simp [errW_none, errW_some] <;> rfl) | (simp [*, errW_none, errW_some] <;> rfl), by repeat (first | exact HB.out | apply below_alloc | apply pw_below_drewN | apply below_drew1 | refine below_set ?_ GE49002.out)⟩
           ·rw [if_neg c18] at H
            have c18b0 : decide ((wrap64 ((wrap64 (((rd_T56 l0 x11_1).f0) - ((rd_T56 l0 x11_1).f1))) + 1)) < 0) = false := decide_eq_false c18
            clear c18
            have H' := Aside0.mk H
            clear H
            have hcz20_0 : wc.cell? ⟨gb49002, 0, none⟩ = some (.int .i64 ((rd_T56 l0 x11_1).f0)) := (blk_cell BK49002.out 0).trans rfl
            have hcz20_1 : wc.cell? ⟨gb49002, 1, none⟩ = some (.int .i64 ((rd_T56 l0 x11_1).f1)) := (blk_cell BK49002.out 1).trans rfl
            have hcz20_2 : wc.cell? ⟨gb49002, 2, none⟩ = some (.bool ((rd_T56 l0 x11_1).f2)) := (blk_cell BK49002.out 2).trans rfl
            have hfz20_0 := blk_frozen BK49002.out 0
            have hfz20_1 := blk_frozen BK49002.out 1
            have hfz20_2 := blk_frozen BK49002.out 2
            go_wp2
            go_roundg kj5
            case measure => have := HK1.out; have := HJ5.out; omega
            case rel => exact ⟨(wrap64 (x3_1 + ((rd_T56 l0 x11_1).f1))), (wrap64 (x11_1 + 1)), (by first | rfl | (simp; done) | (simp [*]; done)), (by first | rfl | (simp; done) | (simp [*]; done)), H', ⟨by have := HK1.out; have := HJ5.out; omega⟩, ⟨by repeat (first | exact HB.out | apply below_alloc | apply pw_below_drewN | apply below_drew1 | refine below_set ?_ GE49002.out)⟩⟩
          ·rw [if_neg c17] at H
           have c17b0 : ((rd_T56 l0 x11_1).f2) = false := by simpa using c17
           clear c17
           by_cases c21 : (wrap64 (((rd_T56 l0 x11_1).f0) + ((rd_T56 l0 x11_1).f1))) > 17179869184
           ·rw [if_pos c21] at H
            have c21b0 : decide (17179869184 < (wrap64 (((rd_T56 l0 x11_1).f0) + ((rd_T56 l0 x11_1).f1)))) = true := decide_eq_true c21
            clear c21
            obtain rfl := Option.some.inj H
            have hcz22_0 : wc.cell? ⟨gb49002, 0, none⟩ = some (.int .i64 ((rd_T56 l0 x11_1).f0)) := (blk_cell BK49002.out 0).trans rfl
            have hcz22_1 : wc.cell? ⟨gb49002, 1, none⟩ = some (.int .i64 ((rd_T56 l0 x11_1).f1)) := (blk_cell BK49002.out 1).trans rfl
            have hcz22_2 : wc.cell? ⟨gb49002, 2, none⟩ = some (.bool ((rd_T56 l0 x11_1).f2)) := (blk_cell BK49002.out 2).trans rfl
            have hfz22_0 := blk_frozen BK49002.out 0
            have hfz22_1 := blk_frozen BK49002.out 1
            have hfz22_2 := blk_frozen BK49002.out 2
            go_wp2
            go_ret
            exact ⟨by first | rfl | (simp [errW_none, errW_some] <;> rfl) | (simp [*, errW_none, errW_some] <;> rfl), by repeat (first | exact HB.out | apply below_alloc | apply pw_below_drewN | apply below_drew1 | refine below_set ?_ GE49002.out)⟩
           ·rw [if_neg c21] at H
            have c21b0 : decide (17179869184 < (wrap64 (((rd_T56 l0 x11_1).f0) + ((rd_T56 l0 x11_1).f1)))) = false := decide_eq_false c21
            clear c21
            have H' := Aside0.mk H
            clear H
            have hcz23_0 : wc.cell? ⟨gb49002, 0, none⟩ = some (.int .i64 ((rd_T56 l0 x11_1).f0)) := (blk_cell BK49002.out 0).trans rfl
            have hcz23_1 : wc.cell? ⟨gb49002, 1, none⟩ = some (.int .i64 ((rd_T56 l0 x11_1).f1)) := (blk_cell BK49002.out 1).trans rfl
            have hcz23_2 : wc.cell? ⟨gb49002, 2, none⟩ = some (.bool ((rd_T56 l0 x11_1).f2)) := (blk_cell BK49002.out 2).trans rfl
            have hfz23_0 := blk_frozen BK49002.out 0
            have hfz23_1 := blk_frozen BK49002.out 1
            have hfz23_2 := blk_frozen BK49002.out 2
            go_wp2
            go_roundg kj5
            case measure => have := HK1.out; have := HJ5.out; omega
            case rel => exact ⟨(wrap64 (x3_1 + ((rd_T56 l0 x11_1).f1))), (wrap64 (x11_1 + 1)), (by first | rfl | (simp; done) | (simp [*]; done)), (by first | rfl | (simp; done) | (simp [*]; done)), H', ⟨by have := HK1.out; have := HJ5.out; omega⟩, ⟨by repeat (first | exact HB.out | apply below_alloc | apply pw_below_drewN | apply below_drew1 | refine below_set ?_ GE49002.out)⟩⟩
      ·rw [if_neg c5] at H
       exact absurd H (by simp)
     ·rw [if_neg c4] at H
      exact absurd H (by simp)
    ·rw [if_neg c3] at H
     have c3b0 : decide (x11_1 < (l0.length : Int)) = false := decide_eq_false c3
     clear c3
     by_cases c24 : x3_1 > 17179869184
     ·rw [if_pos c24] at H
      have c24b0 : decide (17179869184 < x3_1) = true := decide_eq_true c24
      clear c24
      obtain rfl := Option.some.inj H
      go_wp2
      go_ret
      exact ⟨by first | rfl | (simp [errW_none, errW_some] <;> rfl) | (simp [*, errW_none, errW_some] <;> rfl), by repeat (first | exact HB.out | apply below_alloc | apply pw_below_drewN | apply below_drew1)⟩
     ·rw [if_neg c24] at H
      have c24b0 : decide (17179869184 < x3_1) = false := decide_eq_false c24
      clear c24
      obtain rfl := Option.some.inj H
      go_wp2
      go_ret
      exact ⟨by first | rfl | (simp [errW_none, errW_some] <;> rfl) | (simp [*, errW_none, errW_some] <;> rfl), by repeat (first | exact HB.out | apply below_alloc | apply pw_below_drewN | apply below_drew1)⟩

end Go.Proofs.Ytjkakgkiikjdmaa.G

namespace Go.Proofs.Ytjkakgkiikjdmaa.G
open Go.RowKit Go.Proofs.YtjkakgkiikjdmaaW.PrintWords Go.Proofs.YtjkakgkiikjdmaaW.PrintLast Go.Proofs.YtjkakgkiikjdmaaW.PrintMore
attribute [local go_sem] max2_int min2_int max_two min_two max_three min_three max_four min_four   -- for this text's walks alone
set_option linter.unusedVariables false
set_option linter.unusedSimpArgs false

def iso_length.l0 : Nat → Int → List (S56) → Int → Int → Option (Int)
  | 0, _, _, _, _ => none
  | k + 1, x3, x6, x7, x8 => if x8 < x7 then (if 0 ≤ x8 then (if x8 < (x6.length : Int) then (iso_length.l0 k (wrap64 (x3 + ((rd_T56 x6 x8).f1))) x6 x7 (wrap64 (x8 + 1))) else (none)) else (none)) else (some x3)
def iso_length.f (k : Nat) (l0 : List (S56)) : Option (Int) := iso_length.l0 k 0 l0 (l0.length : Int) 0
theorem iso_length.mono_l : ∀ k, (∀ y0 y1 y2 y3, LeO (iso_length.l0 k y0 y1 y2 y3) (iso_length.l0 (k + 1) y0 y1 y2 y3))
  | 0 => fun _ _ _ _ r h => by simp [iso_length.l0] at h
  | k + 1 => by
    have ih0 := iso_length.mono_l k
    · intro y0 y1 y2 y3
      unfold iso_length.l0
      repeat' first
      | (with_reducible exact ih0 _ _ _ _)
      | (with_reducible exact LeO.refl _)
      | (with_reducible exact LeO.none _)
      | (with_reducible refine LeO.ite ?_ ?_)
      | (with_reducible refine LeO.bind ?_ (fun _ => ?_))
      | exact ih0 _ _ _ _
      | exact LeO.none _
      | refine LeO.ite ?_ ?_
      | refine LeO.bind ?_ (fun _ => ?_)
theorem iso_length.mono : ∀ a0 k, LeO (iso_length.f k a0) (iso_length.f (k + 1) a0) := by
  intro a0 k
  have ih0 := iso_length.mono_l k
  unfold iso_length.f
  repeat' first
      | (with_reducible exact ih0 _ _ _ _)
      | (with_reducible exact LeO.refl _)
      | (with_reducible exact LeO.none _)
      | (with_reducible refine LeO.ite ?_ ?_)
      | (with_reducible refine LeO.bind ?_ (fun _ => ?_))
      | exact ih0 _ _ _ _
      | exact LeO.none _
      | refine LeO.ite ?_ ?_
      | refine LeO.bind ?_ (fun _ => ?_)
set_option maxHeartbeats 8000000 in
set_option maxRecDepth 100000 in
theorem iso_length.calls (k : Nat) (A0 : Option Addr) (c0 : Nat) (l0 : List (S56)) (r : Int) (w : World) (hr0 : Kd.C k56 w A0 l0.length l0) (hc0 : l0.length ≤ c0) (h : iso_length.f k l0 = some r) :
    Calls Try.prog 49 #[.slice A0 l0.length c0] w fun e w' => e = .returned (.int .i64 r) ∧ Below w.heap.size w w' := by
  have hu56 := Try.underlying56
  have HR0 := Aside0.mk hr0
  have HC0 := Aside0.mk hc0
  clear hr0 hc0
  have HB := Aside0.mk (Below.refl w.heap.size w)
  have H : (iso_length.l0 k 0 l0 (l0.length : Int) 0) = some r := h
  clear h
  have H' := Aside0.mk H
  clear H
  go_enter Try.func49, Try.ntmps49
  go_wp2
  go_loopg [3, 8] k (fun kq v3 v8 w' => ∃ (x3_1 : Int) (x8_1 : Int), v3 = .int .i64 x3_1 ∧ v8 = .int .i64 x8_1 ∧ Aside0 (iso_length.l0 kq x3_1 l0 (l0.length : Int) x8_1 = some r) ∧ Aside0 (kq ≤ k) ∧ Aside0 (Below w.heap.size w w'))
  case atStart => exact ⟨(0), (0), (by first | rfl | (simp; done) | (simp [*]; done)), (by first | rfl | (simp; done) | (simp [*]; done)), H', ⟨Nat.le_refl _⟩, ⟨by repeat (first | exact HB.out | apply below_alloc | apply pw_below_drewN | apply below_drew1)⟩⟩
  case round =>
    clear H'
    obtain ⟨x3_1, x8_1, rfl, rfl, HA, HK1, HB⟩ := hrel
    cases gk with
    | zero => exact absurd HA.out (by simp [iso_length.l0])
    | succ k1 =>
      have H := HA.out
      clear HA
      simp only [iso_length.l0] at H
      by_cases c2 : x8_1 < (l0.length : Int)
      · rw [if_pos c2] at H
        have c2b0 : decide (x8_1 < (l0.length : Int)) = true := decide_eq_true c2
        clear c2
        by_cases c3 : 0 ≤ x8_1
        · rw [if_pos c3] at H
          have c3b0 : decide (0 ≤ x8_1) = true := decide_eq_true c3
          clear c3
          by_cases c4 : x8_1 < (l0.length : Int)
          · rw [if_pos c4] at H
            have c4b0 : decide (x8_1 < (l0.length : Int)) = true := decide_eq_true c4
            clear c4
            have H' := Aside0.mk H
            clear H
            have p50001 : 0 ≤ (x8_1 : Int) := of_decide_eq_true (by assumption)
            have q50001 : x8_1 < (l0.length : Int) := of_decide_eq_true (by assumption)
            obtain ⟨ad50001, e50001, hx50001_0, hx50001_1, hx50001_2⟩ := at_T56 HR0.out x8_1 p50001 q50001
            cases e50001
            replace hx50001_0 := (HB.out.cell (World.block_lt_of_cell? w _ hx50001_0)).trans hx50001_0
            replace hx50001_1 := (HB.out.cell (World.block_lt_of_cell? w _ hx50001_1)).trans hx50001_1
            replace hx50001_2 := (HB.out.cell (World.block_lt_of_cell? w _ hx50001_2)).trans hx50001_2
            replace p50001 := eq_true p50001
            replace q50001 := eq_true q50001
            go_wp2_with (first | ((with_reducible refine gate_dst (N := 5) rfl ?_); refine box_event ?hg (N := 5) ?hd (cs := #[.int .i64 0, .int .i64 0, .bool false]) (t := 56) ?hr ?_; (case hd => rfl); (case hg => rfl); (case hr => first | (go_simp; done) | (go_simp; rfl)); intro gb50002 hg w5 hbox hb; have n0_ := Aside0.mk (below_step (by repeat (first | exact HB.out | apply below_alloc | apply pw_below_drewN | apply below_drew1)) hb); have n1_ := Aside0.mk (hbox); have n2_ := Aside0.mk ((by rw [hg]; exact (below_size (by repeat (first | exact HB.out | apply below_alloc | apply pw_below_drewN | apply below_drew1))) : w.heap.size ≤ gb50002)); have n3_ := Aside0.mk ((by rw [hg]; exact (below_size (by repeat (first | exact HB.out | apply below_alloc | apply pw_below_drewN | apply below_drew1))) : w.heap.size ≤ gb50002)); clear HB; have HB := n0_; have BK50002 := n1_; have GW50002 := n2_; have GE50002 := n3_; clear n0_ n1_ n2_ n3_; clear hb hbox hg; have hcz6_0 : w5.cell? ⟨gb50002, 0, none⟩ = some (.int .i64 0) := (blk_cell BK50002.out 0).trans rfl; have hcz6_1 : w5.cell? ⟨gb50002, 1, none⟩ = some (.int .i64 0) := (blk_cell BK50002.out 1).trans rfl; have hcz6_2 : w5.cell? ⟨gb50002, 2, none⟩ = some (.bool false) := (blk_cell BK50002.out 2).trans rfl; have hfz6_0 := blk_frozen BK50002.out 0; have hfz6_1 := blk_frozen BK50002.out 1; have hfz6_2 := blk_frozen BK50002.out 2))
            go_roundg k1
            case measure => have := HK1.out; omega
            case rel => exact ⟨(wrap64 (x3_1 + ((rd_T56 l0 x8_1).f1))), (wrap64 (x8_1 + 1)), (by first | rfl | (simp; done) | (simp [*]; done)), (by first | rfl | (simp; done) | (simp [*]; done)), H', ⟨by have := HK1.out; omega⟩, ⟨by repeat (first | exact HB.out | apply below_alloc | apply pw_below_drewN | apply below_drew1 | refine below_set ?_ GE50002.out)⟩⟩
          · rw [if_neg c4] at H
            exact absurd H (by simp)
        · rw [if_neg c3] at H
          exact absurd H (by simp)
      · rw [if_neg c2] at H
        have c2b0 : decide (x8_1 < (l0.length : Int)) = false := decide_eq_false c2
        clear c2
        obtain rfl := Option.some.inj H
        go_wp2
        go_ret
        exact ⟨by first | rfl | (simp [errW_none, errW_some] <;> rfl) | (simp [*, errW_none, errW_some] <;> rfl), by repeat (first | exact HB.out | apply below_alloc | apply pw_below_drewN | apply below_drew1)⟩

end Go.Proofs.Ytjkakgkiikjdmaa.G

namespace Go.Proofs.Ytjkakgkiikjdmaa.G
open Go.RowKit Go.Proofs.YtjkakgkiikjdmaaW.PrintWords Go.Proofs.YtjkakgkiikjdmaaW.PrintLast Go.Proofs.YtjkakgkiikjdmaaW.PrintMore
set_option linter.unusedVariables false
set_option linter.unusedSimpArgs false
theorem rdR (l : List S56) (i : Nat) (h : i < l.length) : rd_T56 l i = l[i] := by simp [rd_T56, List.getD_eq_getElem?_getD, List.getElem?_eq_getElem h]
theorem dropR (l : List S56) (i : Nat) (h : i < l.length) : l.drop i = rd_T56 l i :: l.drop (i + 1) := by rw [rdR l i h]; exact List.drop_eq_getElem_cons h
def badR (r : S56) : Prop := r.f1 < 1 ∨ r.f1 > 17179869184 ∨ r.f0 < 0 ∨ r.f0 ≥ 17179869184 ∨ (r.f2 = true ∧ r.f0 - r.f1 + 1 < 0) ∨ (r.f2 = false ∧ r.f0 + r.f1 > 17179869184)
instance (r : S56) : Decidable (badR r) := by unfold badR; infer_instance
def anyBad (l : List S56) : Bool := l.any fun r => decide (badR r)
def check13 (l : List S56) : Int := if l.length > 256 then 8 else if anyBad l = true then 1 else if tot13 l > 17179869184 then 21 else 0
def fitR (r : S56) : Prop := 0 ≤ r.f0 ∧ r.f0 ≤ 17179869184 ∧ 1 ≤ r.f1 ∧ r.f1 ≤ 17179869184
theorem fit_of {r : S56} (h : ¬ badR r) : fitR r := by unfold badR at h; unfold fitR; omega
theorem check13_zero {l : List S56} (h : check13 l = 0) : l.length ≤ 256 ∧ (∀ r ∈ l, ¬ badR r) ∧ tot13 l ≤ 17179869184 := by
  unfold check13 at h
  split at h
  · cases h
  · split at h
    · cases h
    · split at h
      · cases h
      · rename_i h1 h2 h3; exact ⟨by omega, fun s hs k => h2 (List.any_eq_true.mpr ⟨s, hs, by simpa using k⟩), by omega⟩
theorem anyBad_cons (r : S56) (l : List S56) : anyBad (r :: l) = (decide (badR r) || anyBad l) := by simp [anyBad]
theorem icheck_j1 (l : List S56) (n i b q : Int) (r : S56) (z : Bool) (hz : z = decide (r.f1 < 1 ∨ r.f1 > 17179869184 ∨ r.f0 < 0 ∨ r.f0 ≥ 17179869184)) (h : ¬ badR r → Ends (fun k => iso_Check.l0 k (wrap64 (n + r.f1)) l i (wrap64 (b + 1))) q) (h1 : badR r → q = 1) :
    Ends (fun k => iso_Check.j1 k n l i b z r.f0 r.f1 r.f2) q := by
  refine Ends.succ ?_
  simp only [iso_Check.j1]
  by_cases hb : r.f1 < 1 ∨ r.f1 > 17179869184 ∨ r.f0 < 0 ∨ r.f0 ≥ 17179869184
  · have e : z = true := by rw [hz]; simpa using hb
    rw [h1 (by unfold badR; omega)]
    exact Ends.pos e (Ends.ret _)
  · have e : ¬ z = true := by rw [hz]; simpa using hb
    refine Ends.neg e ?_
    cases hf : r.f2 with
    | true =>
      have ew : wrap64 (wrap64 (r.f0 - r.f1) + 1) = r.f0 - r.f1 + 1 := by
        have : wrap64 (r.f0 - r.f1) = r.f0 - r.f1 := by unfold wrap64; omega
        rw [this]; unfold wrap64; omega
      refine Ends.pos rfl ?_
      rw [ew]
      by_cases hc : r.f0 - r.f1 + 1 < 0
      · rw [h1 (by unfold badR; simp [hf]; omega)]
        exact Ends.pos hc (Ends.ret _)
      · exact Ends.neg hc (h (by unfold badR; simp [hf]; omega))
    | false =>
      have ew : wrap64 (r.f0 + r.f1) = r.f0 + r.f1 := by unfold wrap64; omega
      refine Ends.neg (by simp) ?_
      rw [ew]
      by_cases hc : r.f0 + r.f1 > 17179869184
      · rw [h1 (by unfold badR; simp [hf]; omega)]
        exact Ends.pos hc (Ends.ret _)
      · exact Ends.neg hc (h (by unfold badR; simp [hf]; omega))
theorem icheck_l0 (l : List S56) (hl : l.length ≤ 256) : ∀ (d i : Nat) (n : Int), l.length - i = d → i ≤ l.length → 0 ≤ n → n ≤ i * 17179869184 → Ends (fun k => iso_Check.l0 k n l (l.length : Int) (i : Int)) (if anyBad (l.drop i) = true then 1 else if n + tot13 (l.drop i) > 17179869184 then 21 else 0) := by
  intro d
  induction d with
  | zero =>
    intro i n hd hi h0 h1
    refine Ends.succ ?_
    simp only [iso_Check.l0]
    rw [List.drop_of_length_le (by omega)]
    refine Ends.neg (by omega) ?_
    by_cases hn : n > 17179869184
    · exact Ends.pos hn ((Ends.ret 21).congr (by rw [if_neg (by simp [anyBad]), if_pos (by simpa [tot13] using hn)]))
    · exact Ends.neg hn ((Ends.ret 0).congr (by rw [if_neg (by simp [anyBad]), if_neg (by simpa [tot13] using hn)]))
  | succ d ih =>
    intro i n hd hi h0 h1
    refine Ends.succ ?_
    rw [dropR l i (by omega)]
    simp only [iso_Check.l0]
    generalize rd_T56 l (i : Int) = r
    have key : ∀ z : Bool, z = decide (r.f1 < 1 ∨ r.f1 > 17179869184 ∨ r.f0 < 0 ∨ r.f0 ≥ 17179869184) → Ends (fun k => iso_Check.j1 k n l (l.length : Int) (i : Int) z r.f0 r.f1 r.f2) (if anyBad (r :: l.drop (i + 1)) = true then 1 else if n + tot13 (r :: l.drop (i + 1)) > 17179869184 then 21 else 0) := fun z hz => by
      refine icheck_j1 l n _ _ _ r z hz (fun hg => ?_) (fun hb => ?_)
      · have hf := fit_of hg
        unfold fitR at hf
        have ew : wrap64 (n + r.f1) = n + r.f1 := by unfold wrap64; omega
        rw [ew, wrap_nat i (by omega)]
        refine (ih (i + 1) (n + r.f1) (by omega) (by omega) (by omega) (by omega)).congr ?_
        rw [tot13_cons, ← Int.add_assoc]
        rw [anyBad_cons, show decide (badR r) = false by simpa using hg, Bool.false_or]
      · rw [if_pos (by rw [anyBad_cons, show decide (badR r) = true by simpa using hb]; rfl)]
    refine Ends.pos (by omega) (Ends.pos (by omega) (Ends.pos (by omega) ?_))
    by_cases c1 : r.f1 < 1
    · exact Ends.pos c1 (key true (by simp [c1]))
    · refine Ends.neg c1 ?_
      by_cases c2 : r.f1 > 17179869184
      · exact Ends.pos c2 (key true (by simp [c2]))
      · refine Ends.neg c2 ?_
        by_cases c3 : r.f0 < 0
        · exact Ends.pos c3 (key true (by simp [c3]))
        · exact Ends.neg c3 (key _ (by simp [c1, c2, c3]))
theorem icheck_ends (l : List S56) : Ends (fun k => iso_Check.f k l) (check13 l) := by
  unfold iso_Check.f check13
  by_cases h : l.length > 256
  · rw [if_pos h]; exact Ends.pos (by omega) (Ends.ret _)
  · rw [if_neg h]
    refine Ends.neg (by omega) ((icheck_l0 l (by omega) _ 0 0 rfl (by omega) (by omega) (by omega)).congr ?_)
    simp
theorem ilength_l0 (l : List S56) (hl : l.length ≤ 65536) (hv : ∀ r ∈ l, 0 ≤ r.f1 ∧ r.f1 ≤ 17179869184) : ∀ (d i : Nat) (n : Int), l.length - i = d → i ≤ l.length → 0 ≤ n → n ≤ i * 17179869184 → Ends (fun k => iso_length.l0 k n l (l.length : Int) (i : Int)) (n + tot13 (l.drop i)) := by
  intro d
  induction d with
  | zero =>
    intro i n hd hi h0 h1
    refine Ends.succ ?_
    simp only [iso_length.l0]
    rw [List.drop_of_length_le (by omega)]
    exact Ends.neg (by omega) ((Ends.ret _).congr (by simp [tot13]))
  | succ d ih =>
    intro i n hd hi h0 h1
    refine Ends.succ ?_
    have hx := hv (rd_T56 l (i : Int)) (by rw [rdR l i (by omega)]; exact List.getElem_mem _)
    rw [dropR l i (by omega), tot13_cons]
    simp only [iso_length.l0, wrap_nat i (by omega)]
    generalize rd_T56 l (i : Int) = r at *
    have ew : wrap64 (n + r.f1) = n + r.f1 := by unfold wrap64; omega
    rw [ew]
    exact Ends.pos (by omega) (Ends.pos (by omega) (Ends.pos (by omega) ((ih (i + 1) (n + r.f1) (by omega) (by omega) (by omega) (by omega)).congr (by rw [Int.add_assoc]))))
theorem ilength_ends (l : List S56) (hl : l.length ≤ 65536) (hv : ∀ r ∈ l, 0 ≤ r.f1 ∧ r.f1 ≤ 17179869184) : Ends (fun k => iso_length.f k l) (tot13 l) := by
  unfold iso_length.f
  exact (ilength_l0 l hl hv _ 0 0 rfl (by omega) (by omega) (by omega)).congr (by simp)
end Go.Proofs.Ytjkakgkiikjdmaa.G

namespace Go.Proofs.Ytjkakgkiikjdmaa.G
open Go.RowKit Go.Proofs.YtjkakgkiikjdmaaW.PrintWords Go.Proofs.YtjkakgkiikjdmaaW.PrintLast Go.Proofs.YtjkakgkiikjdmaaW.PrintMore
attribute [local go_sem] max2_int min2_int max_two min_two max_three min_three max_four min_four   -- for this text's walks alone
set_option linter.unusedVariables false
set_option linter.unusedSimpArgs false
def okPce (r : S56) : Prop := 0 ≤ r.f0 ∧ r.f0 ≤ 17179869184 ∧ r.f1 ≤ 17179869184
def inB (B : Int) (t : S56) : Prop := -1 ≤ t.f0 ∧ t.f0 ≤ 17179869185 ∧ 1 ≤ t.f1 ∧ t.f1 ≤ B
theorem addR_in (r : S56) (h : okPce r) (h1 : 1 ≤ r.f1) (B : Int) (hB : 0 ≤ B) : ∀ l : List S56, (∀ t ∈ l, inB B t) → ∀ t ∈ addR r l, inB (B + 17179869184) t := by
  obtain ⟨a, b, c⟩ := h
  intro l hl
  have grow : ∀ t ∈ l, inB (B + 17179869184) t := fun t ht => by have := hl t ht; unfold inB at *; omega
  have h0 : inB (B + 17179869184) (partR r 0 r.f1) := by unfold inB partR img; dsimp only; split <;> omega
  match l with
  | [] => intro t ht; simp only [addR, List.mem_singleton] at ht; rw [ht]; exact h0
  | t :: d =>
    intro u hu
    have ht := hl t (by simp)
    unfold inB at ht
    simp only [addR] at hu
    split at hu
    · split at hu
      · simp only [List.mem_cons] at hu
        rcases hu with rfl | rfl | hu
        · rename_i hc; have := hc.1; unfold inB partR img; dsimp only; split <;> omega
        · unfold inB; dsimp only; omega
        · exact grow u (by simp [hu])
      · simp only [List.mem_cons] at hu
        rcases hu with rfl | hu
        · unfold inB; dsimp only; omega
        · exact grow u (by simp [hu])
    · simp only [List.mem_cons] at hu
      rcases hu with rfl | hu
      · exact h0
      · exact grow u (by simpa using hu)
theorem addOf_in (l : List S56) (r : S56) (h : okPce r) (B : Int) (hB : 0 ≤ B) (hl : ∀ t ∈ l, inB B t) : ∀ t ∈ addOf l r, inB (B + 17179869184) t := by
  unfold addOf
  split
  · intro t ht; have := hl t ht; unfold inB at *; omega
  · intro t ht
    exact addR_in r h (by omega) B hB l.reverse (fun t ht => hl t (by simpa using ht)) t (by simpa using ht)
theorem fold_in (ps : List S56) : ∀ (l : List S56) (B : Int), 0 ≤ B → (∀ t ∈ l, inB B t) → (∀ r ∈ ps, okPce r) → ∀ t ∈ ps.foldl addOf l, inB (B + ps.length * 17179869184) t := by
  induction ps with
  | nil => intro l B hB hl _ t ht; simpa using hl t ht
  | cons r ps ih =>
    intro l B hB hl hp t ht
    have := ih (addOf l r) (B + 17179869184) (by omega) (addOf_in l r (hp r (by simp)) B hB hl) (fun x hx => hp x (by simp [hx])) t ht
    unfold inB at *
    simp only [List.length_cons]
    omega
def BInv (g : Nat) (ps : List S56) (W : World) : Prop := (∀ r ∈ ps, okPce r) ∧ ∃ v, Bld g v (ps.foldl addOf []) W
def BDirty (g : Nat) (W : World) (k : Nat) : Prop := k = g ∨ ∃ v, W.cell? ⟨g, 0, none⟩ = some v ∧ v.ownBlock = some k
theorem Bld.cell {g : Nat} {v : Value} {l : List S56} {W : World} (h : Bld g v l W) : W.cell? ⟨g, 0, none⟩ = some v := blk_cell h.c 0
theorem BInv.dirty {g : Nat} : ∀ ps W k, BInv g ps W → BDirty g W k → k < W.heap.size := by
  rintro ps W k ⟨_, v, hB⟩ (rfl | ⟨u, hu, hk⟩)
  · exact hB.lt
  · rw [hB.cell] at hu
    cases hu
    exact (hB.base hk).2
theorem BInv.mono {g : Nat} : ∀ ps W W', BInv g ps W → Below W.heap.size W W' → BInv g ps W' ∧ ∀ k, BDirty g W' k → BDirty g W k := by
  rintro ps W W' ⟨h1, v, hB⟩ hb
  refine ⟨⟨h1, v, hB.below hb⟩, ?_⟩
  rintro k (rfl | ⟨u, hu, hk⟩)
  · exact .inl rfl
  · rw [(hB.below hb).cell] at hu
    cases hu
    exact .inr ⟨v, hB.cell, hk⟩
theorem BInv.step {g : Nat} : ∀ ps r W, ps.length < 65536 → BInv g ps W → okPce r → Calls Try.prog 51 #[.pointer (some ⟨g, 0, none⟩), .agg #[.int .i64 r.f0, .int .i64 r.f1, .bool r.f2]] W fun e W' => e = .returned (.tuple #[]) ∧ BInv g (ps ++ [r]) W' ∧ Below g W W' ∧ ∀ X o, W.heap[X]? = some o → ¬ BDirty g W X → W'.heap[X]? = some o := by
  rintro ps r W hn ⟨h1, v, hB⟩ hr
  have hin := fold_in ps [] 0 (by omega) (by simp) h1
  have hlen := addAll_len ps []
  simp only [List.length_nil] at hlen
  refine (add_main g v _ r W hB ⟨by have := hr.1; omega, by have := hr.2.1; omega, by have := hr.2.2; omega⟩ (by omega) (fun t ht => by have := hin t ht; unfold inB at this; omega)).mono ?_
  rintro e W' ⟨rfl, ⟨v', hB', hO⟩, hb, hk⟩
  refine ⟨rfl, ⟨fun x hx => ?_, v', by rw [List.foldl_append]; exact hB'⟩, hb, fun X o hX hd => hk X o hX (fun e => hd (.inl e)) (fun e => hd (.inr ⟨v, hB.cell, e⟩))⟩
  rcases List.mem_append.mp hx with hx | hx
  · exact h1 x hx
  · rw [List.mem_singleton.mp hx]; exact hr
def BRun (g : Nat) (w1 : World) (ps : List S56) (W : World) : Prop := BInv g ps W ∧ Below g w1 W
theorem BInv.glt {g : Nat} {ps : List S56} {W : World} (h : BInv g ps W) : g < W.heap.size := by obtain ⟨_, v, hB⟩ := h; exact hB.lt
theorem BRun.dirty {g : Nat} {w1 : World} : ∀ ps W k, BRun g w1 ps W → BDirty g W k → k < W.heap.size := fun ps W k h => BInv.dirty ps W k h.1
theorem BRun.mono {g : Nat} {w1 : World} : ∀ ps W W', BRun g w1 ps W → Below W.heap.size W W' → BRun g w1 ps W' ∧ ∀ k, BDirty g W' k → BDirty g W k := fun ps W W' h hb =>
  have h2 := BInv.mono ps W W' h.1 hb
  ⟨⟨h2.1, h.2.trans (hb.mono (Nat.le_of_lt h.1.glt))⟩, h2.2⟩
theorem BRun.step {g : Nat} {w1 : World} : ∀ ps r W, ps.length < 65536 → BRun g w1 ps W → okPce r → Calls Try.prog 51 #[.pointer (some ⟨g, 0, none⟩), .agg #[.int .i64 r.f0, .int .i64 r.f1, .bool r.f2]] W fun e W' => e = .returned (.tuple #[]) ∧ BRun g w1 (ps ++ [r]) W' ∧ Below g W W' ∧ ∀ X o, W.heap[X]? = some o → ¬ BDirty g W X → W'.heap[X]? = some o := by
  intro ps r W hn h hr
  refine (BInv.step ps r W hn h.1 hr).mono ?_
  rintro e W' ⟨rfl, h1, h2, h3⟩
  exact ⟨rfl, ⟨h1, h.2.trans h2⟩, h2, h3⟩
theorem BInv.new (w : World) : BInv w.heap.size [] (w.alloc (.cells #[.slice none 0 0] 66)) := ⟨by simp, .slice none 0 0, World.alloc_heap_new w _, Kd.R_nil _ _ _ _ _⟩
theorem okPce_part {r : S56} (h : ¬ badR r) (a n : Int) (h0 : 0 ≤ a) (h1 : 1 ≤ n) (h2 : a + n ≤ r.f1) : okPce (partR r a n) := by
  unfold badR at h
  unfold okPce partR img
  cases hf : r.f2 <;> simp [hf] at h ⊢ <;> omega
theorem okPce_rev {r : S56} (h : ¬ badR r) : okPce (revR r) := by
  unfold badR at h
  unfold okPce revR img
  cases hf : r.f2 <;> simp [hf] at h ⊢ <;> omega
set_option maxRecDepth 100000 in
set_option maxHeartbeats 4000000 in
theorem done_calls (g : Nat) (v : Value) (l : List S56) (w : World) (hB : Bld g v l w) (hl : l.length ≤ 1000000) :
    Calls Try.prog 52 #[.pointer (some ⟨g, 0, none⟩)] w fun e w' => e = .returned (if l.length > 256 then .tuple #[.slice none 0 0, .int .i64 8] else .tuple #[v, .int .i64 0]) ∧ w' = w := by
  obtain ⟨A, c, rfl, _, _⟩ := Kd.R_reads hB.o
  have hq := hB.cell
  by_cases h : l.length > 256
  · have hd : decide ((256 : Int) < (l.length : Int)) = true := decide_eq_true (by omega)
    rw [if_pos h]
    clear hB h
    go_enter Try.func52, Try.ntmps52
    go_wp2
    refine bodyPost_ret (results_tmp2 rfl _ _ _) rfl ?_
    exact ⟨rfl, rfl⟩
  · have hd : decide ((256 : Int) < (l.length : Int)) = false := decide_eq_false (by omega)
    rw [if_neg h]
    clear hB h
    go_enter Try.func52, Try.ntmps52
    go_wp2
    refine bodyPost_ret (results_tmp2 rfl _ _ _) rfl ?_
    exact ⟨rfl, rfl⟩
end Go.Proofs.Ytjkakgkiikjdmaa.G

namespace Go.Proofs.Ytjkakgkiikjdmaa.G
open Go.RowKit Go.Proofs.YtjkakgkiikjdmaaW.PrintWords Go.Proofs.YtjkakgkiikjdmaaW.PrintLast Go.Proofs.YtjkakgkiikjdmaaW.PrintMore
attribute [local go_sem] max2_int min2_int max_two min_two max_three min_three max_four min_four   -- for this text's walks alone
set_option linter.unusedVariables false
set_option linter.unusedSimpArgs false
theorem part_fold (l : List S56) (h : check13 l = 0) (f t : Int) : ([] ++ pieces l 0 f t).foldl addOf [] = nrm (((sem l).take t.toNat).drop f.toNat) := by
  have hg := (check13_zero h).2.1
  rw [List.nil_append, addAll _ (pieces_pos l 0 f t), sem_pieces l 0 f t (fun r hr => (fit_of (hg r hr)).2.2.1), Int.sub_zero, Int.sub_zero]
theorem part_len (l : List S56) (f t : Int) : (([] ++ pieces l 0 f t).foldl addOf []).length ≤ l.length := by
  have := addAll_len ([] ++ pieces l 0 f t) []
  have := pieces_len l 0 f t
  simp only [List.nil_append, List.length_nil] at *
  omega
theorem rev_fold (l : List S56) (h : check13 l = 0) : ([] ++ revL l).foldl addOf [] = nrm (sem l).reverse := by
  have hg := (check13_zero h).2.1
  rw [List.nil_append, addAll _ (revL_pos l (fun r hr => (fit_of (hg r hr)).2.2.1)), sem_rev l (fun r hr => (fit_of (hg r hr)).2.2.1)]
theorem sem_tot {l : List S56} (h : check13 l = 0) : ((sem l).length : Int) = tot13 l := sem_len l (fun r hr => by have := (fit_of ((check13_zero h).2.1 r hr)).2.2.1; omega)
theorem tot_nonneg {l : List S56} (h : check13 l = 0) : 0 ≤ tot13 l := by rw [← sem_tot h]; omega
theorem done_few (g : Nat) (ps : List S56) (w : World) (hI : BInv g ps w) (hl : (ps.foldl addOf []).length ≤ 256) :
    Calls Try.prog 52 #[.pointer (some ⟨g, 0, none⟩)] w fun e w' => ∃ v, e = .returned (.tuple #[v, .int .i64 0]) ∧ Kd.R k56 56 w' g (fun _ => True) v (ps.foldl addOf []) ∧ w' = w := by
  obtain ⟨_, v, hB⟩ := hI
  refine (done_calls g v _ w hB (by omega)).mono ?_
  rintro e w' ⟨rfl, rfl⟩
  rw [if_neg (by omega)]
  exact ⟨v, rfl, Kd.R_mono hB.o (fun _ _ => trivial), rfl⟩
def normOf (l : List S56) : List S56 × Int := if check13 l = 0 then (nrm (sem l), 0) else ([], check13 l)
def iso_Norm.f (l0 : List S56) : Option (List S56 × Int) := some (normOf l0)
set_option maxRecDepth 100000 in
set_option maxHeartbeats 8000000 in
theorem norm_main (A0 : Option Addr) (c0 : Nat) (l : List S56) (w : World) (hr : Kd.C k56 w A0 l.length l) (hc : l.length ≤ c0) :
    Calls Try.prog 41 #[.slice A0 l.length c0] w fun e w' => ∃ v, e = .returned (.tuple #[v, .int .i64 (normOf l).2]) ∧ Kd.R k56 56 w' w.heap.size (fun _ => True) v (normOf l).1 ∧ Below w.heap.size w w' := by
  have HR := Aside0.mk hr
  have HC := Aside0.mk hc
  clear hr hc
  obtain ⟨k1, hk1⟩ := (icheck_ends l).get
  unfold normOf
  by_cases h0 : check13 l = 0
  · obtain ⟨hl, hg, ht⟩ := check13_zero h0
    have hfit : ∀ r ∈ l, fitR r := fun r hr => fit_of (hg r hr)
    obtain ⟨k2, hk2⟩ := (ilength_ends l (by omega) (fun r hr => by have := hfit r hr; unfold fitR at this; omega)).get
    have HK2 := Aside0.mk hk2
    rw [h0] at hk1
    have HK1 := Aside0.mk hk1
    have HLL := Aside0.mk hl
    have HFI := Aside0.mk (show ∀ r ∈ l, 0 ≤ r.f0 ∧ r.f0 ≤ 17179869184 ∧ 1 ≤ r.f1 ∧ r.f1 ≤ 17179869184 from hfit)
    have HG := Aside0.mk hg
    have hT := Aside0.mk (show 0 ≤ tot13 l ∧ tot13 l ≤ 1099511627776 by have := tot_nonneg h0; omega)
    have HE := Aside0.mk (show ([] ++ pieces l 0 0 (tot13 l)).foldl addOf [] = nrm (sem l) by rw [part_fold l h0, ← sem_tot h0]; simp)
    have HEL := Aside0.mk (show (([] ++ pieces l 0 0 (tot13 l)).foldl addOf []).length ≤ 256 by have := part_len l 0 (tot13 l); omega)
    rw [if_pos h0]
    clear hk1 hk2 h0 hl hg ht hfit
    generalize tot13 l = T at *
    go_enter Try.func41, Try.ntmps41
    go_wp2_with (first | (go_at_call 48; (with_reducible refine (iso_Check.calls k1 A0 c0 l 0 _ HR.out HC.out HK1.out).mono ?_); rintro e w1 ⟨rfl, hb⟩; have HB1 := Aside0.mk hb; have HR1 := Aside0.mk (Kd.C_below HR.out hb); clear hb) | (go_at_call 49; (with_reducible refine (iso_length.calls k2 A0 c0 l T _ (Kd.C_alloc HR1.out _) HC.out HK2.out).mono ?_); rintro e w3 ⟨rfl, hb⟩; have HB3 := Aside0.mk (((Below.refl w1.heap.size w1).alloc (Nat.le_refl _) (.cells #[.slice none 0 0] 66)).trans (hb.mono (by simp))); have HI3 := Aside0.mk (BInv.mono _ _ _ (BInv.new w1) hb).1; clear hb) | (go_at_call 50; (with_reducible refine (each_add w1.heap.size 65536 (BInv w1.heap.size) okPce (BDirty w1.heap.size) BInv.dirty BInv.mono BInv.step A0 c0 l 0 T [] w1 w3 HR1.out HC.out (Nat.le_refl _) HB3.out HI3.out (by have := HLL.out; simp; omega) (by have := HLL.out; omega) HFI.out (by omega) hT.out (fun r hr a n h1 h2 h3 => okPce_part (HG.out r hr) a n h1 h2 h3)).mono ?_); rintro e w4 ⟨rfl, hi, hb⟩; have HI4 := Aside0.mk hi; have HB4 := Aside0.mk hb; clear hi hb) | (go_at_call 52; (with_reducible refine (done_few w1.heap.size _ w4 HI4.out HEL.out).mono ?_); rintro e w5 ⟨v, rfl, ho, rfl⟩; have HO := Aside0.mk ho; clear ho))
    refine bodyPost_ret (results_tmp2 rfl _ _ _) rfl ?_
    exact ⟨v, rfl, by rw [← HE.out]; exact Kd.R_lower HO.out HB1.out.size, HB1.out.trans (HB4.out.mono HB1.out.size)⟩
  · have HK1 := Aside0.mk hk1
    have hne : (check13 l == 0) = false := by simpa using h0
    have hne1 : (check13 l != 0) = true := by simpa using h0
    rw [if_neg h0]
    clear hk1 h0
    generalize check13 l = q at *
    go_enter Try.func41, Try.ntmps41
    go_wp2_with (go_at_call 48; (with_reducible refine (iso_Check.calls k1 A0 c0 l q _ HR.out HC.out HK1.out).mono ?_); rintro e w1 ⟨rfl, hb⟩; have HB1 := Aside0.mk hb; clear hb)
    refine bodyPost_ret (results_tmp2 rfl _ _ _) rfl ?_
    exact ⟨_, rfl, Kd.R_nil _ _ _ _ _, HB1.out⟩
theorem iso_Norm.calls (A0 : Option Addr) (c0 : Nat) (l0 : List (S56)) (r1 : List (S56)) (r2 : Int) (w : World) (hr0 : Kd.C k56 w A0 l0.length l0) (hc0 : l0.length ≤ c0) (h : iso_Norm.f l0 = some (r1, r2)) :
    Calls Try.prog 41 #[.slice A0 l0.length c0] w fun e w' => ∃ v0_ : Value, e = .returned (.tuple #[v0_, .int .i64 r2]) ∧ Kd.R k56 56 w' w.heap.size (fun _ => True) v0_ r1 ∧ Below w.heap.size w w' := by
  have e : normOf l0 = (r1, r2) := Option.some.inj h
  have := norm_main A0 c0 l0 w hr0 hc0
  rw [e] at this
  exact this
end Go.Proofs.Ytjkakgkiikjdmaa.G

namespace Go.Proofs.Ytjkakgkiikjdmaa.G
open Go.RowKit Go.Proofs.YtjkakgkiikjdmaaW.PrintWords Go.Proofs.YtjkakgkiikjdmaaW.PrintLast Go.Proofs.YtjkakgkiikjdmaaW.PrintMore
attribute [local go_sem] max2_int min2_int max_two min_two max_three min_three max_four min_four   -- for this text's walks alone
set_option linter.unusedVariables false
set_option linter.unusedSimpArgs false

theorem eqA56 (d : Nat) (w : World) (x0 y0 : Int) (x1 y1 : Int) (x2 y2 : Bool) :
    (Op.equalIn (d + 2) 56 (.agg #[.int .i64 x0, .int .i64 x1, .bool x2]) (.agg #[.int .i64 y0, .int .i64 y1, .bool y2])).run Try.prog w = .ok (x0 == y0 && (x1 == y1 && (x2 == y2))) w := by
  refine eqA_of Try.underlying56 (by kernel_rfl) ?_
  refine eqf_cons (by rfl) (by go_simp; rfl) (by go_simp; rfl) (by go_simp) ?_
  refine eqf_cons (by rfl) (by go_simp; rfl) (by go_simp; rfl) (by go_simp) ?_
  exact eqf_last (by rfl) (by go_simp; rfl) (by go_simp; rfl) (by go_simp)
end Go.Proofs.Ytjkakgkiikjdmaa.G

namespace Go.Proofs.Ytjkakgkiikjdmaa.G
open Go.RowKit Go.Proofs.YtjkakgkiikjdmaaW.PrintWords Go.Proofs.YtjkakgkiikjdmaaW.PrintLast Go.Proofs.YtjkakgkiikjdmaaW.PrintMore
attribute [local go_sem] max2_int min2_int max_two min_two max_three min_three max_four min_four   -- for this text's walks alone
set_option linter.unusedVariables false
set_option linter.unusedSimpArgs false

attribute [local go_sem high] eqA56
def papermillref13_Same.l0 : Nat → List (S56) → List (S56) → Int → Option (Bool)
 | 0, _, _, _ => none
 | k + 1, x0, x1, x5 => if x5 < (x0.length : Int) then (if 0 ≤ x5 then (if x5 < (x1.length : Int) then (if (!(((rd_T56 x0 x5).f0) == ((rd_T56 x1 x5).f0)) || (!(((rd_T56 x0 x5).f1) == ((rd_T56 x1 x5).f1)) || (!(((rd_T56 x0 x5).f2) == ((rd_T56 x1 x5).f2))))) = true then (some false) else (papermillref13_Same.l0 k x0 x1 (wrap64 (x5 + 1)))) else (none)) else (none)) else (some true)
def papermillref13_Same.f (k : Nat) (l0 : List (S56)) (l1 : List (S56)) : Option (Bool) := if (l0.length : Int) = (l1.length : Int) then (papermillref13_Same.l0 k l0 l1 0) else (some false)
theorem papermillref13_Same.mono_l : ∀ k, (∀ y0 y1 y2, LeO (papermillref13_Same.l0 k y0 y1 y2) (papermillref13_Same.l0 (k + 1) y0 y1 y2))
 | 0 => fun _ _ _ r h => by simp [papermillref13_Same.l0] at h
 | k + 1 => by
  have ih0 := papermillref13_Same.mono_l k
  ·intro y0 y1 y2
   unfold papermillref13_Same.l0
   repeat' first
   | (with_reducible exact ih0 _ _ _)
   | (with_reducible exact LeO.refl _)
   | (with_reducible exact LeO.none _)
   | (with_reducible refine LeO.ite ?_ ?_)
   | (with_reducible refine LeO.bind ?_ (fun _ => ?_))
   | exact ih0 _ _ _
   | exact LeO.none _
   | refine LeO.ite ?_ ?_
   | refine LeO.bind ?_ (fun _ => ?_)
theorem papermillref13_Same.mono : ∀ a0 a1 k, LeO (papermillref13_Same.f k a0 a1) (papermillref13_Same.f (k + 1) a0 a1) := by
 intro a0 a1 k
 have ih0 := papermillref13_Same.mono_l k
 unfold papermillref13_Same.f
 repeat' first
   | (with_reducible exact ih0 _ _ _)
   | (with_reducible exact LeO.refl _)
   | (with_reducible exact LeO.none _)
   | (with_reducible refine LeO.ite ?_ ?_)
   | (with_reducible refine LeO.bind ?_ (fun _ => ?_))
   | exact ih0 _ _ _
   | exact LeO.none _
   | refine LeO.ite ?_ ?_
   | refine LeO.bind ?_ (fun _ => ?_)
set_option maxHeartbeats 8000000 in
set_option maxRecDepth 100000 in
theorem papermillref13_Same.calls (k : Nat) (A0 : Option Addr) (c0 : Nat) (l0 : List (S56)) (A1 : Option Addr) (c1 : Nat) (l1 : List (S56)) (r : Bool) (w : World) (hr0 : Kd.C k56 w A0 l0.length l0) (hc0 : l0.length ≤ c0) (hr1 : Kd.C k56 w A1 l1.length l1) (hc1 : l1.length ≤ c1) (h : papermillref13_Same.f k l0 l1 = some r) :
  Calls Try.prog 20 #[.slice A0 l0.length c0, .slice A1 l1.length c1] w fun e w' => e = .returned (.bool r) ∧ Drawn0 w w' := by
 have hu56 := Try.underlying56
 have HR0 := Aside0.mk hr0
 have HC0 := Aside0.mk hc0
 clear hr0 hc0
 have HR1 := Aside0.mk hr1
 have HC1 := Aside0.mk hc1
 clear hr1 hc1
 have H : (if (l0.length : Int) = (l1.length : Int) then (papermillref13_Same.l0 k l0 l1 0) else (some false)) = some r := h
 clear h
 by_cases c3 : (l0.length : Int) = (l1.length : Int)
 ·rw [if_pos c3] at H
  have c3b0 : ((l0.length : Int) == (l1.length : Int)) = true := beq_iff_eq.mpr c3
  have c3b1 : ((l0.length : Int) != (l1.length : Int)) = false := bne_eq_false_iff_eq.mpr c3
  have c3b2 : (l0.length == l1.length) = true := by first | simpa using c3 | (simp at c3 ⊢; omega)
  clear c3
  have H' := Aside0.mk H
  clear H
  go_enter Try.func20, Try.ntmps20
  go_wp2
  repeat (go_quiet (fail); try go_wp2)
  go_loopg [5] k (fun kq v5 w' => ∃ (x5_1 : Int), v5 = .int .i64 x5_1 ∧ Aside0 (papermillref13_Same.l0 kq l0 l1 x5_1 = some r) ∧ Aside0 (kq ≤ k) ∧ Drawn0 w w')
  case atStart => exact ⟨(0), (by first | rfl | (simp; done) | (simp [*]; done)), H', ⟨Nat.le_refl _⟩, by repeat (first | exact Drawn0.refl _ | apply Drawn0.step)⟩
  case round =>
   clear H'
   try clear c1
   try clear c2
   try clear p2
   try clear c3
   try clear c3b0
   try clear c3b1
   try clear c3b2
   obtain ⟨x5_1, rfl, HA, HK1, ⟨m1, rfl⟩⟩ := hrel
   cases gk with
   | zero => exact absurd HA.out (by simp [papermillref13_Same.l0])
   | succ k1 =>
    have H := HA.out
    clear HA
    simp only [papermillref13_Same.l0] at H
    by_cases c4 : x5_1 < (l0.length : Int)
    ·rw [if_pos c4] at H
     have c4b0 : decide (x5_1 < (l0.length : Int)) = true := decide_eq_true c4
     clear c4
     by_cases c5 : 0 ≤ x5_1
     ·rw [if_pos c5] at H
      have c5b0 : decide (0 ≤ x5_1) = true := decide_eq_true c5
      clear c5
      by_cases c6 : x5_1 < (l1.length : Int)
      ·rw [if_pos c6] at H
       have c6b0 : decide (x5_1 < (l1.length : Int)) = true := decide_eq_true c6
       clear c6
       by_cases c7 : (!(((rd_T56 l0 x5_1).f0) == ((rd_T56 l1 x5_1).f0)) || (!(((rd_T56 l0 x5_1).f1) == ((rd_T56 l1 x5_1).f1)) || (!(((rd_T56 l0 x5_1).f2) == ((rd_T56 l1 x5_1).f2))))) = true
       ·rw [if_pos c7] at H
        have c7b0 : (!(((rd_T56 l0 x5_1).f0) == ((rd_T56 l1 x5_1).f0)) || (!(((rd_T56 l0 x5_1).f1) == ((rd_T56 l1 x5_1).f1)) || (!(((rd_T56 l0 x5_1).f2) == ((rd_T56 l1 x5_1).f2))))) = true := c7
        clear c7
        obtain rfl := Option.some.inj H
        have p21001 : 0 ≤ (x5_1 : Int) := of_decide_eq_true (by assumption)
        have q21001 : x5_1 < (l0.length : Int) := of_decide_eq_true (by assumption)
        obtain ⟨ad21001, e21001, hx21001_0, hx21001_1, hx21001_2⟩ := at_T56 HR0.out x5_1 p21001 q21001
        cases e21001
        replace p21001 := eq_true p21001
        replace q21001 := eq_true q21001
        have p21002 : 0 ≤ (x5_1 : Int) := of_decide_eq_true (by assumption)
        have q21002 : x5_1 < (l1.length : Int) := of_decide_eq_true (by assumption)
        obtain ⟨ad21002, e21002, hx21002_0, hx21002_1, hx21002_2⟩ := at_T56 HR1.out x5_1 p21002 q21002
        cases e21002
        replace p21002 := eq_true p21002
        replace q21002 := eq_true q21002
        go_wp2
        repeat (go_quiet (fail); try go_wp2)
        go_ret
        exact ⟨by first | rfl | (simp; done) | (simp [*]; done), by repeat (first | exact Drawn0.refl _ | apply Drawn0.step)⟩
       ·rw [if_neg c7] at H
        have c7b0 : (!(((rd_T56 l0 x5_1).f0) == ((rd_T56 l1 x5_1).f0)) || (!(((rd_T56 l0 x5_1).f1) == ((rd_T56 l1 x5_1).f1)) || (!(((rd_T56 l0 x5_1).f2) == ((rd_T56 l1 x5_1).f2))))) = false := by simpa using c7
        clear c7
        have H' := Aside0.mk H
        clear H
        have p21001 : 0 ≤ (x5_1 : Int) := of_decide_eq_true (by assumption)
        have q21001 : x5_1 < (l0.length : Int) := of_decide_eq_true (by assumption)
        obtain ⟨ad21001, e21001, hx21001_0, hx21001_1, hx21001_2⟩ := at_T56 HR0.out x5_1 p21001 q21001
        cases e21001
        replace p21001 := eq_true p21001
        replace q21001 := eq_true q21001
        have p21002 : 0 ≤ (x5_1 : Int) := of_decide_eq_true (by assumption)
        have q21002 : x5_1 < (l1.length : Int) := of_decide_eq_true (by assumption)
        obtain ⟨ad21002, e21002, hx21002_0, hx21002_1, hx21002_2⟩ := at_T56 HR1.out x5_1 p21002 q21002
        cases e21002
        replace p21002 := eq_true p21002
        replace q21002 := eq_true q21002
        go_wp2
        repeat (go_quiet (fail); try go_wp2)
        go_roundg k1
        case measure => have := HK1.out; omega
        case rel => exact ⟨(wrap64 (x5_1 + 1)), (by first | rfl | (simp; done) | (simp [*]; done)), H', ⟨by have := HK1.out; omega⟩, by repeat (first | exact Drawn0.refl _ | apply Drawn0.step)⟩
      ·rw [if_neg c6] at H
       exact absurd H (by simp)
     ·rw [if_neg c5] at H
      exact absurd H (by simp)
    ·rw [if_neg c4] at H
     have c4b0 : decide (x5_1 < (l0.length : Int)) = false := decide_eq_false c4
     clear c4
     obtain rfl := Option.some.inj H
     go_wp2
     repeat (go_quiet (fail); try go_wp2)
     go_ret
     exact ⟨by first | rfl | (simp; done) | (simp [*]; done), by repeat (first | exact Drawn0.refl _ | apply Drawn0.step)⟩
 ·rw [if_neg c3] at H
  have c3b0 : ((l0.length : Int) == (l1.length : Int)) = false := beq_eq_false_iff_ne.mpr c3
  have c3b1 : ((l0.length : Int) != (l1.length : Int)) = true := bne_iff_ne.mpr c3
  have c3b2 : (l0.length == l1.length) = false := by first | simpa using c3 | (simp at c3 ⊢; omega)
  obtain rfl := Option.some.inj H
  go_enter Try.func20, Try.ntmps20
  go_wp2
  repeat (go_quiet (fail); try go_wp2)
  go_ret
  exact ⟨by first | rfl | (simp; done) | (simp [*]; done), by repeat (first | exact Drawn0.refl _ | apply Drawn0.step)⟩

end Go.Proofs.Ytjkakgkiikjdmaa.G

namespace Go.Proofs.Ytjkakgkiikjdmaa.G
open Go.RowKit Go.Proofs.YtjkakgkiikjdmaaW.PrintWords Go.Proofs.YtjkakgkiikjdmaaW.PrintLast Go.Proofs.YtjkakgkiikjdmaaW.PrintMore
set_option linter.unusedVariables false
set_option linter.unusedSimpArgs false
def fitX (xs : List Int) : Prop := ∀ x ∈ xs, 0 ≤ x ∧ x < 17179869184
theorem img_in {r : S56} (h : ¬ badR r) (i : Int) (h0 : 0 ≤ i) (h1 : i < r.f1) : 0 ≤ img r i ∧ img r i < 17179869184 := by
  unfold badR at h
  unfold img
  cases hb : r.f2 <;> simp [hb] at h ⊢ <;> omega
theorem sem_fit {l : List S56} (h : ∀ r ∈ l, ¬ badR r) : fitX (sem l) := by
  intro x hx
  obtain ⟨r, hr, hx⟩ := List.mem_flatMap.mp hx
  simp only [imgs, List.mem_map, List.mem_range] at hx
  obtain ⟨i, hi, rfl⟩ := hx
  exact img_in (h r hr) i (by omega) (by omega)
theorem mem_sem {l : List S56} {t : S56} (h : t ∈ l) (i : Nat) (hi : (i : Int) < t.f1) : img t i ∈ sem l := by
  refine List.mem_flatMap.mpr ⟨t, h, ?_⟩
  exact List.mem_iff_getElem?.mpr ⟨i, imgs_get t i hi⟩
theorem len_sem_mem {l : List S56} {t : S56} (h : t ∈ l) : t.f1.toNat ≤ (sem l).length := by
  induction l with
  | nil => simp at h
  | cons r l ih =>
    rw [sem_cons, List.length_append, imgs_len]
    rcases List.mem_cons.mp h with rfl | h
    · omega
    · have := ih h; omega
theorem check_nrm (xs : List Int) (h : fitX xs) (hl : xs.length ≤ 17179869184) (hn : (nrm xs).length ≤ 256) : check13 (nrm xs) = 0 := by
  have hok := nrm_ok xs
  have hg : ∀ t ∈ nrm xs, ¬ badR t := by
    intro t ht
    have h1 := (hok t ht).1
    have m0 := mem_sem ht 0 (by omega)
    have m1 := mem_sem ht (t.f1 - 1).toNat (by omega)
    have hlen := len_sem_mem ht
    rw [sem_nrm] at m0 m1 hlen
    have b0 := h _ m0
    have b1 := h _ m1
    rw [show (((t.f1 - 1).toNat : Nat) : Int) = t.f1 - 1 by omega] at b1
    unfold img at b0 b1
    unfold badR
    cases hb : t.f2 <;> simp [hb] at b0 b1 ⊢ <;> omega
  have ht := sem_len (nrm xs) (fun r hr => by have := (hok r hr).1; omega)
  rw [sem_nrm] at ht
  unfold check13
  rw [if_neg (by omega), if_neg, if_neg (by omega)]
  intro hb
  obtain ⟨t, ht2, hb⟩ := List.any_eq_true.mp hb
  exact hg t ht2 (by simpa using hb)
theorem tot_nrm (xs : List Int) : tot13 (nrm xs) = xs.length := by
  rw [← sem_len (nrm xs) (fun r hr => by have := (nrm_ok xs r hr).1; omega), sem_nrm]
theorem sem_small {l : List S56} (h : check13 l = 0) : (sem l).length ≤ 17179869184 := by
  have h1 := sem_tot h
  have h2 := (check13_zero h).2.2
  omega
theorem nrm_few {l : List S56} (h : check13 l = 0) : (nrm (sem l)).length ≤ l.length :=
  nrm_len l (fun r hr => (fit_of ((check13_zero h).2.1 r hr)).2.2.1)
theorem nrm_fair {l : List S56} (h : check13 l = 0) : check13 (nrm (sem l)) = 0 :=
  check_nrm _ (sem_fit (check13_zero h).2.1) (sem_small h) (by have := nrm_few h; have := (check13_zero h).1; omega)
theorem rev_few {l : List S56} (h : check13 l = 0) : (nrm (sem l).reverse).length ≤ l.length := by
  have hp : ∀ r ∈ l, 1 ≤ r.f1 := fun r hr => (fit_of ((check13_zero h).2.1 r hr)).2.2.1
  have := nrm_len (revL l) (revL_pos l hp)
  rw [sem_rev l hp, revL_len] at this
  exact this
theorem rev_fair {l : List S56} (h : check13 l = 0) : check13 (nrm (sem l).reverse) = 0 :=
  check_nrm _ (fun x hx => sem_fit (check13_zero h).2.1 x (List.mem_reverse.mp hx)) (by rw [List.length_reverse]; exact sem_small h) (by have := rev_few h; have := (check13_zero h).1; omega)
theorem normOf_nrm {l : List S56} (h : check13 l = 0) : normOf (nrm (sem l)) = (nrm (sem l), 0) := by unfold normOf; rw [if_pos (nrm_fair h), sem_nrm]
theorem rsame13_l0 (l : List S56) (hl : l.length ≤ 1000000) : ∀ (d i : Nat), l.length - i = d → i ≤ l.length → Ends (fun k => papermillref13_Same.l0 k l l (i : Int)) true := by
  intro d
  induction d with
  | zero =>
    intro i hd hi
    refine Ends.succ ?_
    simp only [papermillref13_Same.l0]
    exact Ends.neg (by omega) (Ends.ret _)
  | succ d ih =>
    intro i hd hi
    refine Ends.succ ?_
    simp only [papermillref13_Same.l0, wrap_nat i (by omega)]
    exact Ends.pos (by omega) (Ends.pos (by omega) (Ends.pos (by omega) (Ends.neg (by simp) (ih (i + 1) (by omega) (by omega)))))
theorem rsame13_ends (l : List S56) (hl : l.length ≤ 1000000) : Ends (fun k => papermillref13_Same.f k l l) true := by
  unfold papermillref13_Same.f
  exact Ends.pos rfl (rsame13_l0 l hl _ 0 rfl (by omega))
end Go.Proofs.Ytjkakgkiikjdmaa.G

namespace Go.Proofs.Ytjkakgkiikjdmaa.G
open Go.RowKit Go.Proofs.YtjkakgkiikjdmaaW.PrintWords Go.Proofs.YtjkakgkiikjdmaaW.PrintLast Go.Proofs.YtjkakgkiikjdmaaW.PrintMore
attribute [local go_sem] max2_int min2_int max_two min_two max_three min_three max_four min_four   -- for this text's walks alone
set_option linter.unusedVariables false
set_option linter.unusedSimpArgs false

attribute [local go_sem high] eqA49
def slices_Equal_api_Span_api_Span.l0 : Nat → List (S49) → List (S49) → Int → Int → Option (Bool)
 | 0, _, _, _, _ => none
 | k + 1, x0, x1, x12, x13 => if x13 < x12 then (if 0 ≤ x13 then (if x13 < (x0.length : Int) then (if x13 < (x1.length : Int) then (if (!(((rd_T49 x0 x13).f0) == ((rd_T49 x1 x13).f0)) || (!(((rd_T49 x0 x13).f1) == ((rd_T49 x1 x13).f1)))) = true then (some false) else (slices_Equal_api_Span_api_Span.l0 k x0 x1 x12 (wrap64 (x13 + 1)))) else (none)) else (none)) else (none)) else (some true)
def slices_Equal_api_Span_api_Span.f (k : Nat) (l0 : List (S49)) (l1 : List (S49)) : Option (Bool) := if (l0.length : Int) = (l1.length : Int) then (slices_Equal_api_Span_api_Span.l0 k l0 l1 (l0.length : Int) 0) else (some false)
theorem slices_Equal_api_Span_api_Span.mono_l : ∀ k, (∀ y0 y1 y2 y3, LeO (slices_Equal_api_Span_api_Span.l0 k y0 y1 y2 y3) (slices_Equal_api_Span_api_Span.l0 (k + 1) y0 y1 y2 y3))
 | 0 => fun _ _ _ _ r h => by simp [slices_Equal_api_Span_api_Span.l0] at h
 | k + 1 => by
  have ih0 := slices_Equal_api_Span_api_Span.mono_l k
  ·intro y0 y1 y2 y3
   unfold slices_Equal_api_Span_api_Span.l0
   repeat' first
   | (with_reducible exact ih0 _ _ _ _)
   | (with_reducible exact LeO.refl _)
   | (with_reducible exact LeO.none _)
   | (with_reducible refine LeO.ite ?_ ?_)
   | (with_reducible refine LeO.bind ?_ (fun _ => ?_))
   | exact ih0 _ _ _ _
   | exact LeO.none _
   | refine LeO.ite ?_ ?_
   | refine LeO.bind ?_ (fun _ => ?_)
theorem slices_Equal_api_Span_api_Span.mono : ∀ a0 a1 k, LeO (slices_Equal_api_Span_api_Span.f k a0 a1) (slices_Equal_api_Span_api_Span.f (k + 1) a0 a1) := by
 intro a0 a1 k
 have ih0 := slices_Equal_api_Span_api_Span.mono_l k
 unfold slices_Equal_api_Span_api_Span.f
 repeat' first
   | (with_reducible exact ih0 _ _ _ _)
   | (with_reducible exact LeO.refl _)
   | (with_reducible exact LeO.none _)
   | (with_reducible refine LeO.ite ?_ ?_)
   | (with_reducible refine LeO.bind ?_ (fun _ => ?_))
   | exact ih0 _ _ _ _
   | exact LeO.none _
   | refine LeO.ite ?_ ?_
   | refine LeO.bind ?_ (fun _ => ?_)
set_option maxHeartbeats 8000000 in
set_option maxRecDepth 100000 in
theorem slices_Equal_api_Span_api_Span.calls (k : Nat) (A0 : Option Addr) (c0 : Nat) (l0 : List (S49)) (A1 : Option Addr) (c1 : Nat) (l1 : List (S49)) (r : Bool) (w : World) (hr0 : Kd.C k49 w A0 l0.length l0) (hc0 : l0.length ≤ c0) (hr1 : Kd.C k49 w A1 l1.length l1) (hc1 : l1.length ≤ c1) (h : slices_Equal_api_Span_api_Span.f k l0 l1 = some r) :
  Calls Try.prog 40 #[.slice A0 l0.length c0, .slice A1 l1.length c1] w fun e w' => e = .returned (.bool r) ∧ Drawn0 w w' := by
 have hu49 := Try.underlying49
 have HR0 := Aside0.mk hr0
 have HC0 := Aside0.mk hc0
 clear hr0 hc0
 have HR1 := Aside0.mk hr1
 have HC1 := Aside0.mk hc1
 clear hr1 hc1
 have H : (if (l0.length : Int) = (l1.length : Int) then (slices_Equal_api_Span_api_Span.l0 k l0 l1 (l0.length : Int) 0) else (some false)) = some r := h
 clear h
 by_cases c3 : (l0.length : Int) = (l1.length : Int)
 ·rw [if_pos c3] at H
  have c3b0 : ((l0.length : Int) == (l1.length : Int)) = true := beq_iff_eq.mpr c3
  have c3b1 : ((l0.length : Int) != (l1.length : Int)) = false := bne_eq_false_iff_eq.mpr c3
  have c3b2 : (l0.length == l1.length) = true := by first | simpa using c3 | (simp at c3 ⊢; omega)
  clear c3
  have H' := Aside0.mk H
  clear H
  go_enter Try.func40, Try.ntmps40
  go_wp2
  repeat (go_quiet (fail); try go_wp2)
  go_loopg [13] k (fun kq v13 w' => ∃ (x13_1 : Int), v13 = .int .i64 x13_1 ∧ Aside0 (slices_Equal_api_Span_api_Span.l0 kq l0 l1 (l0.length : Int) x13_1 = some r) ∧ Aside0 (kq ≤ k) ∧ Drawn0 w w')
  case atStart => exact ⟨(0), (by first | rfl | (simp; done) | (simp [*]; done)), H', ⟨Nat.le_refl _⟩, by repeat (first | exact Drawn0.refl _ | apply Drawn0.step)⟩
  case round =>
   clear H'
   try clear c1
   try clear p2
   try clear c3
   try clear c3b0
   try clear c3b1
   try clear c3b2
   obtain ⟨x13_1, rfl, HA, HK1, ⟨m1, rfl⟩⟩ := hrel
   cases gk with
   | zero => exact absurd HA.out (by simp [slices_Equal_api_Span_api_Span.l0])
   | succ k1 =>
    have H := HA.out
    clear HA
    simp only [slices_Equal_api_Span_api_Span.l0] at H
    by_cases c4 : x13_1 < (l0.length : Int)
    ·rw [if_pos c4] at H
     have c4b0 : decide (x13_1 < (l0.length : Int)) = true := decide_eq_true c4
     clear c4
     by_cases c5 : 0 ≤ x13_1
     ·rw [if_pos c5] at H
      have c5b0 : decide (0 ≤ x13_1) = true := decide_eq_true c5
      clear c5
      by_cases c6 : x13_1 < (l0.length : Int)
      ·rw [if_pos c6] at H
       have c6b0 : decide (x13_1 < (l0.length : Int)) = true := decide_eq_true c6
       clear c6
       by_cases c7 : x13_1 < (l1.length : Int)
       ·rw [if_pos c7] at H
        have c7b0 : decide (x13_1 < (l1.length : Int)) = true := decide_eq_true c7
        clear c7
        by_cases c8 : (!(((rd_T49 l0 x13_1).f0) == ((rd_T49 l1 x13_1).f0)) || (!(((rd_T49 l0 x13_1).f1) == ((rd_T49 l1 x13_1).f1)))) = true
        ·rw [if_pos c8] at H
         have c8b0 : (!(((rd_T49 l0 x13_1).f0) == ((rd_T49 l1 x13_1).f0)) || (!(((rd_T49 l0 x13_1).f1) == ((rd_T49 l1 x13_1).f1)))) = true := c8
         clear c8
         obtain rfl := Option.some.inj H
         have p41001 : 0 ≤ (x13_1 : Int) := of_decide_eq_true (by assumption)
         have q41001 : x13_1 < (l0.length : Int) := of_decide_eq_true (by assumption)
         obtain ⟨ad41001, e41001, hx41001_0, hx41001_1⟩ := at_T49 HR0.out x13_1 p41001 q41001
         cases e41001
         replace p41001 := eq_true p41001
         replace q41001 := eq_true q41001
         have p41002 : 0 ≤ (x13_1 : Int) := of_decide_eq_true (by assumption)
         have q41002 : x13_1 < (l1.length : Int) := of_decide_eq_true (by assumption)
         obtain ⟨ad41002, e41002, hx41002_0, hx41002_1⟩ := at_T49 HR1.out x13_1 p41002 q41002
         cases e41002
         replace p41002 := eq_true p41002
         replace q41002 := eq_true q41002
         go_wp2
         repeat (go_quiet (fail); try go_wp2)
         go_ret
         exact ⟨by first | rfl | (simp; done) | (simp [*]; done), by repeat (first | exact Drawn0.refl _ | apply Drawn0.step)⟩
        ·rw [if_neg c8] at H
         have c8b0 : (!(((rd_T49 l0 x13_1).f0) == ((rd_T49 l1 x13_1).f0)) || (!(((rd_T49 l0 x13_1).f1) == ((rd_T49 l1 x13_1).f1)))) = false := by simpa using c8
         clear c8
         have H' := Aside0.mk H
         clear H
         have p41001 : 0 ≤ (x13_1 : Int) := of_decide_eq_true (by assumption)
         have q41001 : x13_1 < (l0.length : Int) := of_decide_eq_true (by assumption)
         obtain ⟨ad41001, e41001, hx41001_0, hx41001_1⟩ := at_T49 HR0.out x13_1 p41001 q41001
         cases e41001
         replace p41001 := eq_true p41001
         replace q41001 := eq_true q41001
         have p41002 : 0 ≤ (x13_1 : Int) := of_decide_eq_true (by assumption)
         have q41002 : x13_1 < (l1.length : Int) := of_decide_eq_true (by assumption)
         obtain ⟨ad41002, e41002, hx41002_0, hx41002_1⟩ := at_T49 HR1.out x13_1 p41002 q41002
         cases e41002
         replace p41002 := eq_true p41002
         replace q41002 := eq_true q41002
         go_wp2
         repeat (go_quiet (fail); try go_wp2)
         go_roundg k1
         case measure => have := HK1.out; omega
         case rel => exact ⟨(wrap64 (x13_1 + 1)), (by first | rfl | (simp; done) | (simp [*]; done)), H', ⟨by have := HK1.out; omega⟩, by repeat (first | exact Drawn0.refl _ | apply Drawn0.step)⟩
       ·rw [if_neg c7] at H
        exact absurd H (by simp)
      ·rw [if_neg c6] at H
       exact absurd H (by simp)
     ·rw [if_neg c5] at H
      exact absurd H (by simp)
    ·rw [if_neg c4] at H
     have c4b0 : decide (x13_1 < (l0.length : Int)) = false := decide_eq_false c4
     clear c4
     obtain rfl := Option.some.inj H
     go_wp2
     repeat (go_quiet (fail); try go_wp2)
     go_ret
     exact ⟨by first | rfl | (simp; done) | (simp [*]; done), by repeat (first | exact Drawn0.refl _ | apply Drawn0.step)⟩
 ·rw [if_neg c3] at H
  have c3b0 : ((l0.length : Int) == (l1.length : Int)) = false := beq_eq_false_iff_ne.mpr c3
  have c3b1 : ((l0.length : Int) != (l1.length : Int)) = true := bne_iff_ne.mpr c3
  have c3b2 : (l0.length == l1.length) = false := by first | simpa using c3 | (simp at c3 ⊢; omega)
  obtain rfl := Option.some.inj H
  go_enter Try.func40, Try.ntmps40
  go_wp2
  repeat (go_quiet (fail); try go_wp2)
  go_ret
  exact ⟨by first | rfl | (simp; done) | (simp [*]; done), by repeat (first | exact Drawn0.refl _ | apply Drawn0.step)⟩

end Go.Proofs.Ytjkakgkiikjdmaa.G

namespace Go.Proofs.Ytjkakgkiikjdmaa.G
open Go.RowKit Go.Proofs.YtjkakgkiikjdmaaW.PrintWords Go.Proofs.YtjkakgkiikjdmaaW.PrintLast Go.Proofs.YtjkakgkiikjdmaaW.PrintMore
attribute [local go_sem] max2_int min2_int max_two min_two max_three min_three max_four min_four   -- for this text's walks alone
set_option linter.unusedVariables false
set_option linter.unusedSimpArgs false

def splice_Places.l0 : Nat → List Int → Int → List (S56) → Int → Int → Option (List Int × Int)
 | 0, _, _, _, _, _ => none
 | k + 1, x6, x7, x18, x19, x20 => if x20 < x19 then (if 0 ≤ x20 then (if x20 < (x18.length : Int) then (if x20 > 0 then (if x6.length < 17592186044416 then (splice_Places.l0 k (x6 ++ [x7]) (wrap64 (x7 + ((rd_T56 x18 x20).f1))) x18 x19 (wrap64 (x20 + 1))) else (none)) else (splice_Places.l0 k x6 (wrap64 (x7 + ((rd_T56 x18 x20).f1))) x18 x19 (wrap64 (x20 + 1)))) else (none)) else (none)) else (some (x6, 0))
def splice_Places.f (k : Nat) (l0 : List (S56)) : Option (List Int × Int) := (iso_Norm.f l0).bind fun bt22001 => (if bt22001.2 = 0 then (splice_Places.l0 k ([] : List Int) 0 bt22001.1 (bt22001.1.length : Int) 0) else (some (([] : List Int), bt22001.2)))
theorem splice_Places.mono_l : ∀ k, (∀ y0 y1 y2 y3 y4, LeO (splice_Places.l0 k y0 y1 y2 y3 y4) (splice_Places.l0 (k + 1) y0 y1 y2 y3 y4))
 | 0 => fun _ _ _ _ _ r h => by simp [splice_Places.l0] at h
 | k + 1 => by
  have ih0 := splice_Places.mono_l k
  ·intro y0 y1 y2 y3 y4
   unfold splice_Places.l0
   repeat' first
   | (with_reducible exact ih0 _ _ _ _ _)
   | (with_reducible exact LeO.refl _)
   | (with_reducible exact LeO.none _)
   | (with_reducible refine LeO.ite ?_ ?_)
   | (with_reducible refine LeO.bind ?_ (fun _ => ?_))
   | exact ih0 _ _ _ _ _
   | exact LeO.none _
   | refine LeO.ite ?_ ?_
   | refine LeO.bind ?_ (fun _ => ?_)
theorem splice_Places.mono : ∀ a0 k, LeO (splice_Places.f k a0) (splice_Places.f (k + 1) a0) := by
 intro a0 k
 have ih0 := splice_Places.mono_l k
 unfold splice_Places.f
 repeat' first
   | (with_reducible exact ih0 _ _ _ _ _)
   | (with_reducible exact LeO.refl _)
   | (with_reducible exact LeO.none _)
   | (with_reducible refine LeO.ite ?_ ?_)
   | (with_reducible refine LeO.bind ?_ (fun _ => ?_))
   | exact ih0 _ _ _ _ _
   | exact LeO.none _
   | refine LeO.ite ?_ ?_
   | refine LeO.bind ?_ (fun _ => ?_)
set_option maxHeartbeats 8000000 in
set_option maxRecDepth 100000 in
theorem splice_Places.calls (k : Nat) (A0 : Option Addr) (c0 : Nat) (l0 : List (S56)) (r1 : List Int) (r2 : Int) (w : World) (hr0 : Kd.C k56 w A0 l0.length l0) (hc0 : l0.length ≤ c0) (h : splice_Places.f k l0 = some (r1, r2)) :
  Calls Try.prog 21 #[.slice A0 l0.length c0] w fun e w' => ∃ v0_ : Value, e = .returned (.tuple #[v0_, .int .i64 r2]) ∧ Kd.R (Kd.int .i64) 3 w' w.heap.size (fun _ => True) v0_ r1 ∧ Below w.heap.size w w' := by
 have hu56 := Try.underlying56
 have HR0 := Aside0.mk hr0
 have HC0 := Aside0.mk hc0
 clear hr0 hc0
 have HB := Aside0.mk (Below.refl w.heap.size w)
 have H : ((iso_Norm.f l0).bind fun bt22001 => (if bt22001.2 = 0 then (splice_Places.l0 k ([] : List Int) 0 bt22001.1 (bt22001.1.length : Int) 0) else (some (([] : List Int), bt22001.2)))) = some (r1, r2) := h
 clear h
 replace H := Option.bind_eq_some_iff.mp H
 obtain ⟨⟨t22001, t22002⟩, A20, H⟩ := H
 replace H : (if t22002 = 0 then (splice_Places.l0 k ([] : List Int) 0 t22001 (t22001.length : Int) 0) else (some (([] : List Int), t22002))) = some (r1, r2) := H
 have A2 := Aside0.mk A20
 clear A20
 by_cases c3 : t22002 = 0
 ·rw [if_pos c3] at H
  have c3b0 : (t22002 == 0) = true := beq_iff_eq.mpr c3
  have c3b1 : (t22002 != 0) = false := bne_eq_false_iff_eq.mpr c3
  clear c3
  have H' := Aside0.mk H
  clear H
  go_enter Try.func21, Try.ntmps21
  go_wp2_with (first | ((with_reducible refine gate_callee (f := 41) rfl ?_); refine goesL_ (some 12) rfl rfl Try.func41 (by kernel_rfl) rfl #[.slice A0 l0.length c0] rfl (by (try simp only [List.map_toArray, List.map_cons, List.map_nil]); first | done | rfl | (simp only [List.length_drop, List.length_take]; rfl)) ?_; (with_reducible refine (iso_Norm.calls _ _ l0 t22001 t22002 _ ?side1 ?side2 A2.out).mono ?_); (case side1 => exact HR0.out); (case side2 => exact HC0.out); rintro e w4 ⟨v22003, rfl, ho0, hb⟩; refine ⟨_, rfl, ?_⟩; have n0_ := Aside0.mk (Kd.R_lower ho0 (below_size (by repeat (first | exact HB.out | apply below_alloc | apply pw_below_drewN | apply below_drew1)))); have n1_ := Aside0.mk (below_step (by repeat (first | exact HB.out | apply below_alloc | apply pw_below_drewN | apply below_drew1)) hb); clear HB; have HO22004 := n0_; have HB := n1_; clear n0_ n1_; (try clear hb); (try clear hb2); (try clear hk); (try clear hi); (try clear ho0); obtain ⟨Ao5, co5, eo5⟩ := Kd.R_slice HO22004.out; subst eo5))
  go_loopg [6, 7, 20] k (fun kq v6 v7 v20 w' => ∃ (x6_1 : List Int) (x7_1 : Int) (x20_1 : Int), v7 = .int .i64 x7_1 ∧ v20 = .int .i64 x20_1 ∧ Aside0 (splice_Places.l0 kq x6_1 x7_1 t22001 (t22001.length : Int) x20_1 = some (r1, r2)) ∧ Aside0 (kq ≤ k) ∧ Aside0 (Kd.R (Kd.int .i64) 3 w' w.heap.size (fun _ => True) v6 x6_1) ∧ Aside0 (Kd.R k56 56 w' w.heap.size (fun _ => True) (.slice Ao5 t22001.length co5) t22001) ∧ Aside0 (Below w.heap.size w w'))
  case atStart => exact ⟨(([] : List Int)), (0), (0), (by first | rfl | (simp; done) | (simp [*]; done)), (by first | rfl | (simp; done) | (simp [*]; done)), H', ⟨Nat.le_refl _⟩, ⟨by first | exact Kd.R_nil _ _ _ _ _ | exact Kd.N_nil _ _ _ _ _ | exact Kd.V_nil _ _ _ _ _ | exact Kd.Q_nil _ _ _ _ _ | exact Kd.S_nil _ _ _ _ _⟩, ⟨HO22004.out⟩, ⟨by repeat (first | exact HB.out | apply below_alloc | apply pw_below_drewN | apply below_drew1)⟩⟩
  case round =>
   clear H'
   try clear c2
   try clear p2
   try clear c3
   try clear c3b0
   try clear c3b1
   try clear c4
   obtain ⟨x6_1, x7_1, x20_1, rfl, rfl, HA, HK1, HO_6, HO_18, HB⟩ := hrel
   cases gk with
   | zero => exact absurd HA.out (by simp [splice_Places.l0])
   | succ k1 =>
    have H := HA.out
    clear HA
    simp only [splice_Places.l0] at H
    by_cases c6 : x20_1 < (t22001.length : Int)
    ·rw [if_pos c6] at H
     have c6b0 : decide (x20_1 < (t22001.length : Int)) = true := decide_eq_true c6
     clear c6
     by_cases c7 : 0 ≤ x20_1
     ·rw [if_pos c7] at H
      have c7b0 : decide (0 ≤ x20_1) = true := decide_eq_true c7
      clear c7
      by_cases c8 : x20_1 < (t22001.length : Int)
      ·rw [if_pos c8] at H
       have c8b0 : decide (x20_1 < (t22001.length : Int)) = true := decide_eq_true c8
       clear c8
       by_cases c9 : x20_1 > 0
       ·rw [if_pos c9] at H
        have c9b0 : decide (0 < x20_1) = true := decide_eq_true c9
        clear c9
        by_cases c10 : x6_1.length < 17592186044416
        ·rw [if_pos c10] at H
         have LMc10 := Aside0.mk c10
         clear c10
         obtain ⟨y22007, hy22007⟩ : ∃ y_ : List Int, y_ = (x6_1 ++ [x7_1]) := ⟨_, rfl⟩
         replace H : (splice_Places.l0 k1 y22007 (wrap64 (x7_1 + ((rd_T56 t22001 x20_1).f1))) t22001 (t22001.length : Int) (wrap64 (x20_1 + 1))) = some (r1, r2) := by first | (rw [hy22007]; with_reducible exact H) | (have H2_ := (Option.bind_some _ _).symm.trans H; rw [hy22007]; with_reducible exact H2_) | (have H2_ := (Option.bind_some _ _).symm.trans H; with_reducible exact H2_) | with_reducible exact H | (rw [hy22007]; exact H) | exact H
         have Ny22007 := Aside0.mk hy22007
         clear hy22007
         have H' := Aside0.mk H
         clear H
         have p22005 : 0 ≤ (x20_1 : Int) := of_decide_eq_true (by assumption)
         have q22005 : x20_1 < (t22001.length : Int) := of_decide_eq_true (by assumption)
         obtain ⟨ad22005, e22005, hx22005_0, hx22005_1, hx22005_2⟩ := at_T56 (Kd.R_reads' HO_18.out).2.2 x20_1 p22005 q22005
         cases e22005
         replace p22005 := eq_true p22005
         replace q22005 := eq_true q22005
         go_wp2_with (first | ((with_reducible refine gate_dst (N := 9) rfl ?_); refine box_event ?hg (N := 9) ?hd (cs := #[.int .i64 0, .int .i64 0, .bool false]) (t := 56) ?hr ?_; (case hd => rfl); (case hg => rfl); (case hr => first | (go_simp; done) | (go_simp; rfl)); intro gb22006 hg w11 hbox hb; have n0_ := Aside0.mk (Kd.R_below (HO_6.out) hb); have n1_ := Aside0.mk (Kd.R_below (Kd.R_elderB (HO_18.out) gb22006 (Nat.le_of_eq hg.symm)) hb); have n2_ := Aside0.mk (below_step (by repeat (first | exact HB.out | apply below_alloc | apply pw_below_drewN | apply below_drew1)) hb); have n3_ := Aside0.mk (hbox); have n4_ := Aside0.mk ((by rw [hg]; exact (below_size (by repeat (first | exact HB.out | apply below_alloc | apply pw_below_drewN | apply below_drew1))) : w.heap.size ≤ gb22006)); have n5_ := Aside0.mk ((by rw [hg]; exact (below_size (by repeat (first | exact HB.out | apply below_alloc | apply pw_below_drewN | apply below_drew1))) : w.heap.size ≤ gb22006)); clear HO_6; clear HO_18; clear HB; have HO_6 := n0_; have HO_18 := n1_; have HB := n2_; have BK22006 := n3_; have GW22006 := n4_; have GE22006 := n5_; clear n0_ n1_ n2_ n3_ n4_ n5_; clear hb hbox hg; have hcz12_0 : w11.cell? ⟨gb22006, 0, none⟩ = some (.int .i64 0) := (blk_cell BK22006.out 0).trans rfl; have hcz12_1 : w11.cell? ⟨gb22006, 1, none⟩ = some (.int .i64 0) := (blk_cell BK22006.out 1).trans rfl; have hcz12_2 : w11.cell? ⟨gb22006, 2, none⟩ = some (.bool false) := (blk_cell BK22006.out 2).trans rfl; have hfz12_0 := blk_frozen BK22006.out 0; have hfz12_1 := blk_frozen BK22006.out 1; have hfz12_2 := blk_frozen BK22006.out 2) | ((with_reducible refine gate_builtin (b := .append) (xs := #[.tmp 27, .tmp 29]) rfl ?_); at_builtin; refine Kd.R_append (Kd.int .i64) (w0 := w) w.heap.size rfl (.tmp 27) (.tmp 29) 36 3 (.int .i64 0) 8 rfl Try.underlying36 info3 rfl (by decide) (by omega) u6 x6_1 x7_1 [.int .i64 x7_1] (fun _ => True) (fun _ => False) rfl (by first | (go_simp; done) | (go_simp; rfl)) ?aP (fun _ hk => hk.elim) ?aF ?aO ?aB ?aS ?aL ?_; (case aP => exact rfl); (case aB => exact (by repeat (first | exact HB.out | apply below_alloc | apply pw_below_drewN | apply below_drew1 | refine below_set ?_ GE22006.out))); (case aF => exact (fun _ _ => trivial)); (case aO => exact (by exact Kd.R_mono (Kd.R_far (p := ⟨gb22006, 2, none⟩) (Kd.R_far (p := ⟨gb22006, 1, none⟩) (Kd.R_far (p := ⟨gb22006, 0, none⟩) (Kd.R_types HO_6.out BK22006.out (by decide)) (fun _ hk => hk.2) (.int .i64 ((rd_T56 t22001 x20_1).f0))) (fun _ hk => hk.2) (.int .i64 ((rd_T56 t22001 x20_1).f1))) (fun _ hk => hk.2) (.bool ((rd_T56 t22001 x20_1).f2))) (fun _ hk => trivial))); (case aS => exact (below_size (by repeat (first | exact HB.out | apply below_alloc | apply pw_below_drewN | apply below_drew1 | refine below_set ?_ GE22006.out)))); (case aL => have := LMc10.out; omega); intro v22008 w13 ho hb hg hat; rw [← Ny22007.out] at ho; have n0_ := Aside0.mk (Kd.R_over' (by exact (Kd.R_mono (Kd.R_far (p := ⟨gb22006, 2, none⟩) (Kd.R_far (p := ⟨gb22006, 1, none⟩) (Kd.R_far (p := ⟨gb22006, 0, none⟩) (Kd.R_mono HO_18.out (fun k_ hk => (⟨hk, hk.2⟩ : _ ∧ k_ ≠ gb22006))) (fun _ hk => hk.2) (.int .i64 ((rd_T56 t22001 x20_1).f0))) (fun _ hk => hk.2) (.int .i64 ((rd_T56 t22001 x20_1).f1))) (fun _ hk => hk.2) (.bool ((rd_T56 t22001 x20_1).f2))) (fun _ h_ => h_.1))) (Kd.R_typed (by exact (Kd.R_mono (Kd.R_far (p := ⟨gb22006, 2, none⟩) (Kd.R_far (p := ⟨gb22006, 1, none⟩) (Kd.R_far (p := ⟨gb22006, 0, none⟩) (Kd.R_types HO_6.out BK22006.out (by decide)) (fun _ hk => hk.2) (.int .i64 ((rd_T56 t22001 x20_1).f0))) (fun _ hk => hk.2) (.int .i64 ((rd_T56 t22001 x20_1).f1))) (fun _ hk => hk.2) (.bool ((rd_T56 t22001 x20_1).f2))) (fun _ h_ => h_.1)))) (by decide) hg); have n1_ := Aside0.mk (blk_grown (g := gb22006) (o := .cells #[.int .i64 ((rd_T56 t22001 x20_1).f0), .int .i64 ((rd_T56 t22001 x20_1).f1), .bool ((rd_T56 t22001 x20_1).f2)] 56 (0, 0)) (by refine blk_put (cs := #[.int .i64 ((rd_T56 t22001 x20_1).f0), .int .i64 ((rd_T56 t22001 x20_1).f1), .bool false]) ?_ 2 _ rfl; refine blk_put (cs := #[.int .i64 ((rd_T56 t22001 x20_1).f0), .int .i64 0, .bool false]) ?_ 1 _ rfl; refine blk_put (cs := #[.int .i64 0, .int .i64 0, .bool false]) ?_ 0 _ rfl; exact BK22006.out) hg (Kd.R_ne HO_6.out BK22006.out (by decide))); have n2_ := Aside0.mk (hb); have n3_ := Aside0.mk (ho); clear HO_18; clear BK22006; clear HB; clear HO_6; have HO_18 := n0_; have BK22006 := n1_; have HB := n2_; have HO22009 := n3_; clear n0_ n1_ n2_ n3_; clear ho hb hg hat; have hcz14_0 : w13.cell? ⟨gb22006, 0, none⟩ = some (.int .i64 ((rd_T56 t22001 x20_1).f0)) := (blk_cell BK22006.out 0).trans rfl; have hcz14_1 : w13.cell? ⟨gb22006, 1, none⟩ = some (.int .i64 ((rd_T56 t22001 x20_1).f1)) := (blk_cell BK22006.out 1).trans rfl; have hcz14_2 : w13.cell? ⟨gb22006, 2, none⟩ = some (.bool ((rd_T56 t22001 x20_1).f2)) := (blk_cell BK22006.out 2).trans rfl; have hfz14_0 := blk_frozen BK22006.out 0; have hfz14_1 := blk_frozen BK22006.out 1; have hfz14_2 := blk_frozen BK22006.out 2))
         go_roundg k1
         case measure => have := HK1.out; omega
         case rel => exact ⟨(y22007), (wrap64 (x7_1 + ((rd_T56 t22001 x20_1).f1))), (wrap64 (x20_1 + 1)), (by first | rfl | (simp; done) | (simp [*]; done)), (by first | rfl | (simp; done) | (simp [*]; done)), H', ⟨by have := HK1.out; omega⟩, ⟨HO22009.out⟩, ⟨by exact Kd.R_mono HO_18.out (fun _ hk => trivial)⟩, ⟨by repeat (first | exact HB.out | apply below_alloc | apply pw_below_drewN | apply below_drew1 | refine below_set ?_ GE22006.out)⟩⟩
        ·rw [if_neg c10] at H
         exact absurd H (by simp)
       ·rw [if_neg c9] at H
        have c9b0 : decide (0 < x20_1) = false := decide_eq_false c9
        clear c9
        have H' := Aside0.mk H
        clear H
        have p22005 : 0 ≤ (x20_1 : Int) := of_decide_eq_true (by assumption)
        have q22005 : x20_1 < (t22001.length : Int) := of_decide_eq_true (by assumption)
        obtain ⟨ad22005, e22005, hx22005_0, hx22005_1, hx22005_2⟩ := at_T56 (Kd.R_reads' HO_18.out).2.2 x20_1 p22005 q22005
        cases e22005
        replace p22005 := eq_true p22005
        replace q22005 := eq_true q22005
        go_wp2_with (first | ((with_reducible refine gate_dst (N := 9) rfl ?_); refine box_event ?hg (N := 9) ?hd (cs := #[.int .i64 0, .int .i64 0, .bool false]) (t := 56) ?hr ?_; (case hd => rfl); (case hg => rfl); (case hr => first | (go_simp; done) | (go_simp; rfl)); intro gb22006 hg w15 hbox hb; have n0_ := Aside0.mk (Kd.R_below (HO_6.out) hb); have n1_ := Aside0.mk (Kd.R_below (Kd.R_elderB (HO_18.out) gb22006 (Nat.le_of_eq hg.symm)) hb); have n2_ := Aside0.mk (below_step (by repeat (first | exact HB.out | apply below_alloc | apply pw_below_drewN | apply below_drew1)) hb); have n3_ := Aside0.mk (hbox); have n4_ := Aside0.mk ((by rw [hg]; exact (below_size (by repeat (first | exact HB.out | apply below_alloc | apply pw_below_drewN | apply below_drew1))) : w.heap.size ≤ gb22006)); have n5_ := Aside0.mk ((by rw [hg]; exact (below_size (by repeat (first | exact HB.out | apply below_alloc | apply pw_below_drewN | apply below_drew1))) : w.heap.size ≤ gb22006)); clear HO_6; clear HO_18; clear HB; have HO_6 := n0_; have HO_18 := n1_; have HB := n2_; have BK22006 := n3_; have GW22006 := n4_; have GE22006 := n5_; clear n0_ n1_ n2_ n3_ n4_ n5_; clear hb hbox hg; have hcz16_0 : w15.cell? ⟨gb22006, 0, none⟩ = some (.int .i64 0) := (blk_cell BK22006.out 0).trans rfl; have hcz16_1 : w15.cell? ⟨gb22006, 1, none⟩ = some (.int .i64 0) := (blk_cell BK22006.out 1).trans rfl; have hcz16_2 : w15.cell? ⟨gb22006, 2, none⟩ = some (.bool false) := (blk_cell BK22006.out 2).trans rfl; have hfz16_0 := blk_frozen BK22006.out 0; have hfz16_1 := blk_frozen BK22006.out 1; have hfz16_2 := blk_frozen BK22006.out 2))
        go_roundg k1
        case measure => have := HK1.out; omega
        case rel => exact ⟨(x6_1), (wrap64 (x7_1 + ((rd_T56 t22001 x20_1).f1))), (wrap64 (x20_1 + 1)), (by first | rfl | (simp; done) | (simp [*]; done)), (by first | rfl | (simp; done) | (simp [*]; done)), H', ⟨by have := HK1.out; omega⟩, ⟨by exact Kd.R_mono (Kd.R_far (p := ⟨gb22006, 2, none⟩) (Kd.R_far (p := ⟨gb22006, 1, none⟩) (Kd.R_far (p := ⟨gb22006, 0, none⟩) (Kd.R_types HO_6.out BK22006.out (by decide)) (fun _ hk => hk.2) (.int .i64 ((rd_T56 t22001 x20_1).f0))) (fun _ hk => hk.2) (.int .i64 ((rd_T56 t22001 x20_1).f1))) (fun _ hk => hk.2) (.bool ((rd_T56 t22001 x20_1).f2))) (fun _ hk => trivial)⟩, ⟨by exact Kd.R_mono (Kd.R_far (p := ⟨gb22006, 2, none⟩) (Kd.R_far (p := ⟨gb22006, 1, none⟩) (Kd.R_far (p := ⟨gb22006, 0, none⟩) (Kd.R_mono HO_18.out (fun k_ hk => (⟨hk, hk.2⟩ : _ ∧ k_ ≠ gb22006))) (fun _ hk => hk.2) (.int .i64 ((rd_T56 t22001 x20_1).f0))) (fun _ hk => hk.2) (.int .i64 ((rd_T56 t22001 x20_1).f1))) (fun _ hk => hk.2) (.bool ((rd_T56 t22001 x20_1).f2))) (fun _ hk => trivial)⟩, ⟨by repeat (first | exact HB.out | apply below_alloc | apply pw_below_drewN | apply below_drew1 | refine below_set ?_ GE22006.out)⟩⟩
      ·rw [if_neg c8] at H
       exact absurd H (by simp)
     ·rw [if_neg c7] at H
      exact absurd H (by simp)
    ·rw [if_neg c6] at H
     have c6b0 : decide (x20_1 < (t22001.length : Int)) = false := decide_eq_false c6
     clear c6
     simp only [Option.some.injEq, Prod.mk.injEq] at H
     obtain ⟨rfl, rfl⟩ := H
     go_wp2
     go_ret2
     exact ⟨_, by first | rfl | (simp [errW_none, errW_some] <;> rfl) | (simp [*, errW_none, errW_some] <;> rfl), by exact HO_6.out, by repeat (first | exact HB.out | apply below_alloc | apply pw_below_drewN | apply below_drew1)⟩
 ·rw [if_neg c3] at H
  have c3b0 : (t22002 == 0) = false := beq_eq_false_iff_ne.mpr c3
  have c3b1 : (t22002 != 0) = true := bne_iff_ne.mpr c3
  simp only [Option.some.injEq, Prod.mk.injEq] at H
  obtain ⟨rfl, rfl⟩ := H
  go_enter Try.func21, Try.ntmps21
  go_wp2_with (first | ((with_reducible refine gate_callee (f := 41) rfl ?_); refine goesL_ (some 12) rfl rfl Try.func41 (by kernel_rfl) rfl #[.slice A0 l0.length c0] rfl (by (try simp only [List.map_toArray, List.map_cons, List.map_nil]); first | done | rfl | (simp only [List.length_drop, List.length_take]; rfl)) ?_; (with_reducible refine (iso_Norm.calls _ _ l0 t22001 t22002 _ ?side1 ?side2 A2.out).mono ?_); (case side1 => exact HR0.out); (case side2 => exact HC0.out); rintro e w17 ⟨v22003, rfl, ho0, hb⟩; refine ⟨_, rfl, ?_⟩; have n0_ := Aside0.mk (Kd.R_lower ho0 (below_size (by repeat (first | exact HB.out | apply below_alloc | apply pw_below_drewN | apply below_drew1)))); have n1_ := Aside0.mk (below_step (by repeat (first | exact HB.out | apply below_alloc | apply pw_below_drewN | apply below_drew1)) hb); clear HB; have HO22004 := n0_; have HB := n1_; clear n0_ n1_; (try clear hb); (try clear hb2); (try clear hk); (try clear hi); (try clear ho0)))
  go_ret2
  exact ⟨_, by first | rfl | (simp [errW_none, errW_some] <;> rfl) | (simp [*, errW_none, errW_some] <;> rfl), by first | exact Kd.R_nil _ _ _ _ _ | exact Kd.N_nil _ _ _ _ _ | exact Kd.V_nil _ _ _ _ _ | exact Kd.Q_nil _ _ _ _ _ | exact Kd.S_nil _ _ _ _ _, by repeat (first | exact HB.out | apply below_alloc | apply pw_below_drewN | apply below_drew1)⟩

end Go.Proofs.Ytjkakgkiikjdmaa.G

namespace Go.Proofs.Ytjkakgkiikjdmaa.G
open Go.RowKit Go.Proofs.YtjkakgkiikjdmaaW.PrintWords Go.Proofs.YtjkakgkiikjdmaaW.PrintLast Go.Proofs.YtjkakgkiikjdmaaW.PrintMore
attribute [local go_sem] max2_int min2_int max_two min_two max_three min_three max_four min_four   -- for this text's walks alone
set_option linter.unusedVariables false
set_option linter.unusedSimpArgs false

def splice_Count.f (k : Nat) (l0 : List (S56)) : Option (Int × Int) := (splice_Places.f k l0).bind fun bt24001 => (some ((bt24001.1.length : Int), bt24001.2))
theorem splice_Count.mono : ∀ a0 k, LeO (splice_Count.f k a0) (splice_Count.f (k + 1) a0) := by
  intro a0 k
  unfold splice_Count.f
  repeat' first
      | (with_reducible exact splice_Places.mono _ _)
      | (with_reducible exact LeO.refl _)
      | (with_reducible exact LeO.none _)
      | (with_reducible refine LeO.ite ?_ ?_)
      | (with_reducible refine LeO.bind ?_ (fun _ => ?_))
      | exact splice_Places.mono _ _
      | exact LeO.none _
      | refine LeO.ite ?_ ?_
      | refine LeO.bind ?_ (fun _ => ?_)
set_option maxHeartbeats 8000000 in
set_option maxRecDepth 100000 in
theorem splice_Count.calls (k : Nat) (A0 : Option Addr) (c0 : Nat) (l0 : List (S56)) (r1 : Int) (r2 : Int) (w : World) (hr0 : Kd.C k56 w A0 l0.length l0) (hc0 : l0.length ≤ c0) (h : splice_Count.f k l0 = some (r1, r2)) :
    Calls Try.prog 23 #[.slice A0 l0.length c0] w fun e w' => e = .returned (.tuple #[.int .i64 r1, .int .i64 r2]) ∧ Below w.heap.size w w' := by
  have HR0 := Aside0.mk hr0
  have HC0 := Aside0.mk hc0
  clear hr0 hc0
  have HB := Aside0.mk (Below.refl w.heap.size w)
  have H : ((splice_Places.f k l0).bind fun bt24001 => (some ((bt24001.1.length : Int), bt24001.2))) = some (r1, r2) := h
  clear h
  replace H := Option.bind_eq_some_iff.mp H
  obtain ⟨⟨t24001, t24002⟩, A20, H⟩ := H
  replace H : (some ((t24001.length : Int), t24002)) = some (r1, r2) := H
  have A2 := Aside0.mk A20
  clear A20
  simp only [Option.some.injEq, Prod.mk.injEq] at H
  obtain ⟨rfl, rfl⟩ := H
  go_enter Try.func23, Try.ntmps23
  go_wp2_with (first | ((with_reducible refine gate_callee (f := 21) rfl ?_); refine goesL_ (some 8) rfl rfl Try.func21 (by kernel_rfl) rfl #[.slice A0 l0.length c0] rfl (by (try simp only [List.map_toArray, List.map_cons, List.map_nil]); first | done | rfl | (simp only [List.length_drop, List.length_take]; rfl)) ?_; (with_reducible refine (splice_Places.calls k _ _ l0 t24001 t24002 _ ?side1 ?side2 A2.out).mono ?_); (case side1 => exact HR0.out); (case side2 => exact HC0.out); rintro e w3 ⟨v24003, rfl, ho0, hb⟩; refine ⟨_, rfl, ?_⟩; have n0_ := Aside0.mk (Kd.R_lower ho0 (below_size (by repeat (first | exact HB.out | apply below_alloc | apply pw_below_drewN | apply below_drew1)))); have n1_ := Aside0.mk (below_step (by repeat (first | exact HB.out | apply below_alloc | apply pw_below_drewN | apply below_drew1)) hb); clear HB; have HO24004 := n0_; have HB := n1_; clear n0_ n1_; (try clear hb); (try clear hb2); (try clear hk); (try clear hi); (try clear ho0); obtain ⟨Ao4, co4, eo4⟩ := Kd.R_slice HO24004.out; subst eo4))
  go_ret2
  exact ⟨by first | rfl | (simp [errW_none, errW_some] <;> rfl) | (simp [*, errW_none, errW_some] <;> rfl), by repeat (first | exact HB.out | apply below_alloc | apply pw_below_drewN | apply below_drew1)⟩

end Go.Proofs.Ytjkakgkiikjdmaa.G

namespace Go.Proofs.Ytjkakgkiikjdmaa.G
open Go.RowKit Go.Proofs.YtjkakgkiikjdmaaW.PrintWords Go.Proofs.YtjkakgkiikjdmaaW.PrintLast Go.Proofs.YtjkakgkiikjdmaaW.PrintMore
attribute [local go_sem] max2_int min2_int max_two min_two max_three min_three max_four min_four   -- for this text's walks alone
set_option linter.unusedVariables false
set_option linter.unusedSimpArgs false

def iso_Length.f (k : Nat) (l0 : List (S56)) : Option (Int × Int) := (iso_Check.f k l0).bind fun t30001 => (if t30001 = 0 then ((iso_length.f k l0).bind fun t30002 => (some (t30002, 0))) else (some (0, t30001)))
theorem iso_Length.mono : ∀ a0 k, LeO (iso_Length.f k a0) (iso_Length.f (k + 1) a0) := by
  intro a0 k
  unfold iso_Length.f
  repeat' first
      | (with_reducible exact iso_Check.mono _ _)
      | (with_reducible exact iso_length.mono _ _)
      | (with_reducible exact LeO.refl _)
      | (with_reducible exact LeO.none _)
      | (with_reducible refine LeO.ite ?_ ?_)
      | (with_reducible refine LeO.bind ?_ (fun _ => ?_))
      | exact iso_Check.mono _ _
      | exact iso_length.mono _ _
      | exact LeO.none _
      | refine LeO.ite ?_ ?_
      | refine LeO.bind ?_ (fun _ => ?_)
set_option maxHeartbeats 8000000 in
set_option maxRecDepth 100000 in
theorem iso_Length.calls (k : Nat) (A0 : Option Addr) (c0 : Nat) (l0 : List (S56)) (r1 : Int) (r2 : Int) (w : World) (hr0 : Kd.C k56 w A0 l0.length l0) (hc0 : l0.length ≤ c0) (h : iso_Length.f k l0 = some (r1, r2)) :
    Calls Try.prog 29 #[.slice A0 l0.length c0] w fun e w' => e = .returned (.tuple #[.int .i64 r1, .int .i64 r2]) ∧ Below w.heap.size w w' := by
  have HR0 := Aside0.mk hr0
  have HC0 := Aside0.mk hc0
  clear hr0 hc0
  have HB := Aside0.mk (Below.refl w.heap.size w)
  have H : ((iso_Check.f k l0).bind fun t30001 => (if t30001 = 0 then ((iso_length.f k l0).bind fun t30002 => (some (t30002, 0))) else (some (0, t30001)))) = some (r1, r2) := h
  clear h
  replace H := Option.bind_eq_some_iff.mp H
  obtain ⟨t30001, A20, H⟩ := H
  replace H : (if t30001 = 0 then ((iso_length.f k l0).bind fun t30002 => (some (t30002, 0))) else (some (0, t30001))) = some (r1, r2) := H
  have A2 := Aside0.mk A20
  clear A20
  by_cases c3 : t30001 = 0
  · rw [if_pos c3] at H
    have c3b0 : (t30001 == 0) = true := beq_iff_eq.mpr c3
    have c3b1 : (t30001 != 0) = false := bne_eq_false_iff_eq.mpr c3
    clear c3
    replace H := Option.bind_eq_some_iff.mp H
    obtain ⟨t30002, A40, H⟩ := H
    replace H : (some (t30002, 0)) = some (r1, r2) := H
    have A4 := Aside0.mk A40
    clear A40
    simp only [Option.some.injEq, Prod.mk.injEq] at H
    obtain ⟨rfl, rfl⟩ := H
    go_enter Try.func29, Try.ntmps29
    go_wp2_with (first | ((with_reducible refine gate_callee (f := 48) rfl ?_); refine goesL_ (some 6) rfl rfl Try.func48 (by kernel_rfl) rfl #[.slice A0 l0.length c0] rfl (by (try simp only [List.map_toArray, List.map_cons, List.map_nil]); first | done | rfl | (simp only [List.length_drop, List.length_take]; rfl)) ?_; (with_reducible refine (iso_Check.calls k _ _ l0 t30001 _ ?side1 ?side2 A2.out).mono ?_); (case side1 => exact HR0.out); (case side2 => exact HC0.out); rintro e w5 ⟨rfl, hb⟩; refine ⟨_, rfl, ?_⟩; have n0_ := Aside0.mk (below_step (by repeat (first | exact HB.out | apply below_alloc | apply pw_below_drewN | apply below_drew1)) hb); clear HB; have HB := n0_; clear n0_; (try clear hb); (try clear hb2); (try clear hk); (try clear hi)) | ((with_reducible refine gate_callee (f := 49) rfl ?_); refine goesL_ (some 11) rfl rfl Try.func49 (by kernel_rfl) rfl #[.slice A0 l0.length c0] rfl (by (try simp only [List.map_toArray, List.map_cons, List.map_nil]); first | done | rfl | (simp only [List.length_drop, List.length_take]; rfl)) ?_; (with_reducible refine (iso_length.calls k _ _ l0 t30002 _ ?side1 ?side2 A4.out).mono ?_); (case side1 => exact (Kd.C_below HR0.out HB.out)); (case side2 => exact HC0.out); rintro e w6 ⟨rfl, hb⟩; refine ⟨_, rfl, ?_⟩; have n0_ := Aside0.mk (below_step (by repeat (first | exact HB.out | apply below_alloc | apply pw_below_drewN | apply below_drew1)) hb); clear HB; have HB := n0_; clear n0_; (try clear hb); (try clear hb2); (try clear hk); (try clear hi)))
    go_ret2
    exact ⟨by first | rfl | (simp [errW_none, errW_some] <;> rfl) | (simp [*, errW_none, errW_some] <;> rfl), by repeat (first | exact HB.out | apply below_alloc | apply pw_below_drewN | apply below_drew1)⟩
  · rw [if_neg c3] at H
    have c3b0 : (t30001 == 0) = false := beq_eq_false_iff_ne.mpr c3
    have c3b1 : (t30001 != 0) = true := bne_iff_ne.mpr c3
    simp only [Option.some.injEq, Prod.mk.injEq] at H
    obtain ⟨rfl, rfl⟩ := H
    go_enter Try.func29, Try.ntmps29
    go_wp2_with (first | ((with_reducible refine gate_callee (f := 48) rfl ?_); refine goesL_ (some 6) rfl rfl Try.func48 (by kernel_rfl) rfl #[.slice A0 l0.length c0] rfl (by (try simp only [List.map_toArray, List.map_cons, List.map_nil]); first | done | rfl | (simp only [List.length_drop, List.length_take]; rfl)) ?_; (with_reducible refine (iso_Check.calls k _ _ l0 t30001 _ ?side1 ?side2 A2.out).mono ?_); (case side1 => exact HR0.out); (case side2 => exact HC0.out); rintro e w7 ⟨rfl, hb⟩; refine ⟨_, rfl, ?_⟩; have n0_ := Aside0.mk (below_step (by repeat (first | exact HB.out | apply below_alloc | apply pw_below_drewN | apply below_drew1)) hb); clear HB; have HB := n0_; clear n0_; (try clear hb); (try clear hb2); (try clear hk); (try clear hi)))
    go_ret2
    exact ⟨by first | rfl | (simp [errW_none, errW_some] <;> rfl) | (simp [*, errW_none, errW_some] <;> rfl), by repeat (first | exact HB.out | apply below_alloc | apply pw_below_drewN | apply below_drew1)⟩

end Go.Proofs.Ytjkakgkiikjdmaa.G

namespace Go.Proofs.Ytjkakgkiikjdmaa.G
open Go.RowKit Go.Proofs.YtjkakgkiikjdmaaW.PrintWords Go.Proofs.YtjkakgkiikjdmaaW.PrintLast Go.Proofs.YtjkakgkiikjdmaaW.PrintMore
attribute [local go_sem] max2_int min2_int max_two min_two max_three min_three max_four min_four   -- for this text's walks alone
set_option linter.unusedVariables false
set_option linter.unusedSimpArgs false

attribute [local go_sem high] eqA49
def papermillref04_Same.l0 : Nat → List (S49) → List (S49) → Int → Option (Bool)
 | 0, _, _, _ => none
 | k + 1, x0, x1, x5 => if x5 < (x0.length : Int) then (if 0 ≤ x5 then (if x5 < (x1.length : Int) then (if (!(((rd_T49 x0 x5).f0) == ((rd_T49 x1 x5).f0)) || (!(((rd_T49 x0 x5).f1) == ((rd_T49 x1 x5).f1)))) = true then (some false) else (papermillref04_Same.l0 k x0 x1 (wrap64 (x5 + 1)))) else (none)) else (none)) else (some true)
def papermillref04_Same.f (k : Nat) (l0 : List (S49)) (l1 : List (S49)) : Option (Bool) := if (l0.length : Int) = (l1.length : Int) then (papermillref04_Same.l0 k l0 l1 0) else (some false)
theorem papermillref04_Same.mono_l : ∀ k, (∀ y0 y1 y2, LeO (papermillref04_Same.l0 k y0 y1 y2) (papermillref04_Same.l0 (k + 1) y0 y1 y2))
 | 0 => fun _ _ _ r h => by simp [papermillref04_Same.l0] at h
 | k + 1 => by
  have ih0 := papermillref04_Same.mono_l k
  ·intro y0 y1 y2
   unfold papermillref04_Same.l0
   repeat' first
   | (with_reducible exact ih0 _ _ _)
   | (with_reducible exact LeO.refl _)
   | (with_reducible exact LeO.none _)
   | (with_reducible refine LeO.ite ?_ ?_)
   | (with_reducible refine LeO.bind ?_ (fun _ => ?_))
   | exact ih0 _ _ _
   | exact LeO.none _
   | refine LeO.ite ?_ ?_
   | refine LeO.bind ?_ (fun _ => ?_)
theorem papermillref04_Same.mono : ∀ a0 a1 k, LeO (papermillref04_Same.f k a0 a1) (papermillref04_Same.f (k + 1) a0 a1) := by
 intro a0 a1 k
 have ih0 := papermillref04_Same.mono_l k
 unfold papermillref04_Same.f
 repeat' first
   | (with_reducible exact ih0 _ _ _)
   | (with_reducible exact LeO.refl _)
   | (with_reducible exact LeO.none _)
   | (with_reducible refine LeO.ite ?_ ?_)
   | (with_reducible refine LeO.bind ?_ (fun _ => ?_))
   | exact ih0 _ _ _
   | exact LeO.none _
   | refine LeO.ite ?_ ?_
   | refine LeO.bind ?_ (fun _ => ?_)
set_option maxHeartbeats 8000000 in
set_option maxRecDepth 100000 in
theorem papermillref04_Same.calls (k : Nat) (A0 : Option Addr) (c0 : Nat) (l0 : List (S49)) (A1 : Option Addr) (c1 : Nat) (l1 : List (S49)) (r : Bool) (w : World) (hr0 : Kd.C k49 w A0 l0.length l0) (hc0 : l0.length ≤ c0) (hr1 : Kd.C k49 w A1 l1.length l1) (hc1 : l1.length ≤ c1) (h : papermillref04_Same.f k l0 l1 = some r) :
  Calls Try.prog 17 #[.slice A0 l0.length c0, .slice A1 l1.length c1] w fun e w' => e = .returned (.bool r) ∧ Drawn0 w w' := by
 have hu49 := Try.underlying49
 have HR0 := Aside0.mk hr0
 have HC0 := Aside0.mk hc0
 clear hr0 hc0
 have HR1 := Aside0.mk hr1
 have HC1 := Aside0.mk hc1
 clear hr1 hc1
 have H : (if (l0.length : Int) = (l1.length : Int) then (papermillref04_Same.l0 k l0 l1 0) else (some false)) = some r := h
 clear h
 by_cases c3 : (l0.length : Int) = (l1.length : Int)
 ·rw [if_pos c3] at H
  have c3b0 : ((l0.length : Int) == (l1.length : Int)) = true := beq_iff_eq.mpr c3
  have c3b1 : ((l0.length : Int) != (l1.length : Int)) = false := bne_eq_false_iff_eq.mpr c3
  have c3b2 : (l0.length == l1.length) = true := by first | simpa using c3 | (simp at c3 ⊢; omega)
  clear c3
  have H' := Aside0.mk H
  clear H
  go_enter Try.func17, Try.ntmps17
  go_wp2
  repeat (go_quiet (fail); try go_wp2)
  go_loopg [5] k (fun kq v5 w' => ∃ (x5_1 : Int), v5 = .int .i64 x5_1 ∧ Aside0 (papermillref04_Same.l0 kq l0 l1 x5_1 = some r) ∧ Aside0 (kq ≤ k) ∧ Drawn0 w w')
  case atStart => exact ⟨(0), (by first | rfl | (simp; done) | (simp [*]; done)), H', ⟨Nat.le_refl _⟩, by repeat (first | exact Drawn0.refl _ | apply Drawn0.step)⟩
  case round =>
   clear H'
   try clear c1
   try clear p2
   try clear c3
   try clear c3b0
   try clear c3b1
   try clear c3b2
   obtain ⟨x5_1, rfl, HA, HK1, ⟨m1, rfl⟩⟩ := hrel
   cases gk with
   | zero => exact absurd HA.out (by simp [papermillref04_Same.l0])
   | succ k1 =>
    have H := HA.out
    clear HA
    simp only [papermillref04_Same.l0] at H
    by_cases c4 : x5_1 < (l0.length : Int)
    ·rw [if_pos c4] at H
     have c4b0 : decide (x5_1 < (l0.length : Int)) = true := decide_eq_true c4
     clear c4
     by_cases c5 : 0 ≤ x5_1
     ·rw [if_pos c5] at H
      have c5b0 : decide (0 ≤ x5_1) = true := decide_eq_true c5
      clear c5
      by_cases c6 : x5_1 < (l1.length : Int)
      ·rw [if_pos c6] at H
       have c6b0 : decide (x5_1 < (l1.length : Int)) = true := decide_eq_true c6
       clear c6
       by_cases c7 : (!(((rd_T49 l0 x5_1).f0) == ((rd_T49 l1 x5_1).f0)) || (!(((rd_T49 l0 x5_1).f1) == ((rd_T49 l1 x5_1).f1)))) = true
       ·rw [if_pos c7] at H
        have c7b0 : (!(((rd_T49 l0 x5_1).f0) == ((rd_T49 l1 x5_1).f0)) || (!(((rd_T49 l0 x5_1).f1) == ((rd_T49 l1 x5_1).f1)))) = true := c7
        clear c7
        obtain rfl := Option.some.inj H
        have p18001 : 0 ≤ (x5_1 : Int) := of_decide_eq_true (by assumption)
        have q18001 : x5_1 < (l0.length : Int) := of_decide_eq_true (by assumption)
        obtain ⟨ad18001, e18001, hx18001_0, hx18001_1⟩ := at_T49 HR0.out x5_1 p18001 q18001
        cases e18001
        replace p18001 := eq_true p18001
        replace q18001 := eq_true q18001
        have p18002 : 0 ≤ (x5_1 : Int) := of_decide_eq_true (by assumption)
        have q18002 : x5_1 < (l1.length : Int) := of_decide_eq_true (by assumption)
        obtain ⟨ad18002, e18002, hx18002_0, hx18002_1⟩ := at_T49 HR1.out x5_1 p18002 q18002
        cases e18002
        replace p18002 := eq_true p18002
        replace q18002 := eq_true q18002
        go_wp2
        repeat (go_quiet (fail); try go_wp2)
        go_ret
        exact ⟨by first | rfl | (simp; done) | (simp [*]; done), by repeat (first | exact Drawn0.refl _ | apply Drawn0.step)⟩
       ·rw [if_neg c7] at H
        have c7b0 : (!(((rd_T49 l0 x5_1).f0) == ((rd_T49 l1 x5_1).f0)) || (!(((rd_T49 l0 x5_1).f1) == ((rd_T49 l1 x5_1).f1)))) = false := by simpa using c7
        clear c7
        have H' := Aside0.mk H
        clear H
        have p18001 : 0 ≤ (x5_1 : Int) := of_decide_eq_true (by assumption)
        have q18001 : x5_1 < (l0.length : Int) := of_decide_eq_true (by assumption)
        obtain ⟨ad18001, e18001, hx18001_0, hx18001_1⟩ := at_T49 HR0.out x5_1 p18001 q18001
        cases e18001
        replace p18001 := eq_true p18001
        replace q18001 := eq_true q18001
        have p18002 : 0 ≤ (x5_1 : Int) := of_decide_eq_true (by assumption)
        have q18002 : x5_1 < (l1.length : Int) := of_decide_eq_true (by assumption)
        obtain ⟨ad18002, e18002, hx18002_0, hx18002_1⟩ := at_T49 HR1.out x5_1 p18002 q18002
        cases e18002
        replace p18002 := eq_true p18002
        replace q18002 := eq_true q18002
        go_wp2
        repeat (go_quiet (fail); try go_wp2)
        go_roundg k1
        case measure => have := HK1.out; omega
        case rel => exact ⟨(wrap64 (x5_1 + 1)), (by first | rfl | (simp; done) | (simp [*]; done)), H', ⟨by have := HK1.out; omega⟩, by repeat (first | exact Drawn0.refl _ | apply Drawn0.step)⟩
      ·rw [if_neg c6] at H
       exact absurd H (by simp)
     ·rw [if_neg c5] at H
      exact absurd H (by simp)
    ·rw [if_neg c4] at H
     have c4b0 : decide (x5_1 < (l0.length : Int)) = false := decide_eq_false c4
     clear c4
     obtain rfl := Option.some.inj H
     go_wp2
     repeat (go_quiet (fail); try go_wp2)
     go_ret
     exact ⟨by first | rfl | (simp; done) | (simp [*]; done), by repeat (first | exact Drawn0.refl _ | apply Drawn0.step)⟩
 ·rw [if_neg c3] at H
  have c3b0 : ((l0.length : Int) == (l1.length : Int)) = false := beq_eq_false_iff_ne.mpr c3
  have c3b1 : ((l0.length : Int) != (l1.length : Int)) = true := bne_iff_ne.mpr c3
  have c3b2 : (l0.length == l1.length) = false := by first | simpa using c3 | (simp at c3 ⊢; omega)
  obtain rfl := Option.some.inj H
  go_enter Try.func17, Try.ntmps17
  go_wp2
  repeat (go_quiet (fail); try go_wp2)
  go_ret
  exact ⟨by first | rfl | (simp; done) | (simp [*]; done), by repeat (first | exact Drawn0.refl _ | apply Drawn0.step)⟩

end Go.Proofs.Ytjkakgkiikjdmaa.G

namespace Go.Proofs.Ytjkakgkiikjdmaa.G
open Go.RowKit Go.Proofs.YtjkakgkiikjdmaaW.PrintWords Go.Proofs.YtjkakgkiikjdmaaW.PrintLast Go.Proofs.YtjkakgkiikjdmaaW.PrintMore
attribute [local go_sem] max2_int min2_int max_two min_two max_three min_three max_four min_four   -- for this text's walks alone
set_option linter.unusedVariables false
set_option linter.unusedSimpArgs false

def papermillref40_Ints.l0 : Nat → List Int → List Int → Int → Option (Bool)
 | 0, _, _, _ => none
 | k + 1, x0, x1, x5 => if x5 < (x0.length : Int) then (if 0 ≤ x5 then (if x5 < (x1.length : Int) then (if (rd x0 x5) = (rd x1 x5) then (papermillref40_Ints.l0 k x0 x1 (wrap64 (x5 + 1))) else (some false)) else (none)) else (none)) else (some true)
def papermillref40_Ints.f (k : Nat) (l0 : List Int) (l1 : List Int) : Option (Bool) := if (l0.length : Int) = (l1.length : Int) then (papermillref40_Ints.l0 k l0 l1 0) else (some false)
theorem papermillref40_Ints.mono_l : ∀ k, (∀ y0 y1 y2, LeO (papermillref40_Ints.l0 k y0 y1 y2) (papermillref40_Ints.l0 (k + 1) y0 y1 y2))
 | 0 => fun _ _ _ r h => by simp [papermillref40_Ints.l0] at h
 | k + 1 => by
  have ih0 := papermillref40_Ints.mono_l k
  ·intro y0 y1 y2
   unfold papermillref40_Ints.l0
   repeat' first
   | (with_reducible exact ih0 _ _ _)
   | (with_reducible exact LeO.refl _)
   | (with_reducible exact LeO.none _)
   | (with_reducible refine LeO.ite ?_ ?_)
   | (with_reducible refine LeO.bind ?_ (fun _ => ?_))
   | exact ih0 _ _ _
   | exact LeO.none _
   | refine LeO.ite ?_ ?_
   | refine LeO.bind ?_ (fun _ => ?_)
theorem papermillref40_Ints.mono : ∀ a0 a1 k, LeO (papermillref40_Ints.f k a0 a1) (papermillref40_Ints.f (k + 1) a0 a1) := by
 intro a0 a1 k
 have ih0 := papermillref40_Ints.mono_l k
 unfold papermillref40_Ints.f
 repeat' first
   | (with_reducible exact ih0 _ _ _)
   | (with_reducible exact LeO.refl _)
   | (with_reducible exact LeO.none _)
   | (with_reducible refine LeO.ite ?_ ?_)
   | (with_reducible refine LeO.bind ?_ (fun _ => ?_))
   | exact ih0 _ _ _
   | exact LeO.none _
   | refine LeO.ite ?_ ?_
   | refine LeO.bind ?_ (fun _ => ?_)
set_option maxHeartbeats 8000000 in
set_option maxRecDepth 100000 in
theorem papermillref40_Ints.calls (k : Nat) (A0 : Option Addr) (c0 : Nat) (l0 : List Int) (A1 : Option Addr) (c1 : Nat) (l1 : List Int) (r : Bool) (w : World) (hr0 : Kd.C (Kd.int .i64) w A0 l0.length l0) (hc0 : l0.length ≤ c0) (hr1 : Kd.C (Kd.int .i64) w A1 l1.length l1) (hc1 : l1.length ≤ c1) (h : papermillref40_Ints.f k l0 l1 = some r) :
  Calls Try.prog 25 #[.slice A0 l0.length c0, .slice A1 l1.length c1] w fun e w' => e = .returned (.bool r) ∧ Drawn0 w w' := by
 have HR0 := Aside0.mk hr0
 have HC0 := Aside0.mk hc0
 clear hr0 hc0
 have HR1 := Aside0.mk hr1
 have HC1 := Aside0.mk hc1
 clear hr1 hc1
 have H : (if (l0.length : Int) = (l1.length : Int) then (papermillref40_Ints.l0 k l0 l1 0) else (some false)) = some r := h
 clear h
 by_cases c3 : (l0.length : Int) = (l1.length : Int)
 ·rw [if_pos c3] at H
  have c3b0 : ((l0.length : Int) == (l1.length : Int)) = true := beq_iff_eq.mpr c3
  have c3b1 : ((l0.length : Int) != (l1.length : Int)) = false := bne_eq_false_iff_eq.mpr c3
  have c3b2 : (l0.length == l1.length) = true := by first | simpa using c3 | (simp at c3 ⊢; omega)
  clear c3
  have H' := Aside0.mk H
  clear H
  go_enter Try.func25, Try.ntmps25
  go_wp2
  repeat (go_quiet (fail); try go_wp2)
  go_loopg [5] k (fun kq v5 w' => ∃ (x5_1 : Int), v5 = .int .i64 x5_1 ∧ Aside0 (papermillref40_Ints.l0 kq l0 l1 x5_1 = some r) ∧ Aside0 (kq ≤ k) ∧ Drawn0 w w')
  case atStart => exact ⟨(0), (by first | rfl | (simp; done) | (simp [*]; done)), H', ⟨Nat.le_refl _⟩, by repeat (first | exact Drawn0.refl _ | apply Drawn0.step)⟩
  case round =>
   clear H'
   try clear c1
   try clear c2
   try clear p2
   try clear c3
   try clear c3b0
   try clear c3b1
   try clear c3b2
   obtain ⟨x5_1, rfl, HA, HK1, ⟨m1, rfl⟩⟩ := hrel
   cases gk with
   | zero => exact absurd HA.out (by simp [papermillref40_Ints.l0])
   | succ k1 =>
    have H := HA.out
    clear HA
    simp only [papermillref40_Ints.l0] at H
    by_cases c4 : x5_1 < (l0.length : Int)
    ·rw [if_pos c4] at H
     have c4b0 : decide (x5_1 < (l0.length : Int)) = true := decide_eq_true c4
     clear c4
     by_cases c5 : 0 ≤ x5_1
     ·rw [if_pos c5] at H
      have c5b0 : decide (0 ≤ x5_1) = true := decide_eq_true c5
      clear c5
      by_cases c6 : x5_1 < (l1.length : Int)
      ·rw [if_pos c6] at H
       have c6b0 : decide (x5_1 < (l1.length : Int)) = true := decide_eq_true c6
       clear c6
       by_cases c7 : (rd l0 x5_1) = (rd l1 x5_1)
       ·rw [if_pos c7] at H
        have c7b0 : ((rd l0 x5_1) == (rd l1 x5_1)) = true := beq_iff_eq.mpr c7
        have c7b1 : ((rd l0 x5_1) != (rd l1 x5_1)) = false := bne_eq_false_iff_eq.mpr c7
        clear c7
        have H' := Aside0.mk H
        clear H
        have p26001 : 0 ≤ (x5_1 : Int) := of_decide_eq_true (by assumption)
        have q26001 : x5_1 < (l0.length : Int) := of_decide_eq_true (by assumption)
        obtain ⟨ad26001, e26001, hx26001_0⟩ := Kd.at_int HR0.out x5_1 p26001 q26001
        cases e26001
        replace p26001 := eq_true p26001
        replace q26001 := eq_true q26001
        have p26002 : 0 ≤ (x5_1 : Int) := of_decide_eq_true (by assumption)
        have q26002 : x5_1 < (l1.length : Int) := of_decide_eq_true (by assumption)
        obtain ⟨ad26002, e26002, hx26002_0⟩ := Kd.at_int HR1.out x5_1 p26002 q26002
        cases e26002
        replace p26002 := eq_true p26002
        replace q26002 := eq_true q26002
        go_wp2
        repeat (go_quiet (fail); try go_wp2)
        go_roundg k1
        case measure => have := HK1.out; omega
        case rel => exact ⟨(wrap64 (x5_1 + 1)), (by first | rfl | (simp; done) | (simp [*]; done)), H', ⟨by have := HK1.out; omega⟩, by repeat (first | exact Drawn0.refl _ | apply Drawn0.step)⟩
       ·rw [if_neg c7] at H
        have c7b0 : ((rd l0 x5_1) == (rd l1 x5_1)) = false := beq_eq_false_iff_ne.mpr c7
        have c7b1 : ((rd l0 x5_1) != (rd l1 x5_1)) = true := bne_iff_ne.mpr c7
        obtain rfl := Option.some.inj H
        have p26001 : 0 ≤ (x5_1 : Int) := of_decide_eq_true (by assumption)
        have q26001 : x5_1 < (l0.length : Int) := of_decide_eq_true (by assumption)
        obtain ⟨ad26001, e26001, hx26001_0⟩ := Kd.at_int HR0.out x5_1 p26001 q26001
        cases e26001
        replace p26001 := eq_true p26001
        replace q26001 := eq_true q26001
        have p26002 : 0 ≤ (x5_1 : Int) := of_decide_eq_true (by assumption)
        have q26002 : x5_1 < (l1.length : Int) := of_decide_eq_true (by assumption)
        obtain ⟨ad26002, e26002, hx26002_0⟩ := Kd.at_int HR1.out x5_1 p26002 q26002
        cases e26002
        replace p26002 := eq_true p26002
        replace q26002 := eq_true q26002
        go_wp2
        repeat (go_quiet (fail); try go_wp2)
        go_ret
        exact ⟨by first | rfl | (simp; done) | (simp [*]; done), by repeat (first | exact Drawn0.refl _ | apply Drawn0.step)⟩
      ·rw [if_neg c6] at H
       exact absurd H (by simp)
     ·rw [if_neg c5] at H
      exact absurd H (by simp)
    ·rw [if_neg c4] at H
     have c4b0 : decide (x5_1 < (l0.length : Int)) = false := decide_eq_false c4
     clear c4
     obtain rfl := Option.some.inj H
     go_wp2
     repeat (go_quiet (fail); try go_wp2)
     go_ret
     exact ⟨by first | rfl | (simp; done) | (simp [*]; done), by repeat (first | exact Drawn0.refl _ | apply Drawn0.step)⟩
 ·rw [if_neg c3] at H
  have c3b0 : ((l0.length : Int) == (l1.length : Int)) = false := beq_eq_false_iff_ne.mpr c3
  have c3b1 : ((l0.length : Int) != (l1.length : Int)) = true := bne_iff_ne.mpr c3
  have c3b2 : (l0.length == l1.length) = false := by first | simpa using c3 | (simp at c3 ⊢; omega)
  obtain rfl := Option.some.inj H
  go_enter Try.func25, Try.ntmps25
  go_wp2
  repeat (go_quiet (fail); try go_wp2)
  go_ret
  exact ⟨by first | rfl | (simp; done) | (simp [*]; done), by repeat (first | exact Drawn0.refl _ | apply Drawn0.step)⟩

end Go.Proofs.Ytjkakgkiikjdmaa.G

namespace Go.Proofs.Ytjkakgkiikjdmaa.G
open Go.RowKit Go.Proofs.YtjkakgkiikjdmaaW.PrintWords Go.Proofs.YtjkakgkiikjdmaaW.PrintLast Go.Proofs.YtjkakgkiikjdmaaW.PrintMore
open Go.ChangeShapes Go.WideShapes Go.Deep
set_option linter.unusedVariables false
set_option linter.unusedSimpArgs false

theorem pick_list {α : Type} {Q : Nat → α → Prop} : ∀ (n : Nat), (∀ i, i < n → ∃ v, Q i v) → ∃ l : List α, l.length = n ∧ ∀ i v, l[i]? = some v → Q i v
  | 0, _ => ⟨[], rfl, fun i v h => by simp at h⟩
  | n + 1, h => by
    obtain ⟨l, hl, hv⟩ := pick_list n (fun i hi => h i (by omega))
    obtain ⟨v, hv1⟩ := h n (by omega)
    refine ⟨l ++ [v], by simp [hl], fun i u hu => ?_⟩
    rcases Nat.lt_or_ge i l.length with h1 | h1
    · rw [List.getElem?_append_left h1] at hu; exact hv i u hu
    · have e : i = l.length := by
        have := (List.getElem?_eq_some_iff.1 hu).1; simp at this; omega
      subst e
      have : v = u := by simpa using hu
      subst this
      rw [hl]; exact hv1
def Opens {α : Type} (P : Program) (d : Kd α) (t : TypeId) (Wf : α → Prop) : Prop :=
  ∀ {H : Type} (enc : TypeId × Value → H) (W : World) (fuel : Nat) (cs : List Value) (x : DataW H × List MemPlace), DataW.trod enc P W 0 (fun _ => true) true fuel t cs = some x → ∃ v : α, d.K W v cs ∧ Wf v
theorem Opens.int {P : Program} {t : TypeId} {k : IntKind} (ht : P.underlying t = some (.int k)) : Opens P (Kd.int k) t (fun n => (Lit.int k n).wf = true) :=
  fun enc W fuel cs x h => by obtain ⟨n, rfl, _, hw⟩ := DataW.trod_int ht h; exact ⟨n, rfl, hw⟩
theorem Opens.bool {P : Program} {t : TypeId} (ht : P.underlying t = some .bool) : Opens P Kd.bool t (fun _ => True) :=
  fun enc W fuel cs x h => by obtain ⟨n, rfl, _⟩ := DataW.trod_bool ht h; exact ⟨n, rfl, trivial⟩
theorem Opens.slice {α : Type} {P : Program} {t e : TypeId} {d : Kd α} {Wf : α → Prop} (ht : P.underlying t = some (.slice e)) (hC : P.cellsOf e = d.sz) (h : Opens P d e Wf) :
    Opens P (Kd.slice e d) t (fun l => l.length ≤ maxLen ∧ ∀ x ∈ l, Wf x) := by
  intro H enc W fuel cs x hx
  rcases open_slice ht hx with ⟨rfl, _⟩ | ⟨a, len, cap, m, n, D, Pl, rfl, _, hl, hm, hmm, _, hi⟩
  · exact ⟨[], ⟨none, 0, rfl, Nat.le_refl _, rfl, by simp, fun h => absurd h (by simp)⟩, by simp, fun x h => by simp at h⟩
  · have hml : len ≤ m := by rw [hmm]; simp only [if_true]; exact hl
    have key : ∀ i, i < len → ∃ v : α, (∃ c, c.length = d.sz ∧ d.K W v c ∧ ∀ q u, c[q]? = some u → W.cell? (a.add (i * d.sz + q)) = some u) ∧ Wf v := by
      intro i hil
      obtain ⟨cs', hc, ht'⟩ := hi i (by omega)
      rw [hC] at hc
      obtain ⟨_, hcl, hat⟩ := World.cells?_some hc
      obtain ⟨v, hK, hw⟩ := h enc W n cs' _ ht'
      refine ⟨v, ⟨cs', d.K_len hK, hK, fun q u hq => ?_⟩, hw⟩
      have hql : q < d.sz := by rw [← d.K_len hK]; exact (List.getElem?_eq_some_iff.1 hq).1
      have := hat q hql
      rw [← Go.Deep.add_add, this]; exact hq
    obtain ⟨l, rfl, hv⟩ := pick_list len key
    refine ⟨l, ⟨some a, cap, rfl, hl, rfl, by unfold maxLen at hm; omega, fun _ => ⟨a, rfl, fun j p hj => (hv j p hj).1⟩⟩, Nat.le_trans hl hm, fun x hx => ?_⟩
    obtain ⟨i, hi', rfl⟩ := List.getElem_of_mem hx
    exact (hv i _ (List.getElem?_eq_getElem hi')).2

def wf_49 (s : S49) : Prop := (Lit.int .i64 s.f0).wf = true ∧ (Lit.int .i64 s.f1).wf = true
theorem cells_49 : Try.prog.cellsOf 49 = 2 := by kernel_rfl
theorem cells1_3 : Try.prog.cellsOf 3 = 1 := by kernel_rfl
set_option maxRecDepth 100000 in
theorem opens_49 : Opens Try.prog k49 49 wf_49 := by
  intro H enc W fuel cs x h
  obtain ⟨xs, n, rfl, rfl, hlen, hxl, hf⟩ := DataW.trod_struct Try.underlying49 h
  rw [cells_49] at hlen
  match cs, hlen with
  | [c0, c1], _ =>
    match xs, hxl with
    | [y0, y1], _ =>
      have e0 : DataW.trod enc Try.prog W 0 (fun _ => true) true n 3 (([c0, c1].drop 0).take (Try.prog.cellsOf 3)) = some y0 := hf 0 _ rfl
      rw [cells1_3] at e0
      have e1 : DataW.trod enc Try.prog W 0 (fun _ => true) true n 3 (([c0, c1].drop 1).take (Try.prog.cellsOf 3)) = some y1 := hf 1 _ rfl
      rw [cells1_3] at e1
      obtain ⟨v0, q0, w0⟩ := (Opens.int Try.underlying3) enc W n [c0] y0 e0
      cases q0
      obtain ⟨v1, q1, w1⟩ := (Opens.int Try.underlying3) enc W n [c1] y1 e1
      cases q1
      exact ⟨⟨v0, v1⟩, k49_mk _ _, w0, w1⟩
def wf_56 (s : S56) : Prop := (Lit.int .i64 s.f0).wf = true ∧ (Lit.int .i64 s.f1).wf = true ∧ True
theorem cells_56 : Try.prog.cellsOf 56 = 3 := by kernel_rfl
theorem cells1_4 : Try.prog.cellsOf 4 = 1 := by kernel_rfl
set_option maxRecDepth 100000 in
theorem opens_56 : Opens Try.prog k56 56 wf_56 := by
  intro H enc W fuel cs x h
  obtain ⟨xs, n, rfl, rfl, hlen, hxl, hf⟩ := DataW.trod_struct Try.underlying56 h
  rw [cells_56] at hlen
  match cs, hlen with
  | [c0, c1, c2], _ =>
    match xs, hxl with
    | [y0, y1, y2], _ =>
      have e0 : DataW.trod enc Try.prog W 0 (fun _ => true) true n 3 (([c0, c1, c2].drop 0).take (Try.prog.cellsOf 3)) = some y0 := hf 0 _ rfl
      rw [cells1_3] at e0
      have e1 : DataW.trod enc Try.prog W 0 (fun _ => true) true n 3 (([c0, c1, c2].drop 1).take (Try.prog.cellsOf 3)) = some y1 := hf 1 _ rfl
      rw [cells1_3] at e1
      have e2 : DataW.trod enc Try.prog W 0 (fun _ => true) true n 4 (([c0, c1, c2].drop 2).take (Try.prog.cellsOf 4)) = some y2 := hf 2 _ rfl
      rw [cells1_4] at e2
      obtain ⟨v0, q0, w0⟩ := (Opens.int Try.underlying3) enc W n [c0] y0 e0
      cases q0
      obtain ⟨v1, q1, w1⟩ := (Opens.int Try.underlying3) enc W n [c1] y1 e1
      cases q1
      obtain ⟨v2, q2, w2⟩ := (Opens.bool Try.underlying4) enc W n [c2] y2 e2
      cases q2
      exact ⟨⟨v0, v1, v2⟩, k56_mk _ _, w0, w1, w2⟩
end Go.Proofs.Ytjkakgkiikjdmaa.G

namespace Go.Proofs.Ytjkakgkiikjdmaa.G
open Go.RowKit Go.Proofs.YtjkakgkiikjdmaaW.PrintWords Go.Proofs.YtjkakgkiikjdmaaW.PrintLast Go.Proofs.YtjkakgkiikjdmaaW.PrintMore
attribute [local go_sem] max2_int min2_int max_two min_two max_three min_three max_four min_four   -- for this text's walks alone
set_option linter.unusedVariables false
set_option linter.unusedSimpArgs false

def papermilllaw40_great.f (l0 : List (S49)) : Option (Bool) := some (decide ((l0.length : Int) > 300))
set_option maxHeartbeats 8000000 in
set_option maxRecDepth 100000 in
theorem papermilllaw40_great.calls (A0 : Option Addr) (c0 : Nat) (l0 : List (S49)) (r : Bool) (w : World) (hr0 : Kd.C k49 w A0 l0.length l0) (hc0 : l0.length ≤ c0) (h : papermilllaw40_great.f l0 = some r) :
    Calls Try.prog 11 #[.slice A0 l0.length c0] w fun e w' => e = .returned (.bool r) ∧ Drawn0 w w' := by
  have HR0 := Aside0.mk hr0
  have HC0 := Aside0.mk hc0
  clear hr0 hc0
  have H : (some (decide ((l0.length : Int) > 300))) = some r := h
  clear h
  obtain rfl := Option.some.inj H
  go_enter Try.func11, Try.ntmps11
  go_wp2
  go_ret
  exact ⟨by first | rfl | (simp; done) | (simp [*]; done), by repeat (first | exact Drawn0.refl _ | apply Drawn0.step)⟩

end Go.Proofs.Ytjkakgkiikjdmaa.G
