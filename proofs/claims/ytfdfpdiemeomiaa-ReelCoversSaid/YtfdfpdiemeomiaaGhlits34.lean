-- NEEDS papermill/papermilllaw34.awake
import Derived.Test.YtfdfpdiemeomiaaGx0
namespace Go.Proofs.Ytfdfpdiemeomiaa.G
open Go.RowKit Go.Proofs.YtfdfpdiemeomiaaW.PrintWords Go.Proofs.YtfdfpdiemeomiaaW.PrintLast Go.Proofs.YtfdfpdiemeomiaaW.PrintMore
attribute [local go_sem] max2_int min2_int max_two min_two max_three min_three max_four min_four   -- for this text's walks alone
set_option linter.unusedVariables false
set_option linter.unusedSimpArgs false

theorem flat_get {α : Type} (enc : α → List Value) (sz : Nat) (hs : ∀ x, (enc x).length = sz) : ∀ (xs : List α) (j i : Nat) (p : α), xs[j]? = some p → i < sz → (xs.flatMap enc)[j * sz + i]? = (enc p)[i]?
  | [], j, i, p, h, _ => by simp at h
  | x :: xs, 0, i, p, h, hi => by
    simp at h; subst h
    rw [List.flatMap_cons, Nat.zero_mul, Nat.zero_add, List.getElem?_append_left (by rw [hs]; exact hi)]
  | x :: xs, j + 1, i, p, h, hi => by
    rw [List.flatMap_cons, List.getElem?_append_right (by rw [hs, Nat.add_mul]; omega), hs, show (j + 1) * sz + i - sz = j * sz + i by rw [Nat.add_mul]; omega]
    exact flat_get enc sz hs xs j i p (by simpa using h) hi
/-- A block that was just laid, as a slice that is read. -/
theorem C_block {α : Type} (d : Kd α) {W : World} {g e : Nat} {cells : Array Value} (xs : List α) (enc : α → List Value) (hK : ∀ x, d.K W x (enc x)) (hb : W.heap[g]? = some (.cells cells e (0, 0))) (hc : cells.toList = xs.flatMap enc) (hl : xs.length ≤ 9223372036854775807) :
    Kd.C d W (some ⟨g, 0, none⟩) xs.length xs :=
  ⟨rfl, hl, fun _ => ⟨_, rfl, fun j p hj => ⟨enc p, d.K_len (hK p), hK p, fun i u hu => by
    rw [add_plain, blk_cell hb]
    have hi : i < d.sz := by rw [← d.K_len (hK p)]; exact (List.getElem?_eq_some_iff.1 hu).1
    have := flat_get enc d.sz (fun x => d.K_len (hK x)) xs j i p hj hi
    rw [← hc, Array.getElem?_toList] at this
    rw [this]; exact hu⟩⟩⟩
theorem C44_block {W : World} {g : Nat} {cells : Array Value} (xs : List S44) (hb : W.heap[g]? = some (.cells cells 44 (0, 0))) (hc : cells.toList = xs.flatMap fun x => [.int .i64 x.f0, .int .i64 x.f1, .int .i64 x.f2, .int .i64 x.f3, .int .i64 x.f4]) (hl : xs.length ≤ 1000) : Kd.C k44 W (some ⟨g, 0, none⟩) xs.length xs :=
  C_block k44 xs _ (fun x => k44_mk W x) hb hc (by omega)
theorem C36_block {W : World} {g : Nat} {cells : Array Value} (xs : List S36) (hb : W.heap[g]? = some (.cells cells 36 (0, 0))) (hc : cells.toList = xs.flatMap fun x => [.int .i64 x.f0, .int .i64 x.f1]) (hl : xs.length ≤ 1000) : Kd.C k36 W (some ⟨g, 0, none⟩) xs.length xs :=
  C_block k36 xs _ (fun x => k36_mk W x) hb hc (by omega)
theorem CI_block {W : World} {g : Nat} {cells : Array Value} (xs : List Int) (hb : W.heap[g]? = some (.cells cells 3 (0, 0))) (hc : cells.toList = xs.flatMap fun x => [.int .i64 x]) (hl : xs.length ≤ 1000) : Kd.C (Kd.int .i64) W (some ⟨g, 0, none⟩) xs.length xs :=
  C_block (Kd.int .i64) xs _ (fun x => rfl) hb hc (by omega)

end Go.Proofs.Ytfdfpdiemeomiaa.G
