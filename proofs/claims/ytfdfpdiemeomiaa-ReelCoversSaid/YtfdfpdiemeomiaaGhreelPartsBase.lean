-- NEEDS papermill/reel.Parts
import Derived.Test.YtfdfpdiemeomiaaGx0
import Derived.RangeFuncRecord
import Derived.IntWalk
namespace Go.Proofs.Ytfdfpdiemeomiaa.G
open Go.RowKit Go.Proofs.YtfdfpdiemeomiaaW.PrintWords Go.Proofs.YtfdfpdiemeomiaaW.PrintLast Go.Proofs.YtfdfpdiemeomiaaW.PrintMore
attribute [local go_sem] max2_int min2_int max_two min_two max_three min_three max_four min_four   -- for this text's walks alone
set_option linter.unusedVariables false
set_option linter.unusedSimpArgs false

/-- A section, limited to a span, and moved to its beginning. -/
def cutSec (a b : Int) (x : S44) : S44 := ⟨wrap64 (mx x.f0 a - a), wrap64 (mn x.f1 b - a), x.f2, x.f3, x.f4⟩
def partsOf (a b : Int) (l : List S44) : List S44 := (l.map (cutSec a b)).filter (fun x => decide (x.f0 < x.f1))
def endOf (l : List S44) : Int := if l.length = 0 then 0 else (rd_T44 l ((l.length - 1 : Nat) : Int)).f1
theorem partsOf_len (a b : Int) (l : List S44) : (partsOf a b l).length ≤ l.length := by
  unfold partsOf; exact Nat.le_trans (List.length_filter_le _ _) (by simp)
theorem partsOf_snoc (a b : Int) (l : List S44) (k : Nat) (h : k < l.length) : partsOf a b (l.take (k + 1)) = partsOf a b (l.take k) ++ (if (cutSec a b (rd_T44 l k)).f0 < (cutSec a b (rd_T44 l k)).f1 then [cutSec a b (rd_T44 l k)] else []) := by
  have e : l[k] = rd_T44 l k := by simp [rd_T44, List.getD_eq_getElem?_getD, List.getElem?_eq_getElem h]
  unfold partsOf
  rw [List.take_succ_eq_append_getElem h, List.map_append, List.filter_append, e]
  congr 1
  by_cases c : (cutSec a b (rd_T44 l k)).f0 < (cutSec a b (rd_T44 l k)).f1 <;> simp [c]

structure PartsIn (n₀ gs : Nat) (a b : Int) (v : Value) (xs : List S44) (w wr : World) : Prop where
  r : Kd.R k44 44 wr n₀ (fun _ => True) v xs
  bs : wr.heap[gs]? = some (.cells #[.int .i64 a, .int .i64 b] 36 (0, 0))
  below : Below n₀ w wr

theorem PartsIn.drop {n₀ gs : Nat} {a b : Int} {v : Value} {xs : List S44} {w wr : World} (h : PartsIn n₀ gs a b v xs w wr) (hn : n₀ ≤ wr.heap.size) (o : Obj) : PartsIn n₀ gs a b v xs w (wr.alloc o) :=
  ⟨Kd.R_alloc h.r o, (Below.heap_alloc wr o _ (blk_lt h.bs)).trans h.bs, h.below.alloc hn o⟩
theorem PartsIn.drew {n₀ gs : Nat} {a b : Int} {v : Value} {xs : List S44} {w wr : World} (h : PartsIn n₀ gs a b v xs w wr) : PartsIn n₀ gs a b v xs w wr.drew :=
  ⟨Kd.R_drew h.r, h.bs, below_drew h.below⟩
theorem PartsIn.grow {n₀ gs : Nat} {a b : Int} {v v' : Value} {xs xs' : List S44} {w W w1 : World} (h : PartsIn n₀ gs a b v xs w W) (hr : Kd.R k44 44 w1 n₀ (fun _ => True) v' xs') (hb : Below n₀ W w1) (hg : W.grownBy w1 v.ownBlock) : PartsIn n₀ gs a b v' xs' w w1 :=
  ⟨hr, (hg.block gs (blk_lt h.bs) (Kd.R_ne h.r h.bs (by decide))).trans h.bs, h.below.trans hb⟩

structure PartsX (n₀ gs gb : Nat) (a b : Int) (v : Value) (xs : List S44) (cells : Array Value) (w W : World) : Prop where
  r : Kd.R k44 44 W n₀ (fun k => True ∧ k ≠ gb) v xs
  bs : W.heap[gs]? = some (.cells #[.int .i64 a, .int .i64 b] 36 (0, 0))
  bx : W.heap[gb]? = some (.cells cells 44 (0, 0))
  below : Below n₀ w W
  ne : gs ≠ gb
  hgb : n₀ ≤ gb
theorem PartsX.start {n₀ gs : Nat} {a b : Int} {v : Value} {xs : List S44} {w wr : World} (h : PartsIn n₀ gs a b v xs w wr) (hn : n₀ ≤ wr.heap.size) (cells : Array Value) : PartsX n₀ gs wr.heap.size a b v xs cells w (wr.alloc (.cells cells 44)) :=
  ⟨Kd.R_alloc (Kd.R_elderB h.r _ (Nat.le_refl _)) _, (Below.heap_alloc wr _ _ (blk_lt h.bs)).trans h.bs, World.alloc_heap_new wr _, h.below.alloc hn _, fun e => by have := blk_lt h.bs; omega, hn⟩
theorem PartsX.drew {n₀ gs gb : Nat} {a b : Int} {v : Value} {xs : List S44} {cells : Array Value} {w W : World} (h : PartsX n₀ gs gb a b v xs cells w W) : PartsX n₀ gs gb a b v xs cells w W.drew :=
  ⟨Kd.R_drew h.r, h.bs, h.bx, below_drew h.below, h.ne, h.hgb⟩
theorem PartsX.set {n₀ gs gb : Nat} {a b : Int} {v : Value} {xs : List S44} {cells : Array Value} {w W : World} (h : PartsX n₀ gs gb a b v xs cells w W) (i : Nat) (u : Value) : PartsX n₀ gs gb a b v xs (cells.setIfInBounds i u) w (W.setCell ⟨gb, i, none⟩ u) :=
  ⟨Kd.R_far h.r (fun k hk => hk.2) u, blk_far h.bs h.ne u, blk_set h.bx i u, h.below.setCell (p := ⟨gb, i, none⟩) h.hgb u, h.ne, h.hgb⟩
theorem PartsX.toIn {n₀ gs gb : Nat} {a b : Int} {v : Value} {xs : List S44} {cells : Array Value} {w W : World} (h : PartsX n₀ gs gb a b v xs cells w W) : PartsIn n₀ gs a b v xs w W :=
  ⟨Kd.R_mono h.r (fun _ _ => trivial), h.bs, h.below⟩

end Go.Proofs.Ytfdfpdiemeomiaa.G
