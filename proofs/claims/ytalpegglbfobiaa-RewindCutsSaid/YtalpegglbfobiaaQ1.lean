import Derived.Test.YtalpegglbfobiaaProg
import Derived.Below
import Derived.Deep.Draws
import Derived.Deep.AppendLies
import Derived.Maps.AppendAt
import Derived.OwnWalk
import Derived.Laws.BytesArg
import Derived.Laws.MakeOwn
import Derived.Laws.OwnMore
import Derived.Deep.OwnRows
import Derived.Tactics
import Derived.Lib.ConvBytes
import Derived.Laws.Slices
import Derived.WalkKit
import Derived.KernelRfl
import Derived.RowKit3
import Derived.Deep.LoopGhost
import Derived.Deep.QuietTactic
import Derived.BigQuiet
import Derived.WideLaws
import Derived.Deep.DeepCutAuto
import Derived.Deep.CutBlock
import Derived.Deep.RegionHeld3
import Derived.Laws.Rows
import Derived.Lib.AppendStr
import Derived.ArgAppend
import Derived.Laws.IdiomCopy
import Derived.OrdersHeld
import Derived.Laws.BitsLemmas
import Derived.RowKit
import Derived.Test.YtalpegglbfobiaaQ0
import Derived.Shelf.SlGeneric
import Derived.Shelf.SlSortCmp.WholeK
import Derived.Shelf.SlicesQ.IndexFunc
import Derived.Shelf.Sort.Plain
import Derived.Shelf.Slices.In.SortNone
import Derived.Ground.Names2Prog
import Derived.Ground.NamesProg
import Derived.Ground.SlsfProg
import Derived.Ground.SlgfProg
import Derived.Lib.OwnBridge
import Derived.RangeFuncRecord
import Derived.Deep.Slices
import Derived.Shelf.SlSortCmp.NoneTotal
import Derived.Lib.Walk
import Derived.Lib.SliceRun
import Derived.Sort.QuietIn
import Derived.Deep.Fields
import Derived.StillTailTactics
namespace Go.Proofs.Ytalpegglbfobiaa.G
open Go.RowKit Go.Proofs.YtalpegglbfobiaaW.PrintWords Go.Proofs.YtalpegglbfobiaaW.PrintLast Go.Proofs.YtalpegglbfobiaaW.PrintMore
attribute [local go_sem] max2_int min2_int max_two min_two max_three min_three max_four min_four   -- for this text's walks alone
set_option linter.unusedVariables false
set_option linter.unusedSimpArgs false



def errW : Option Int → Value
 | none => .nilIface
 | some c => .iface 0 (.int .i64 c)
theorem errW_none : errW none = .nilIface := rfl
theorem errW_some (c : Int) : errW (some c) = .iface 0 (.int .i64 c) := rfl

theorem info3 : (Try.prog.info? 3).map (fun i => (i.zero, i.size, i.bytes)) = some (some (.int .i64 0), 1, 8) := by kernel_rfl
theorem info22 : (Try.prog.info? 22).map (fun i => (i.zero, i.size, i.bytes)) = some (some (.slice none 0 0), 1, 24) := by kernel_rfl
theorem info44 : (Try.prog.info? 44).map (fun i => (i.zero, i.size, i.bytes)) = some (some (.agg #[(.int .i64 0), (.int .i64 0), (.bool false)]), 3, 24) := by kernel_rfl
theorem info55 : (Try.prog.info? 55).map (fun i => (i.zero, i.size, i.bytes)) = some (some (.agg #[(.int .i64 0), (.int .i64 0)]), 2, 16) := by kernel_rfl
-- the values' own types
structure S44 where
 f0 : Int
 f1 : Int
 f2 : Bool
def z44 : S44 := ⟨(0 : Int), (0 : Int), false⟩
def k44 : Kd S44 := Kd.iso (Kd.pair (Kd.int .i64) (Kd.pair (Kd.int .i64) Kd.bool)) (fun x : S44 => (x.f0, x.f1, x.f2))
theorem k44_open {w : World} {x : S44} {cs : List Value} (h : k44.K w x cs) : cs = [.int .i64 x.f0, .int .i64 x.f1, .bool x.f2] := by
 obtain ⟨_, _, rfl, rfl, ⟨_, _, rfl, rfl, rfl⟩⟩ := h
 exact rfl
theorem k44_openM {w : World} {base : Nat} {ok : Nat → Prop} {x : S44} {cs : List Value} (h : k44.M w base ok x cs) : cs = [.int .i64 x.f0, .int .i64 x.f1, .bool x.f2] := by
 obtain ⟨_, _, rfl, rfl, ⟨_, _, rfl, rfl, rfl⟩⟩ := h
 exact rfl
theorem k44_mk (w : World) (x : S44)  : k44.K w x [.int .i64 x.f0, .int .i64 x.f1, .bool x.f2] := ⟨[.int .i64 x.f0], [.int .i64 x.f1, .bool x.f2], rfl, rfl, ⟨[.int .i64 x.f1], [.bool x.f2], rfl, rfl, rfl⟩⟩
theorem k44_mkM (w : World) (base : Nat) (ok : Nat → Prop) (x : S44)  : k44.M w base ok x [.int .i64 x.f0, .int .i64 x.f1, .bool x.f2] := ⟨[.int .i64 x.f0], [.int .i64 x.f1, .bool x.f2], rfl, rfl, ⟨[.int .i64 x.f1], [.bool x.f2], rfl, rfl, rfl⟩⟩
theorem k44_mkF (W : World) (ok : Nat → Prop) (x : S44) : Kd.FK k44 W ok x [.int .i64 x.f0, .int .i64 x.f1, .bool x.f2] := fun W2 _ => k44_mk W2 x
def rd_T44 (xs : List S44) (i : Int) : S44 := xs.getD i.toNat z44
theorem at_T44 {w : World} {A : Option Addr} {n : Nat} {xs : List S44} (h : Kd.C k44 w A n xs) (i : Int) (h0 : 0 ≤ i) (h1 : i < n) : ∃ ad , A = some ad ∧ w.cell? (ad.add (i.toNat * 3)) = some (.int .i64 (rd_T44 xs i).f0) ∧ w.cell? ⟨(ad.add (i.toNat * 3)).block, (ad.add (i.toNat * 3)).off + 1, none⟩ = some (.int .i64 (rd_T44 xs i).f1) ∧ w.cell? ⟨(ad.add (i.toNat * 3)).block, (ad.add (i.toNat * 3)).off + 2, none⟩ = some (.bool (rd_T44 xs i).f2) := by
 obtain ⟨ad, c, e, _, hK, hc0⟩ := Kd.C_get h z44 i h0 h1
 have hc : ∀ j u, c[j]? = some u → w.cell? (ad.add (i.toNat * 3 + j)) = some u := hc0
 obtain rfl := k44_open hK
 exact ⟨ad, e, hc 0 _ rfl, by rw [← add_field _ _ 1 (by omega)]; exact hc 1 _ rfl, by rw [← add_field _ _ 2 (by omega)]; exact hc 2 _ rfl⟩

structure S55 where
 f0 : Int
 f1 : Int
def z55 : S55 := ⟨(0 : Int), (0 : Int)⟩
def k55 : Kd S55 := Kd.iso (Kd.pair (Kd.int .i64) (Kd.int .i64)) (fun x : S55 => (x.f0, x.f1))
theorem k55_open {w : World} {x : S55} {cs : List Value} (h : k55.K w x cs) : cs = [.int .i64 x.f0, .int .i64 x.f1] := by
 obtain ⟨_, _, rfl, rfl, rfl⟩ := h
 exact rfl
theorem k55_openM {w : World} {base : Nat} {ok : Nat → Prop} {x : S55} {cs : List Value} (h : k55.M w base ok x cs) : cs = [.int .i64 x.f0, .int .i64 x.f1] := by
 obtain ⟨_, _, rfl, rfl, rfl⟩ := h
 exact rfl
theorem k55_mk (w : World) (x : S55)  : k55.K w x [.int .i64 x.f0, .int .i64 x.f1] := ⟨[.int .i64 x.f0], [.int .i64 x.f1], rfl, rfl, rfl⟩
theorem k55_mkM (w : World) (base : Nat) (ok : Nat → Prop) (x : S55)  : k55.M w base ok x [.int .i64 x.f0, .int .i64 x.f1] := ⟨[.int .i64 x.f0], [.int .i64 x.f1], rfl, rfl, rfl⟩
theorem k55_mkF (W : World) (ok : Nat → Prop) (x : S55) : Kd.FK k55 W ok x [.int .i64 x.f0, .int .i64 x.f1] := fun W2 _ => k55_mk W2 x
def rd_T55 (xs : List S55) (i : Int) : S55 := xs.getD i.toNat z55
theorem at_T55 {w : World} {A : Option Addr} {n : Nat} {xs : List S55} (h : Kd.C k55 w A n xs) (i : Int) (h0 : 0 ≤ i) (h1 : i < n) : ∃ ad , A = some ad ∧ w.cell? (ad.add (i.toNat * 2)) = some (.int .i64 (rd_T55 xs i).f0) ∧ w.cell? ⟨(ad.add (i.toNat * 2)).block, (ad.add (i.toNat * 2)).off + 1, none⟩ = some (.int .i64 (rd_T55 xs i).f1) := by
 obtain ⟨ad, c, e, _, hK, hc0⟩ := Kd.C_get h z55 i h0 h1
 have hc : ∀ j u, c[j]? = some u → w.cell? (ad.add (i.toNat * 2 + j)) = some u := hc0
 obtain rfl := k55_open hK
 exact ⟨ad, e, hc 0 _ rfl, by rw [← add_field _ _ 1 (by omega)]; exact hc 1 _ rfl⟩

def rd_L4 (xs : List (List S55)) (i : Int) : (List S55) := xs.getD i.toNat ([] : List S55)
theorem at_L4 {w : World} {A : Option Addr} {n : Nat} {xs : List (List S55)} (h : Kd.C (Kd.slice 55 k55) w A n xs) (i : Int) (h0 : 0 ≤ i) (h1 : i < n) : ∃ ad A0 c0, A = some ad ∧ w.cell? (ad.add i.toNat) = some (.slice A0 (rd_L4 xs i).length c0) ∧ (rd_L4 xs i).length ≤ c0 ∧ k55.C w A0 (rd_L4 xs i).length (rd_L4 xs i) := by
 obtain ⟨ad, c, e, _, hK, hc0⟩ := Kd.C_get h ([] : List S55) i h0 h1
 have hc : ∀ j u, c[j]? = some u → w.cell? (ad.add (i.toNat * 1 + j)) = some u := hc0
 obtain ⟨A0, c0, rfl, l0, g0⟩ := hK
 exact ⟨ad, A0, c0, e, by have hq := hc 0 _ rfl; rwa [Nat.mul_one, Nat.add_zero] at hq, l0, g0⟩

def rd_L5 (xs : List (List Int)) (i : Int) : (List Int) := xs.getD i.toNat ([] : List Int)
theorem at_L5 {w : World} {A : Option Addr} {n : Nat} {xs : List (List Int)} (h : Kd.C (Kd.slice 3 (Kd.int .i64)) w A n xs) (i : Int) (h0 : 0 ≤ i) (h1 : i < n) : ∃ ad A0 c0, A = some ad ∧ w.cell? (ad.add i.toNat) = some (.slice A0 (rd_L5 xs i).length c0) ∧ (rd_L5 xs i).length ≤ c0 ∧ (Kd.int .i64).C w A0 (rd_L5 xs i).length (rd_L5 xs i) := by
 obtain ⟨ad, c, e, _, hK, hc0⟩ := Kd.C_get h ([] : List Int) i h0 h1
 have hc : ∀ j u, c[j]? = some u → w.cell? (ad.add (i.toNat * 1 + j)) = some u := hc0
 obtain ⟨A0, c0, rfl, l0, g0⟩ := hK
 exact ⟨ad, A0, c0, e, by have hq := hc 0 _ rfl; rwa [Nat.mul_one, Nat.add_zero] at hq, l0, g0⟩

def rd_L6 (xs : List (List S44)) (i : Int) : (List S44) := xs.getD i.toNat ([] : List S44)
theorem at_L6 {w : World} {A : Option Addr} {n : Nat} {xs : List (List S44)} (h : Kd.C (Kd.slice 44 k44) w A n xs) (i : Int) (h0 : 0 ≤ i) (h1 : i < n) : ∃ ad A0 c0, A = some ad ∧ w.cell? (ad.add i.toNat) = some (.slice A0 (rd_L6 xs i).length c0) ∧ (rd_L6 xs i).length ≤ c0 ∧ k44.C w A0 (rd_L6 xs i).length (rd_L6 xs i) := by
 obtain ⟨ad, c, e, _, hK, hc0⟩ := Kd.C_get h ([] : List S44) i h0 h1
 have hc : ∀ j u, c[j]? = some u → w.cell? (ad.add (i.toNat * 1 + j)) = some u := hc0
 obtain ⟨A0, c0, rfl, l0, g0⟩ := hK
 exact ⟨ad, A0, c0, e, by have hq := hc 0 _ rfl; rwa [Nat.mul_one, Nat.add_zero] at hq, l0, g0⟩

end Go.Proofs.Ytalpegglbfobiaa.G

namespace Go.Proofs.Ytalpegglbfobiaa.G
open Go.RowKit Go.Proofs.YtalpegglbfobiaaW.PrintWords Go.Proofs.YtalpegglbfobiaaW.PrintLast Go.Proofs.YtalpegglbfobiaaW.PrintMore
attribute [local go_sem] max2_int min2_int max_two min_two max_three min_three max_four min_four   -- for this text's walks alone
set_option linter.unusedVariables false
set_option linter.unusedSimpArgs false

def span_Check.l0 : Nat → List (S55) → Int → Int → Option (Int)
 | 0, _, _, _ => none
 | k + 1, x8, x9, x10 => if x10 < x9 then (if 0 ≤ x10 then (if x10 < (x8.length : Int) then (if ((rd_T55 x8 x10).f0) < 0 then (some 1) else (if ((rd_T55 x8 x10).f0) > ((rd_T55 x8 x10).f1) then (some 1) else (if ((rd_T55 x8 x10).f1) > 17179869184 then (some 1) else (span_Check.l0 k x8 x9 (wrap64 (x10 + 1)))))) else (none)) else (none)) else (some 0)
def span_Check.f (k : Nat) (l0 : List (S55)) : Option (Int) := if (l0.length : Int) > 256 then (some 8) else (span_Check.l0 k l0 (l0.length : Int) 0)
theorem span_Check.mono_l : ∀ k, (∀ y0 y1 y2, LeO (span_Check.l0 k y0 y1 y2) (span_Check.l0 (k + 1) y0 y1 y2))
 | 0 => fun _ _ _ r h => by simp [span_Check.l0] at h
 | k + 1 => by
  have ih0 := span_Check.mono_l k
  ·intro y0 y1 y2
   unfold span_Check.l0
   repeat' first
   | (with_reducible exact ih0 _ _ _)
   | (with_reducible exact LeO.refl _)
   | (with_reducible exact LeO.none _)
   | (with_reducible refine LeO.ite ?_ ?_)
   | (with_reducible refine LeO.bind ?_ (fun _ => ?_))
   | exact ih0 _ _ _
   | exact LeO.none _
   | refine LeO.ite ?_ ?_
   | refine LeO.bind ?_ (fun _ => ?_)
theorem span_Check.mono : ∀ a0 k, LeO (span_Check.f k a0) (span_Check.f (k + 1) a0) := by
 intro a0 k
 have ih0 := span_Check.mono_l k
 unfold span_Check.f
 repeat' first
   | (with_reducible exact ih0 _ _ _)
   | (with_reducible exact LeO.refl _)
   | (with_reducible exact LeO.none _)
   | (with_reducible refine LeO.ite ?_ ?_)
   | (with_reducible refine LeO.bind ?_ (fun _ => ?_))
   | exact ih0 _ _ _
   | exact LeO.none _
   | refine LeO.ite ?_ ?_
   | refine LeO.bind ?_ (fun _ => ?_)
set_option maxHeartbeats 8000000 in
set_option maxRecDepth 100000 in
theorem span_Check.calls (k : Nat) (A0 : Option Addr) (c0 : Nat) (l0 : List (S55)) (r : Int) (w : World) (hr0 : Kd.C k55 w A0 l0.length l0) (hc0 : l0.length ≤ c0) (h : span_Check.f k l0 = some r) :
  Calls Try.prog 74 #[.slice A0 l0.length c0] w fun e w' => e = .returned (.int .i64 r) ∧ Below w.heap.size w w' := by
 have hu55 := Try.underlying55
 have HR0 := Aside0.mk hr0
 have HC0 := Aside0.mk hc0
 clear hr0 hc0
 have HB := Aside0.mk (Below.refl w.heap.size w)
 have H : (if (l0.length : Int) > 256 then (some 8) else (span_Check.l0 k l0 (l0.length : Int) 0)) = some r := h
 clear h
 by_cases c2 : (l0.length : Int) > 256
 ·rw [if_pos c2] at H
  have c2b0 : decide (256 < (l0.length : Int)) = true := decide_eq_true c2
  have c2b1 : decide (256 < l0.length) = true := decide_eq_true (by omega)
  clear c2
  obtain rfl := Option.some.inj H
  go_enter Try.func74, Try.ntmps74
  go_wp2
  go_ret
  exact ⟨by first | rfl | (simp [errW_none, errW_some] <;> rfl) | (simp [*, errW_none, errW_some] <;> rfl), by repeat (first | exact HB.out | apply below_alloc | apply pw_below_drewN | apply below_drew1)⟩
 ·rw [if_neg c2] at H
  have c2b0 : decide (256 < (l0.length : Int)) = false := decide_eq_false c2
  have c2b1 : decide (256 < l0.length) = false := decide_eq_false (by omega)
  clear c2
  have H' := Aside0.mk H
  clear H
  go_enter Try.func74, Try.ntmps74
  go_wp2
  go_loopg [10] k (fun kq v10 w' => ∃ (x10_1 : Int), v10 = .int .i64 x10_1 ∧ Aside0 (span_Check.l0 kq l0 (l0.length : Int) x10_1 = some r) ∧ Aside0 (kq ≤ k) ∧ Aside0 (Below w.heap.size w w'))
  case atStart => exact ⟨(0), (by first | rfl | (simp; done) | (simp [*]; done)), H', ⟨Nat.le_refl _⟩, ⟨by repeat (first | exact HB.out | apply below_alloc | apply pw_below_drewN | apply below_drew1)⟩⟩
  case round =>
   clear H'
   try clear c2
   try clear c2b0
   try clear c2b1
   try clear p2
   obtain ⟨x10_1, rfl, HA, HK1, HB⟩ := hrel
   cases gk with
   | zero => exact absurd HA.out (by simp [span_Check.l0])
   | succ k1 =>
    have H := HA.out
    clear HA
    simp only [span_Check.l0] at H
    by_cases c3 : x10_1 < (l0.length : Int)
    ·rw [if_pos c3] at H
     have c3b0 : decide (x10_1 < (l0.length : Int)) = true := decide_eq_true c3
     clear c3
     by_cases c4 : 0 ≤ x10_1
     ·rw [if_pos c4] at H
      have c4b0 : decide (0 ≤ x10_1) = true := decide_eq_true c4
      clear c4
      by_cases c5 : x10_1 < (l0.length : Int)
      ·rw [if_pos c5] at H
       have c5b0 : decide (x10_1 < (l0.length : Int)) = true := decide_eq_true c5
       clear c5
       by_cases c6 : ((rd_T55 l0 x10_1).f0) < 0
       ·rw [if_pos c6] at H
        have c6b0 : decide (((rd_T55 l0 x10_1).f0) < 0) = true := decide_eq_true c6
        clear c6
        obtain rfl := Option.some.inj H
        have p75001 : 0 ≤ (x10_1 : Int) := of_decide_eq_true (by assumption)
        have q75001 : x10_1 < (l0.length : Int) := of_decide_eq_true (by assumption)
        obtain ⟨ad75001, e75001, hx75001_0, hx75001_1⟩ := at_T55 HR0.out x10_1 p75001 q75001
        cases e75001
        replace hx75001_0 := (HB.out.cell (World.block_lt_of_cell? w _ hx75001_0)).trans hx75001_0
        replace hx75001_1 := (HB.out.cell (World.block_lt_of_cell? w _ hx75001_1)).trans hx75001_1
        replace p75001 := eq_true p75001
        replace q75001 := eq_true q75001
        go_wp2_with (first | ((with_reducible refine gate_dst (N := 4) rfl ?_); refine box_event ?hg (N := 4) ?hd (cs := #[.int .i64 0, .int .i64 0]) (t := 55) ?hr ?_; (case hd => rfl); (case hg => rfl); (case hr => first | (go_simp; done) | (go_simp; rfl)); intro gb75002 hg w7 hbox hb; have n0_ := Aside0.mk (below_step (by repeat (first | exact HB.out | apply below_alloc | apply pw_below_drewN | apply below_drew1)) hb); have n1_ := Aside0.mk (hbox); have n2_ := Aside0.mk ((by rw [hg]; exact (below_size (by repeat (first | exact HB.out | apply below_alloc | apply pw_below_drewN | apply below_drew1))) : w.heap.size ≤ gb75002)); have n3_ := Aside0.mk ((by rw [hg]; exact (below_size (by repeat (first | exact HB.out | apply below_alloc | apply pw_below_drewN | apply below_drew1))) : w.heap.size ≤ gb75002)); clear HB; have HB := n0_; have BK75002 := n1_; have GW75002 := n2_; have GE75002 := n3_; clear n0_ n1_ n2_ n3_; clear hb hbox hg; have hcz8_0 : w7.cell? ⟨gb75002, 0, none⟩ = some (.int .i64 0) := (blk_cell BK75002.out 0).trans rfl; have hcz8_1 : w7.cell? ⟨gb75002, 1, none⟩ = some (.int .i64 0) := (blk_cell BK75002.out 1).trans rfl; have hfz8_0 := blk_frozen BK75002.out 0; have hfz8_1 := blk_frozen BK75002.out 1))
        go_ret
        exact ⟨by first | rfl | (simp [errW_none, errW_some] <;> rfl) | (simp [*, errW_none, errW_some] <;> rfl), by repeat (first | exact HB.out | apply below_alloc | apply pw_below_drewN | apply below_drew1 | refine below_set ?_ GE75002.out)⟩
       ·rw [if_neg c6] at H
        have c6b0 : decide (((rd_T55 l0 x10_1).f0) < 0) = false := decide_eq_false c6
        clear c6
        by_cases c9 : ((rd_T55 l0 x10_1).f0) > ((rd_T55 l0 x10_1).f1)
        ·rw [if_pos c9] at H
         have c9b0 : decide (((rd_T55 l0 x10_1).f1) < ((rd_T55 l0 x10_1).f0)) = true := decide_eq_true c9
         clear c9
         obtain rfl := Option.some.inj H
         have p75001 : 0 ≤ (x10_1 : Int) := of_decide_eq_true (by assumption)
         have q75001 : x10_1 < (l0.length : Int) := of_decide_eq_true (by assumption)
         obtain ⟨ad75001, e75001, hx75001_0, hx75001_1⟩ := at_T55 HR0.out x10_1 p75001 q75001
         cases e75001
         replace hx75001_0 := (HB.out.cell (World.block_lt_of_cell? w _ hx75001_0)).trans hx75001_0
         replace hx75001_1 := (HB.out.cell (World.block_lt_of_cell? w _ hx75001_1)).trans hx75001_1
         replace p75001 := eq_true p75001
         replace q75001 := eq_true q75001
         go_wp2_with (first | ((with_reducible refine gate_dst (N := 4) rfl ?_); refine box_event ?hg (N := 4) ?hd (cs := #[.int .i64 0, .int .i64 0]) (t := 55) ?hr ?_; (case hd => rfl); (case hg => rfl); (case hr => first | (go_simp; done) | (go_simp; rfl)); intro gb75002 hg w10 hbox hb; have n0_ := Aside0.mk (below_step (by repeat (first | exact HB.out | apply below_alloc | apply pw_below_drewN | apply below_drew1)) hb); have n1_ := Aside0.mk (hbox); have n2_ := Aside0.mk ((by rw [hg]; exact (below_size (by repeat (first | exact HB.out | apply below_alloc | apply pw_below_drewN | apply below_drew1))) : w.heap.size ≤ gb75002)); have n3_ := Aside0.mk ((by rw [hg]; exact (below_size (by repeat (first | exact HB.out | apply below_alloc | apply pw_below_drewN | apply below_drew1))) : w.heap.size ≤ gb75002)); clear HB; have HB := n0_; have BK75002 := n1_; have GW75002 := n2_; have GE75002 := n3_; clear n0_ n1_ n2_ n3_; clear hb hbox hg; have hcz11_0 : w10.cell? ⟨gb75002, 0, none⟩ = some (.int .i64 0) := (blk_cell BK75002.out 0).trans rfl; have hcz11_1 : w10.cell? ⟨gb75002, 1, none⟩ = some (.int .i64 0) := (blk_cell BK75002.out 1).trans rfl; have hfz11_0 := blk_frozen BK75002.out 0; have hfz11_1 := blk_frozen BK75002.out 1))
         go_ret
         exact ⟨by first | rfl | (simp [errW_none, errW_some] <;> rfl) | (simp [*, errW_none, errW_some] <;> rfl), by repeat (first | exact HB.out | apply below_alloc | apply pw_below_drewN | apply below_drew1 | refine below_set ?_ GE75002.out)⟩
        ·rw [if_neg c9] at H
         have c9b0 : decide (((rd_T55 l0 x10_1).f1) < ((rd_T55 l0 x10_1).f0)) = false := decide_eq_false c9
         clear c9
         by_cases c12 : ((rd_T55 l0 x10_1).f1) > 17179869184
         ·rw [if_pos c12] at H
          have c12b0 : decide (17179869184 < ((rd_T55 l0 x10_1).f1)) = true := decide_eq_true c12
          clear c12
          obtain rfl := Option.some.inj H
          have p75001 : 0 ≤ (x10_1 : Int) := of_decide_eq_true (by assumption)
          have q75001 : x10_1 < (l0.length : Int) := of_decide_eq_true (by assumption)
          obtain ⟨ad75001, e75001, hx75001_0, hx75001_1⟩ := at_T55 HR0.out x10_1 p75001 q75001
          cases e75001
          replace hx75001_0 := (HB.out.cell (World.block_lt_of_cell? w _ hx75001_0)).trans hx75001_0
          replace hx75001_1 := (HB.out.cell (World.block_lt_of_cell? w _ hx75001_1)).trans hx75001_1
          replace p75001 := eq_true p75001
          replace q75001 := eq_true q75001
          go_wp2_with (first | ((with_reducible refine gate_dst (N := 4) rfl ?_); refine box_event ?hg (N := 4) ?hd (cs := #[.int .i64 0, .int .i64 0]) (t := 55) ?hr ?_; (case hd => rfl); (case hg => rfl); (case hr => first | (go_simp; done) | (go_simp; rfl)); intro gb75002 hg w13 hbox hb; have n0_ := Aside0.mk (below_step (by repeat (first | exact HB.out | apply below_alloc | apply pw_below_drewN | apply below_drew1)) hb); have n1_ := Aside0.mk (hbox); have n2_ := Aside0.mk ((by rw [hg]; exact (below_size (by repeat (first | exact HB.out | apply below_alloc | apply pw_below_drewN | apply below_drew1))) : w.heap.size ≤ gb75002)); have n3_ := Aside0.mk ((by rw [hg]; exact (below_size (by repeat (first | exact HB.out | apply below_alloc | apply pw_below_drewN | apply below_drew1))) : w.heap.size ≤ gb75002)); clear HB; have HB := n0_; have BK75002 := n1_; have GW75002 := n2_; have GE75002 := n3_; clear n0_ n1_ n2_ n3_; clear hb hbox hg; have hcz14_0 : w13.cell? ⟨gb75002, 0, none⟩ = some (.int .i64 0) := (blk_cell BK75002.out 0).trans rfl; have hcz14_1 : w13.cell? ⟨gb75002, 1, none⟩ = some (.int .i64 0) := (blk_cell BK75002.out 1).trans rfl; have hfz14_0 := blk_frozen BK75002.out 0; have hfz14_1 := blk_frozen BK75002.out 1))
          go_ret
          exact ⟨by first | rfl | (simp [errW_none, errW_some] <;> rfl) | (simp [*, errW_none, errW_some] <;> rfl), by repeat (first | exact HB.out | apply below_alloc | apply pw_below_drewN | apply below_drew1 | refine below_set ?_ GE75002.out)⟩
         ·rw [if_neg c12] at H
          have c12b0 : decide (17179869184 < ((rd_T55 l0 x10_1).f1)) = false := decide_eq_false c12
          clear c12
          have H' := Aside0.mk H
          clear H
          have p75001 : 0 ≤ (x10_1 : Int) := of_decide_eq_true (by assumption)
          have q75001 : x10_1 < (l0.length : Int) := of_decide_eq_true (by assumption)
          obtain ⟨ad75001, e75001, hx75001_0, hx75001_1⟩ := at_T55 HR0.out x10_1 p75001 q75001
          cases e75001
          replace hx75001_0 := (HB.out.cell (World.block_lt_of_cell? w _ hx75001_0)).trans hx75001_0
          replace hx75001_1 := (HB.out.cell (World.block_lt_of_cell? w _ hx75001_1)).trans hx75001_1
          replace p75001 := eq_true p75001
          replace q75001 := eq_true q75001
          go_wp2_with (first | ((with_reducible refine gate_dst (N := 4) rfl ?_); refine box_event ?hg (N := 4) ?hd (cs := #[.int .i64 0, .int .i64 0]) (t := 55) ?hr ?_; (case hd => rfl); (case hg => rfl); (case hr => first | (go_simp; done) | (go_simp; rfl)); intro gb75002 hg w15 hbox hb; have n0_ := Aside0.mk (below_step (by repeat (first | exact HB.out | apply below_alloc | apply pw_below_drewN | apply below_drew1)) hb); have n1_ := Aside0.mk (hbox); have n2_ := Aside0.mk ((by rw [hg]; exact (below_size (by repeat (first | exact HB.out | apply below_alloc | apply pw_below_drewN | apply below_drew1))) : w.heap.size ≤ gb75002)); have n3_ := Aside0.mk ((by rw [hg]; exact (below_size (by repeat (first | exact HB.out | apply below_alloc | apply pw_below_drewN | apply below_drew1))) : w.heap.size ≤ gb75002)); clear HB; have HB := n0_; have BK75002 := n1_; have GW75002 := n2_; have GE75002 := n3_; clear n0_ n1_ n2_ n3_; clear hb hbox hg; have hcz16_0 : w15.cell? ⟨gb75002, 0, none⟩ = some (.int .i64 0) := (blk_cell BK75002.out 0).trans rfl; have hcz16_1 : w15.cell? ⟨gb75002, 1, none⟩ = some (.int .i64 0) := (blk_cell BK75002.out 1).trans rfl; have hfz16_0 := blk_frozen BK75002.out 0; have hfz16_1 := blk_frozen BK75002.out 1))
          go_roundg k1
          case measure => have := HK1.out; omega
          case rel => exact ⟨(wrap64 (x10_1 + 1)), (by first | rfl | (simp; done) | (simp [*]; done)), H', ⟨by have := HK1.out; omega⟩, ⟨by repeat (first | exact HB.out | apply below_alloc | apply pw_below_drewN | apply below_drew1 | refine below_set ?_ GE75002.out)⟩⟩
      ·rw [if_neg c5] at H
       exact absurd H (by simp)
     ·rw [if_neg c4] at H
      exact absurd H (by simp)
    ·rw [if_neg c3] at H
     have c3b0 : decide (x10_1 < (l0.length : Int)) = false := decide_eq_false c3
     clear c3
     obtain rfl := Option.some.inj H
     go_wp2
     go_ret
     exact ⟨by first | rfl | (simp [errW_none, errW_some] <;> rfl) | (simp [*, errW_none, errW_some] <;> rfl), by repeat (first | exact HB.out | apply below_alloc | apply pw_below_drewN | apply below_drew1)⟩

end Go.Proofs.Ytalpegglbfobiaa.G

/-
  DERIVED: THE SHELF's CONTRACTS AT THIS DUMP, IN PLAIN WORDS (tools/lay-plain.mjs out of 'TryShelf.lean', which tools/lay-shelf.mjs wrote): THE SAME DECLARATIONS UNDER THE SAME NAMES: 'import', 'namespace', 'open', 'def', 'theorem' AND NOTHING ELSE: no command of the shelf's: FOR A HAND-IN. Each laying: the table of numbers ('.._ren') and one theorem, a field a fact of the dump's own or the kernel's comparison; each contract: ONE APPLICATION.
-/
namespace Go.Proofs
open Go.Shelf
def Try.sortInts_ren : Go.Shelf.Ren := ⟨fun | 189 => 77 | 125 => 85 | 257 => 84 | 128 => 97 | 129 => 98 | 294 => 88 | 295 => 89 | 296 => 90 | 297 => 91 | 298 => 92 | 299 => 93 | 216 => 94 | 300 => 95 | 301 => 96 | 328 => 108 | 329 => 109 | 330 => 110 | 331 => 111 | 332 => 112 | 215 => 113 | 343 => 117 | n => n, fun | 28 => 32 | 3 => 3 | 46 => 96 | 0 => 0 | 51 => 108 | 53 => 110 | 4 => 4 | 183 => 101 | 182 => 100 | 131 => 105 | 5 => 5 | 9 => 9 | 218 => 117 | 222 => 121 | 228 => 125 | 229 => 64 | n => n, fun | n => n⟩
theorem Try.sortInts : Go.Proofs.Lays.n189 Try.prog Try.sortInts_ren := {
  mixed := by kernel_rfl
  f125 := Try.func85.trans (congrArg some (by kernel_rfl))
  f128 := Try.func97.trans (congrArg some (by kernel_rfl))
  f129 := Try.func98.trans (congrArg some (by kernel_rfl))
  f189 := Try.func77.trans (congrArg some (by kernel_rfl))
  f215 := Try.func113.trans (congrArg some (by kernel_rfl))
  f216 := Try.func94.trans (congrArg some (by kernel_rfl))
  f257 := Try.func84.trans (congrArg some (by kernel_rfl))
  f294 := Try.func88.trans (congrArg some (by kernel_rfl))
  f295 := Try.func89.trans (congrArg some (by kernel_rfl))
  f296 := Try.func90.trans (congrArg some (by kernel_rfl))
  f297 := Try.func91.trans (congrArg some (by kernel_rfl))
  f298 := Try.func92.trans (congrArg some (by kernel_rfl))
  f299 := Try.func93.trans (congrArg some (by kernel_rfl))
  f300 := Try.func95.trans (congrArg some (by kernel_rfl))
  f301 := Try.func96.trans (congrArg some (by kernel_rfl))
  f328 := Try.func108.trans (congrArg some (by kernel_rfl))
  f329 := Try.func109.trans (congrArg some (by kernel_rfl))
  f330 := Try.func110.trans (congrArg some (by kernel_rfl))
  f331 := Try.func111.trans (congrArg some (by kernel_rfl))
  f332 := Try.func112.trans (congrArg some (by kernel_rfl))
  f343 := Try.func117.trans (congrArg some (by kernel_rfl))
  t0 := Try.underlying0
  a0 := Try.isAgg0
  z0 := Try.sizeOf0
  v0 := Try.zeroValue0
  t3 := Try.underlying3
  a3 := Try.isAgg3
  z3 := Try.sizeOf3
  v3 := Try.zeroValue3
  t4 := Try.underlying4
  a4 := Try.isAgg4
  z4 := Try.sizeOf4
  v4 := Try.zeroValue4
  t5 := Try.underlying5
  a5 := Try.isAgg5
  z5 := Try.sizeOf5
  v5 := Try.zeroValue5
  t9 := Try.underlying9
  a9 := Try.isAgg9
  z9 := Try.sizeOf9
  v9 := Try.zeroValue9
  t28 := Try.underlying32
  a28 := Try.isAgg32
  z28 := Try.sizeOf32
  v28 := Try.zeroValue32
  t46 := Try.underlying96
  a46 := Try.isAgg96
  z46 := Try.sizeOf96
  v46 := Try.zeroValue96
  t51 := Try.underlying108
  a51 := Try.isAgg108
  z51 := Try.sizeOf108
  v51 := Try.zeroValue108
  t53 := Try.underlying110
  a53 := Try.isAgg110
  z53 := Try.sizeOf110
  v53 := Try.zeroValue110
  t131 := Try.underlying105
  a131 := Try.isAgg105
  z131 := Try.sizeOf105
  v131 := Try.zeroValue105
  t182 := Try.underlying100
  a182 := Try.isAgg100
  z182 := Try.sizeOf100
  v182 := Try.zeroValue100
  t183 := Try.underlying101
  a183 := Try.isAgg101
  z183 := Try.sizeOf101
  v183 := Try.zeroValue101
  t218 := Try.underlying117
  a218 := Try.isAgg117
  z218 := Try.sizeOf117
  v218 := Try.zeroValue117
  t222 := Try.underlying121
  a222 := Try.isAgg121
  z222 := Try.sizeOf121
  v222 := Try.zeroValue121
  t228 := Try.underlying125
  a228 := Try.isAgg125
  z228 := Try.sizeOf125
  v228 := Try.zeroValue125
  t229 := Try.underlying64
  a229 := Try.isAgg64
  z229 := Try.sizeOf64
  v229 := Try.zeroValue64 }
def Try.sortSpan_ren : Go.Shelf.Ren := ⟨fun | 6 => 81 | 15 => 85 | 14 => 87 | 28 => 97 | 29 => 98 | 20 => 100 | 21 => 101 | 22 => 102 | 23 => 103 | 24 => 104 | 25 => 105 | 26 => 106 | 27 => 107 | 46 => 114 | 47 => 109 | 48 => 110 | 49 => 115 | 50 => 116 | 57 => 118 | n => n, fun | 22 => 29 | 24 => 55 | 25 => 91 | 3 => 3 | 39 => 96 | 0 => 0 | 53 => 108 | 55 => 110 | 4 => 4 | 46 => 101 | 45 => 100 | 50 => 105 | 5 => 5 | 9 => 9 | 66 => 117 | 70 => 121 | 76 => 125 | 77 => 64 | n => n, fun | n => n⟩
theorem Try.sortSpan : Go.Proofs.SlLaysF0.n6 Try.prog Try.sortSpan_ren := {
  mixed := by kernel_rfl
  f6 := ⟨Try.f81.name, by decide, Try.func81.trans (congrArg some (by kernel_rfl))⟩
  f14 := ⟨Try.f87.name, by decide, Try.func87.trans (congrArg some (by kernel_rfl))⟩
  f15 := Try.func85.trans (congrArg some (by kernel_rfl))
  f20 := ⟨Try.f100.name, by decide, Try.func100.trans (congrArg some (by kernel_rfl))⟩
  f21 := ⟨Try.f101.name, by decide, Try.func101.trans (congrArg some (by kernel_rfl))⟩
  f22 := ⟨Try.f102.name, by decide, Try.func102.trans (congrArg some (by kernel_rfl))⟩
  f23 := ⟨Try.f103.name, by decide, Try.func103.trans (congrArg some (by kernel_rfl))⟩
  f24 := ⟨Try.f104.name, by decide, Try.func104.trans (congrArg some (by kernel_rfl))⟩
  f25 := ⟨Try.f105.name, by decide, Try.func105.trans (congrArg some (by kernel_rfl))⟩
  f26 := ⟨Try.f106.name, by decide, Try.func106.trans (congrArg some (by kernel_rfl))⟩
  f27 := ⟨Try.f107.name, by decide, Try.func107.trans (congrArg some (by kernel_rfl))⟩
  f28 := Try.func97.trans (congrArg some (by kernel_rfl))
  f29 := Try.func98.trans (congrArg some (by kernel_rfl))
  f46 := ⟨Try.f114.name, by decide, Try.func114.trans (congrArg some (by kernel_rfl))⟩
  f47 := Try.func109.trans (congrArg some (by kernel_rfl))
  f48 := Try.func110.trans (congrArg some (by kernel_rfl))
  f49 := ⟨Try.f115.name, by decide, Try.func115.trans (congrArg some (by kernel_rfl))⟩
  f50 := ⟨Try.f116.name, by decide, Try.func116.trans (congrArg some (by kernel_rfl))⟩
  f57 := ⟨Try.f118.name, by decide, Try.func118.trans (congrArg some (by kernel_rfl))⟩
  t0 := Try.underlying0
  a0 := Try.isAgg0
  z0 := Try.sizeOf0
  v0 := Try.zeroValue0
  t3 := Try.underlying3
  a3 := Try.isAgg3
  z3 := Try.sizeOf3
  v3 := Try.zeroValue3
  t4 := Try.underlying4
  a4 := Try.isAgg4
  z4 := Try.sizeOf4
  v4 := Try.zeroValue4
  t5 := Try.underlying5
  a5 := Try.isAgg5
  z5 := Try.sizeOf5
  v5 := Try.zeroValue5
  t9 := Try.underlying9
  a9 := Try.isAgg9
  z9 := Try.sizeOf9
  v9 := Try.zeroValue9
  t22 := Try.underlying29
  a22 := Try.isAgg29
  z22 := Try.sizeOf29
  v22 := Try.zeroValue29
  t25 := Try.underlying91
  a25 := Try.isAgg91
  z25 := Try.sizeOf91
  v25 := Try.zeroValue91
  t39 := Try.underlying96
  a39 := Try.isAgg96
  z39 := Try.sizeOf96
  v39 := Try.zeroValue96
  t45 := Try.underlying100
  a45 := Try.isAgg100
  z45 := Try.sizeOf100
  v45 := Try.zeroValue100
  t46 := Try.underlying101
  a46 := Try.isAgg101
  z46 := Try.sizeOf101
  v46 := Try.zeroValue101
  t50 := Try.underlying105
  a50 := Try.isAgg105
  z50 := Try.sizeOf105
  v50 := Try.zeroValue105
  t53 := Try.underlying108
  a53 := Try.isAgg108
  z53 := Try.sizeOf108
  v53 := Try.zeroValue108
  t55 := Try.underlying110
  a55 := Try.isAgg110
  z55 := Try.sizeOf110
  v55 := Try.zeroValue110
  t66 := Try.underlying117
  a66 := Try.isAgg117
  z66 := Try.sizeOf117
  v66 := Try.zeroValue117
  t70 := Try.underlying121
  a70 := Try.isAgg121
  z70 := Try.sizeOf121
  v70 := Try.zeroValue121
  t76 := Try.underlying125
  a76 := Try.isAgg125
  z76 := Try.sizeOf125
  v76 := Try.zeroValue125
  t77 := Try.underlying64
  a77 := Try.isAgg64
  z77 := Try.sizeOf64
  v77 := Try.zeroValue64 }
end Go.Proofs

namespace Go.Proofs.Ytalpegglbfobiaa.G
open Go.RowKit Go.Proofs.YtalpegglbfobiaaW.PrintWords Go.Proofs.YtalpegglbfobiaaW.PrintLast Go.Proofs.YtalpegglbfobiaaW.PrintMore
open Go.Sort hiding Below
set_option linter.unusedVariables false
set_option linter.unusedSimpArgs false
def sortI (l : List Int) : List Int := l.mergeSort (fun a b => decide (a ≤ b))
def slices_Sort_int_int.f (l0 : List Int) : Option (List Int) := if l0.length ≤ 1000000 then some (sortI l0) else none
theorem grow_below (B : Nat) {a w : World} (h : RowKit.Below B a w) (hB : B ≤ w.heap.size) (os : Array Obj) : RowKit.Below B a (grow w os) :=
 ⟨h.os, h.tape, h.output, by simp [grow]; have := h.size; omega, fun k hk => by
  rw [← h.block k hk]
  simp [grow, Array.getElem?_append, show k < w.heap.size by omega]⟩
theorem slices_Sort_int_int.calls (P0_ : Nat → Prop) (u9000_ : Value) (l0 : List Int) (r : List Int) (w0 w : World) (hB : RowKit.Below w0.heap.size w0 w) (ho0 : Kd.R (Kd.int .i64) 3 w w0.heap.size P0_ u9000_ l0) (h : slices_Sort_int_int.f l0 = some r) :
  Calls Try.prog 77 #[u9000_] w fun e w' => e = .returned (.tuple #[]) ∧ Kd.R (Kd.int .i64) 3 w' w0.heap.size (fun k_ => (P0_ k_ ∨ w.heap.size ≤ k_)) u9000_ r ∧ RowKit.Below w0.heap.size w0 w' ∧ Kept w w' (fun k_ => P0_ k_) := by
 unfold slices_Sort_int_int.f at h
 split at h
 case isFalse => cases h
 rename_i hl
 obtain rfl := Option.some.inj h
 have hown := Kd.own_of_R ho0
 by_cases hn : u9000_ = .slice none 0 0
 ·subst hn
  have h0 : l0 = [] := by
   rcases hown.2 with ⟨_, e1⟩ | ⟨g, cap, cur, e0, _⟩
   ·exact List.length_eq_zero_iff.1 e1
   ·cases e0
  subst h0
  refine (Any.slices_Sort_int_none Try.sortInts none 0 w).mono ?_
  rintro e w' ⟨rfl, rfl⟩
  exact ⟨rfl, by rw [show sortI [] = [] from by simp [sortI]]; exact Kd.R_nil _ _ _ _ _, hB, Kept.refl _ _⟩
 ·obtain ⟨g, cap, rfl, hg, hlt, hnc, hcm, hzl, hH⟩ := Go.Lib.holds_of_ownsRow (zs := l0) hown hn
  refine (Any.slices_Sort_int Try.sortInts g 0 cap l0 w hH hlt (by omega)).mono ?_
  rintro e w' ⟨rfl, n, os, hw⟩
  change w' = grow (putRow (Value.int .i64) (Sort.ahead w n) g 0 (sortI l0).toArray) os at hw
  subst hw
  have hlen : (sortI l0).length = l0.length := List.length_mergeSort _
  have hup := Go.Lib.ownsRow_putRow (q := n) (k := l0.length) hown hlen (Nat.le_refl _)
  rw [List.take_of_length_le (by omega)] at hup
  have hsz : (putRow (Value.int .i64) (Sort.ahead w n) g 0 (sortI l0).toArray).heap.size = w.heap.size := by simp [putRow, mapBlock, Sort.ahead]
  have hP : P0_ g := ho0.1 g rfl
  have hR : Kd.R (Kd.int .i64) 3 (putRow (Value.int .i64) (Sort.ahead w n) g 0 (sortI l0).toArray) w0.heap.size (fun k_ => (P0_ k_ ∨ w.heap.size ≤ k_)) (.slice (some ⟨g, 0, none⟩) l0.length cap) (sortI l0) := by
   refine Kd.R_of_own (by rw [hlen]; exact hup) (fun k hk => ?_)
   obtain rfl : g = k := by simpa [Value.ownBlock] using hk
   exact .inl hP
  refine ⟨rfl, Kd.R_below hR (grow_below _ (RowKit.Below.refl _ _) (Nat.le_refl _) os), grow_below _ (Go.Lib.below_putRow hB hg) (by rw [hsz]; exact hB.size) os, ?_, fun i hi hk => ?_⟩
  ·have : (grow (putRow (Value.int .i64) (Sort.ahead w n) g 0 (sortI l0).toArray) os).heap.size = (putRow (Value.int .i64) (Sort.ahead w n) g 0 (sortI l0).toArray).heap.size + os.size := by simp [grow]
   rw [this, hsz]; omega
  ·have : g ≠ i := by rintro rfl; exact hk hP
   rw [(grow_below (putRow (Value.int .i64) (Sort.ahead w n) g 0 (sortI l0).toArray).heap.size (RowKit.Below.refl _ _) (Nat.le_refl _) os).block i (by rw [hsz]; exact hi)]
   simp [putRow, mapBlock, Sort.ahead, Array.getElem?_modify, this]
end Go.Proofs.Ytalpegglbfobiaa.G

namespace Go.Proofs.Ytalpegglbfobiaa.G
open Go.RowKit Go.Proofs.YtalpegglbfobiaaW.PrintWords Go.Proofs.YtalpegglbfobiaaW.PrintLast Go.Proofs.YtalpegglbfobiaaW.PrintMore
set_option linter.unusedVariables false
set_option linter.unusedSimpArgs false
def slices_Grow_api_Span_api_Span_0.f (a1 : Int) : Option (List S55) := if 0 ≤ a1 ∧ a1 ≤ 2000000 then some [] else none
set_option maxRecDepth 100000 in
set_option maxHeartbeats 8000000 in
theorem slices_Grow_api_Span_api_Span_0.calls (a1 : Int) (r : List (S55)) (w : World) (h : slices_Grow_api_Span_api_Span_0.f a1 = some r) :
  Calls Try.prog 83 #[.slice none 0 0, .int .i64 a1] w fun e w' => ∃ v0_ : Value, e = .returned v0_ ∧ Kd.R k55 55 w' w.heap.size (fun _ => True) v0_ r ∧ Below w.heap.size w w' := by
 unfold slices_Grow_api_Span_api_Span_0.f at h
 split at h
 case isFalse => cases h
 rename_i h2
 obtain ⟨h0, h1⟩ := h2
 obtain rfl := Option.some.inj h
 have hn : decide (a1 < 0) = false := by simpa using h0
 by_cases hz : 0 < a1
 ·have hz1 : decide (0 < a1) = true := by simpa using hz
  go_enter Try.func83, Try.ntmps83
  go_wp2_with (at_builtin; (refine Kd.R_append_zeros k55 (w0 := w) w.heap.size rfl (.tmp 20) (.tmp 21) 29 3 55 (.agg #[.int .i64 0, .int .i64 0]) 16 rfl Try.underlying29 Try.underlying3 info55 rfl (by decide) (by decide) (.slice none 0 0) [] ⟨0, 0⟩ a1 (fun _ => True) ?ax rfl (k55_mkM _ _ _ _) (fun _ _ => trivial) (Kd.R_nil _ _ _ _ _) h0 (Below.refl _ _) (Nat.le_refl _) (by simp; omega) ?_; (case ax => first | rfl | (go_simp; rfl))); intro v1 w1 hr hb hg hat; obtain ⟨A1, c1, rfl⟩ := Kd.R_slice hr; have HR := Aside0.mk hr; have HB := Aside0.mk hb; clear hr hb hg hat)
  go_ret
  refine ⟨_, rfl, ?_, HB.out⟩
  obtain ⟨inner, ho⟩ := Kd.R_own HR.out
  exact ⟨fun _ _ => trivial, [], by have := own_take (m := 0) ho (Nat.zero_le _); simpa using this, Reps.none _ _⟩
 ·have hz1 : decide (0 < a1) = false := by simpa using hz
  go_enter Try.func83, Try.ntmps83
  go_wp2
  go_ret
  exact ⟨_, rfl, Kd.R_nil _ _ _ _ _, Below.refl _ _⟩
end Go.Proofs.Ytalpegglbfobiaa.G

namespace Go.Proofs.Ytalpegglbfobiaa.G
open Go.RowKit Go.Proofs.YtalpegglbfobiaaW.PrintWords Go.Proofs.YtalpegglbfobiaaW.PrintLast Go.Proofs.YtalpegglbfobiaaW.PrintMore
attribute [local go_sem] max2_int min2_int max_two min_two max_three min_three max_four min_four   -- for this text's walks alone
set_option linter.unusedVariables false
set_option linter.unusedSimpArgs false

mutual
def slices_Concat_api_Span_api_Span.l0 : Nat → List (List (S55)) → Int → List (List (S55)) → Int → Int → Option ((List (S55)))
 | 0, _, _, _, _, _ => none
 | k + 1, x0, x3, x9, x10, x11 => if x11 < x10 then (if 0 ≤ x11 then (if x11 < (x9.length : Int) then (if (wrap64 (x3 + ((rd_L4 x9 x11).length : Int))) < 0 then (none) else (slices_Concat_api_Span_api_Span.l0 k x0 (wrap64 (x3 + ((rd_L4 x9 x11).length : Int))) x9 x10 (wrap64 (x11 + 1)))) else (none)) else (none)) else ((slices_Grow_api_Span_api_Span_0.f x3).bind fun t77002 => (slices_Concat_api_Span_api_Span.l1 k t77002 x0 (x0.length : Int) 0))
def slices_Concat_api_Span_api_Span.l1 : Nat → List (S55) → List (List (S55)) → Int → Int → Option ((List (S55)))
 | 0, _, _, _, _ => none
 | k + 1, x6, x25, x26, x27 => if x27 < x26 then (if 0 ≤ x27 then (if x27 < (x25.length : Int) then (if x6.length + (rd_L4 x25 x27).length < 8796093022208 then (slices_Concat_api_Span_api_Span.l1 k (x6 ++ (rd_L4 x25 x27)) x25 x26 (wrap64 (x27 + 1))) else (none)) else (none)) else (none)) else (some x6)
end
def slices_Concat_api_Span_api_Span.f (k : Nat) (l0 : List (List (S55))) : Option ((List (S55))) := slices_Concat_api_Span_api_Span.l0 k l0 0 l0 (l0.length : Int) 0
theorem slices_Concat_api_Span_api_Span.mono_l : ∀ k, (∀ y0 y1 y2 y3 y4, LeO (slices_Concat_api_Span_api_Span.l0 k y0 y1 y2 y3 y4) (slices_Concat_api_Span_api_Span.l0 (k + 1) y0 y1 y2 y3 y4)) ∧ (∀ y0 y1 y2 y3, LeO (slices_Concat_api_Span_api_Span.l1 k y0 y1 y2 y3) (slices_Concat_api_Span_api_Span.l1 (k + 1) y0 y1 y2 y3))
 | 0 => ⟨fun _ _ _ _ _ r h => by simp [slices_Concat_api_Span_api_Span.l0] at h, fun _ _ _ _ r h => by simp [slices_Concat_api_Span_api_Span.l1] at h⟩
 | k + 1 => by
  obtain ⟨ih0, ih1⟩ := slices_Concat_api_Span_api_Span.mono_l k
  refine ⟨?_, ?_⟩
  ·intro y0 y1 y2 y3 y4
   unfold slices_Concat_api_Span_api_Span.l0
   repeat' first
   | (with_reducible exact ih0 _ _ _ _ _)
   | (with_reducible exact ih1 _ _ _ _)
   | (with_reducible exact LeO.refl _)
   | (with_reducible exact LeO.none _)
   | (with_reducible refine LeO.ite ?_ ?_)
   | (with_reducible refine LeO.bind ?_ (fun _ => ?_))
   | exact ih0 _ _ _ _ _
   | exact ih1 _ _ _ _
   | exact LeO.none _
   | refine LeO.ite ?_ ?_
   | refine LeO.bind ?_ (fun _ => ?_)
  ·intro y0 y1 y2 y3
   unfold slices_Concat_api_Span_api_Span.l1
   repeat' first
   | (with_reducible exact ih0 _ _ _ _ _)
   | (with_reducible exact ih1 _ _ _ _)
   | (with_reducible exact LeO.refl _)
   | (with_reducible exact LeO.none _)
   | (with_reducible refine LeO.ite ?_ ?_)
   | (with_reducible refine LeO.bind ?_ (fun _ => ?_))
   | exact ih0 _ _ _ _ _
   | exact ih1 _ _ _ _
   | exact LeO.none _
   | refine LeO.ite ?_ ?_
   | refine LeO.bind ?_ (fun _ => ?_)
theorem slices_Concat_api_Span_api_Span.mono : ∀ a0 k, LeO (slices_Concat_api_Span_api_Span.f k a0) (slices_Concat_api_Span_api_Span.f (k + 1) a0) := by
 intro a0 k
 obtain ⟨ih0, ih1⟩ := slices_Concat_api_Span_api_Span.mono_l k
 unfold slices_Concat_api_Span_api_Span.f
 repeat' first
   | (with_reducible exact ih0 _ _ _ _ _)
   | (with_reducible exact ih1 _ _ _ _)
   | (with_reducible exact LeO.refl _)
   | (with_reducible exact LeO.none _)
   | (with_reducible refine LeO.ite ?_ ?_)
   | (with_reducible refine LeO.bind ?_ (fun _ => ?_))
   | exact ih0 _ _ _ _ _
   | exact ih1 _ _ _ _
   | exact LeO.none _
   | refine LeO.ite ?_ ?_
   | refine LeO.bind ?_ (fun _ => ?_)
set_option maxHeartbeats 8000000 in
set_option maxRecDepth 100000 in
theorem slices_Concat_api_Span_api_Span.calls (k : Nat) (A0 : Option Addr) (c0 : Nat) (l0 : List (List (S55))) (r : List (S55)) (w : World) (hr0 : Kd.C (Kd.slice 55 k55) w A0 l0.length l0) (hc0 : l0.length ≤ c0) (h : slices_Concat_api_Span_api_Span.f k l0 = some r) :
  Calls Try.prog 76 #[.slice A0 l0.length c0] w fun e w' => ∃ v0_ : Value, e = .returned (v0_) ∧ Kd.R k55 55 w' w.heap.size (fun _ => True) v0_ r ∧ Below w.heap.size w w' := by
 have HR0 := Aside0.mk hr0
 have HC0 := Aside0.mk hc0
 clear hr0 hc0
 have HB := Aside0.mk (Below.refl w.heap.size w)
 have H : (slices_Concat_api_Span_api_Span.l0 k l0 0 l0 (l0.length : Int) 0) = some r := h
 clear h
 have H' := Aside0.mk H
 clear H
 go_enter Try.func76, Try.ntmps76
 go_wp2
 go_loopg [3, 11] k (fun kq v3 v11 w' => ∃ (x3_1 : Int) (x11_1 : Int), v3 = .int .i64 x3_1 ∧ v11 = .int .i64 x11_1 ∧ Aside0 (slices_Concat_api_Span_api_Span.l0 kq l0 x3_1 l0 (l0.length : Int) x11_1 = some r) ∧ Aside0 (kq ≤ k) ∧ Aside0 (Below w.heap.size w w'))
 case atStart => exact ⟨(0), (0), (by first | rfl | (simp; done) | (simp [*]; done)), (by first | rfl | (simp; done) | (simp [*]; done)), H', ⟨Nat.le_refl _⟩, ⟨by repeat (first | exact HB.out | apply below_alloc | apply pw_below_drewN | apply below_drew1)⟩⟩
 case round =>
  clear H'
  obtain ⟨x3_1, x11_1, rfl, rfl, HA, HK1, HB⟩ := hrel
  cases gk with
  | zero => exact absurd HA.out (by simp [slices_Concat_api_Span_api_Span.l0])
  | succ k1 =>
   have H := HA.out
   clear HA
   simp only [slices_Concat_api_Span_api_Span.l0] at H
   by_cases c2 : x11_1 < (l0.length : Int)
   ·rw [if_pos c2] at H
    have c2b0 : decide (x11_1 < (l0.length : Int)) = true := decide_eq_true c2
    clear c2
    by_cases c3 : 0 ≤ x11_1
    ·rw [if_pos c3] at H
     have c3b0 : decide (0 ≤ x11_1) = true := decide_eq_true c3
     clear c3
     by_cases c4 : x11_1 < (l0.length : Int)
     ·rw [if_pos c4] at H
      have c4b0 : decide (x11_1 < (l0.length : Int)) = true := decide_eq_true c4
      clear c4
      by_cases c5 : (wrap64 (x3_1 + ((rd_L4 l0 x11_1).length : Int))) < 0
      ·rw [if_pos c5] at H
       exact absurd H (by simp)
      ·rw [if_neg c5] at H
       have c5b0 : decide ((wrap64 (x3_1 + ((rd_L4 l0 x11_1).length : Int))) < 0) = false := decide_eq_false c5
       clear c5
       have H' := Aside0.mk H
       clear H
       have p77001 : 0 ≤ (x11_1 : Int) := of_decide_eq_true (by assumption)
       have q77001 : x11_1 < (l0.length : Int) := of_decide_eq_true (by assumption)
       obtain ⟨ad77001, A77001_0, c77001_0, e77001, hx77001_0, hl77001_0, hi77001_0⟩ := at_L4 HR0.out x11_1 p77001 q77001
       cases e77001
       replace hx77001_0 := (HB.out.cell (World.block_lt_of_cell? w _ hx77001_0)).trans hx77001_0
       have HR77001_0 := Aside0.mk hi77001_0
       have HC77001_0 := Aside0.mk hl77001_0
       clear hi77001_0 hl77001_0
       replace p77001 := eq_true p77001
       replace q77001 := eq_true q77001
       go_wp2
       go_roundg k1
       case measure => have := HK1.out; omega
       case rel => exact ⟨(wrap64 (x3_1 + ((rd_L4 l0 x11_1).length : Int))), (wrap64 (x11_1 + 1)), (by first | rfl | (simp; done) | (simp [*]; done)), (by first | rfl | (simp; done) | (simp [*]; done)), H', ⟨by have := HK1.out; omega⟩, ⟨by repeat (first | exact HB.out | apply below_alloc | apply pw_below_drewN | apply below_drew1)⟩⟩
     ·rw [if_neg c4] at H
      exact absurd H (by simp)
    ·rw [if_neg c3] at H
     exact absurd H (by simp)
   ·rw [if_neg c2] at H
    have c2b0 : decide (x11_1 < (l0.length : Int)) = false := decide_eq_false c2
    clear c2
    replace H := Option.bind_eq_some_iff.mp H
    obtain ⟨t77002, A60, H⟩ := H
    replace H : (slices_Concat_api_Span_api_Span.l1 k1 t77002 l0 (l0.length : Int) 0) = some r := H
    have A6 := Aside0.mk A60
    clear A60
    have H' := Aside0.mk H
    clear H
    go_wp2_with (first | ((with_reducible refine gate_callee (f := 83) rfl ?_); refine goesL_ (some 24) rfl rfl Try.func83 (by kernel_rfl) rfl #[.slice none 0 0, .int .i64 x3_1] rfl (by (try simp only [List.map_toArray, List.map_cons, List.map_nil]); first | done | rfl | (simp only [List.length_drop, List.length_take]; rfl)) ?_; (with_reducible refine (slices_Grow_api_Span_api_Span_0.calls x3_1 t77002 _ A6.out).mono ?_); rintro e w7 ⟨v77003, rfl, ho0, hb⟩; refine ⟨_, rfl, ?_⟩; have n0_ := Aside0.mk (Kd.R_lower ho0 (below_size (by repeat (first | exact HB.out | apply below_alloc | apply pw_below_drewN | apply below_drew1)))); have n1_ := Aside0.mk (below_step (by repeat (first | exact HB.out | apply below_alloc | apply pw_below_drewN | apply below_drew1)) hb); clear HB; have HO77004 := n0_; have HB := n1_; clear n0_ n1_; (try clear hb); (try clear hb2); (try clear hk); (try clear hi); (try clear ho0)))
    go_loopg [6, 27] k1 (fun kq v6 v27 w' => ∃ (x6_2 : List (S55)) (x27_2 : Int), v27 = .int .i64 x27_2 ∧ Aside0 (slices_Concat_api_Span_api_Span.l1 kq x6_2 l0 (l0.length : Int) x27_2 = some r) ∧ Aside0 (kq ≤ k1) ∧ Aside0 (Kd.R k55 55 w' w.heap.size (fun _ => True) v6 x6_2) ∧ Aside0 (Below w.heap.size w w'))
    case atStart => exact ⟨(t77002), (0), (by first | rfl | (simp; done) | (simp [*]; done)), H', ⟨Nat.le_refl _⟩, ⟨HO77004.out⟩, ⟨by repeat (first | exact HB.out | apply below_alloc | apply pw_below_drewN | apply below_drew1)⟩⟩
    case round =>
     clear H'
     try clear c1
     try clear c2
     try clear c2b0
     try clear p2
     try clear c3
     try clear c3b0
     try clear c4
     try clear c4b0
     try clear c5
     try clear c5b0
     try clear p6
     try clear c7
     try clear p7
     try clear q7
     try clear hx7
     try clear hx77001_0
     try clear p77001
     try clear q77001
     obtain ⟨x6_2, x27_2, rfl, HA, HK2, HO_6, HB⟩ := hrel
     cases gk with
     | zero => exact absurd HA.out (by simp [slices_Concat_api_Span_api_Span.l1])
     | succ k2 =>
      have H := HA.out
      clear HA
      simp only [slices_Concat_api_Span_api_Span.l1] at H
      by_cases c8 : x27_2 < (l0.length : Int)
      ·rw [if_pos c8] at H
       have c8b0 : decide (x27_2 < (l0.length : Int)) = true := decide_eq_true c8
       clear c8
       by_cases c9 : 0 ≤ x27_2
       ·rw [if_pos c9] at H
        have c9b0 : decide (0 ≤ x27_2) = true := decide_eq_true c9
        clear c9
        by_cases c10 : x27_2 < (l0.length : Int)
        ·rw [if_pos c10] at H
         have c10b0 : decide (x27_2 < (l0.length : Int)) = true := decide_eq_true c10
         clear c10
         by_cases c11 : x6_2.length + (rd_L4 l0 x27_2).length < 8796093022208
         ·rw [if_pos c11] at H
          have LMc11 := Aside0.mk c11
          clear c11
          obtain ⟨y77006, hy77006⟩ : ∃ y_ : List (S55), y_ = (x6_2 ++ (rd_L4 l0 x27_2)) := ⟨_, rfl⟩
          replace H : (slices_Concat_api_Span_api_Span.l1 k2 y77006 l0 (l0.length : Int) (wrap64 (x27_2 + 1))) = some r := by first | (rw [hy77006]; with_reducible exact H) | (have H2_ := (Option.bind_some _ _).symm.trans H; rw [hy77006]; with_reducible exact H2_) | (have H2_ := (Option.bind_some _ _).symm.trans H; with_reducible exact H2_) | with_reducible exact H | (rw [hy77006]; exact H) | exact H
          have Ny77006 := Aside0.mk hy77006
          clear hy77006
          have H' := Aside0.mk H
          clear H
          have p77005 : 0 ≤ (x27_2 : Int) := of_decide_eq_true (by assumption)
          have q77005 : x27_2 < (l0.length : Int) := of_decide_eq_true (by assumption)
          obtain ⟨ad77005, A77005_0, c77005_0, e77005, hx77005_0, hl77005_0, hi77005_0⟩ := at_L4 HR0.out x27_2 p77005 q77005
          cases e77005
          replace hx77005_0 := (HB.out.cell (World.block_lt_of_cell? w _ hx77005_0)).trans hx77005_0
          have HR77005_0 := Aside0.mk hi77005_0
          have HC77005_0 := Aside0.mk hl77005_0
          clear hi77005_0 hl77005_0
          replace p77005 := eq_true p77005
          replace q77005 := eq_true q77005
          go_wp2_with (first | ((with_reducible refine gate_builtin (b := .append) (xs := #[.tmp 31, .tmp 32]) rfl ?_); at_builtin; refine Kd.R_append_rows k55 (w0 := w) w.heap.size rfl (.tmp 31) (.tmp 32) 29 55 (.agg #[(.int .i64 0), (.int .i64 0)]) 16 rfl Try.underlying29 info55 rfl (by decide) (by omega) u6 x6_2 (rd_L4 l0 x27_2) _ _ _ (fun _ => True) (fun _ => False) rfl rfl ?aO ?aR (fun _ _ h => h) (fun _ h => h.elim) ?aF ?aB ?aS ?aL ?_; (case aR => exact (Kd.C_below HR77005_0.out HB.out)); (case aB => exact (by repeat (first | exact HB.out | apply below_alloc | apply pw_below_drewN | apply below_drew1))); (case aF => exact (fun _ _ => trivial)); (case aO => exact (HO_6.out)); (case aS => exact (below_size (by repeat (first | exact HB.out | apply below_alloc | apply pw_below_drewN | apply below_drew1)))); (case aL => have := LMc11.out; omega); intro v77007 w12 ho hb hg hat; rw [← Ny77006.out] at ho; have n0_ := Aside0.mk (hb); have n1_ := Aside0.mk (ho); clear HB; clear HO_6; have HB := n0_; have HO77008 := n1_; clear n0_ n1_; clear ho hb hg hat))
          go_roundg k2
          case measure => have := HK1.out; have := HK2.out; omega
          case rel => exact ⟨(y77006), (wrap64 (x27_2 + 1)), (by first | rfl | (simp; done) | (simp [*]; done)), H', ⟨by have := HK1.out; have := HK2.out; omega⟩, ⟨HO77008.out⟩, ⟨by repeat (first | exact HB.out | apply below_alloc | apply pw_below_drewN | apply below_drew1)⟩⟩
         ·rw [if_neg c11] at H
          exact absurd H (by simp)
        ·rw [if_neg c10] at H
         exact absurd H (by simp)
       ·rw [if_neg c9] at H
        exact absurd H (by simp)
      ·rw [if_neg c8] at H
       have c8b0 : decide (x27_2 < (l0.length : Int)) = false := decide_eq_false c8
       clear c8
       obtain rfl := Option.some.inj H
       go_wp2
       go_ret
       exact ⟨_, by first | rfl | (simp [errW_none, errW_some] <;> rfl) | (simp [*, errW_none, errW_some] <;> rfl), by exact HO_6.out, by repeat (first | exact HB.out | apply below_alloc | apply pw_below_drewN | apply below_drew1)⟩

end Go.Proofs.Ytalpegglbfobiaa.G

namespace Go.Proofs.Ytalpegglbfobiaa.G
open Go.RowKit Go.Proofs.YtalpegglbfobiaaW.PrintWords Go.Proofs.YtalpegglbfobiaaW.PrintLast Go.Proofs.YtalpegglbfobiaaW.PrintMore
set_option linter.unusedVariables false
set_option linter.unusedSimpArgs false
def slices_Concat_api_Span_api_Span_2.f (l0 l1 : List S55) : Option (List S55) := if l0.length ≤ 1000000 ∧ l1.length ≤ 1000000 then some (l0 ++ l1) else none
theorem concat_two (l0 l1 : List S55) (h0 : l0.length ≤ 1000000) (h1 : l1.length ≤ 1000000) : slices_Concat_api_Span_api_Span.f 6 [l0, l1] = some (l0 ++ l1) := by
 have w0 : wrap64 (0 + (l0.length : Int)) = l0.length := by unfold wrap64; omega
 have w1 : wrap64 ((l0.length : Int) + (l1.length : Int)) = l0.length + l1.length := by unfold wrap64; omega
 have w2 : wrap64 ((0 : Int) + 1) = 1 := by unfold wrap64; omega
 have w3 : wrap64 ((1 : Int) + 1) = 2 := by unfold wrap64; omega
 have g : slices_Grow_api_Span_api_Span_0.f ((l0.length : Int) + (l1.length : Int)) = some [] := by unfold slices_Grow_api_Span_api_Span_0.f; rw [if_pos (by omega)]
 have len : (([l0, l1] : List (List S55)).length : Int) = 2 := rfl
 unfold slices_Concat_api_Span_api_Span.f
 rw [slices_Concat_api_Span_api_Span.l0, len, if_pos (by omega), if_pos (by omega), if_pos (by omega)]
 change (if wrap64 (0 + (l0.length : Int)) < 0 then none else slices_Concat_api_Span_api_Span.l0 5 [l0, l1] (wrap64 (0 + (l0.length : Int))) [l0, l1] 2 (wrap64 ((0 : Int) + 1))) = _
 rw [w0, if_neg (by omega), w2, slices_Concat_api_Span_api_Span.l0, len, if_pos (by omega), if_pos (by omega), if_pos (by omega)]
 change (if wrap64 ((l0.length : Int) + (l1.length : Int)) < 0 then none else slices_Concat_api_Span_api_Span.l0 4 [l0, l1] (wrap64 ((l0.length : Int) + (l1.length : Int))) [l0, l1] 2 (wrap64 ((1 : Int) + 1))) = _
 rw [w1, if_neg (by omega), w3, slices_Concat_api_Span_api_Span.l0, if_neg (by omega), g, Option.bind_some, slices_Concat_api_Span_api_Span.l1, len, if_pos (by omega), if_pos (by omega), if_pos (by omega)]
 change (if ([] : List S55).length + l0.length < 8796093022208 then slices_Concat_api_Span_api_Span.l1 2 ([] ++ l0) [l0, l1] 2 (wrap64 ((0 : Int) + 1)) else none) = _
 rw [if_pos (by simp; omega), w2, slices_Concat_api_Span_api_Span.l1, len, if_pos (by omega), if_pos (by omega), if_pos (by omega)]
 change (if ([] ++ l0 : List S55).length + l1.length < 8796093022208 then slices_Concat_api_Span_api_Span.l1 1 ([] ++ l0 ++ l1) [l0, l1] 2 (wrap64 ((1 : Int) + 1)) else none) = _
 rw [if_pos (by simp; omega), w3, slices_Concat_api_Span_api_Span.l1, if_neg (by omega)]
 simp
theorem slices_Concat_api_Span_api_Span_2.calls (A0 : Option Addr) (c0 : Nat) (l0 : List (S55)) (A1 : Option Addr) (c1 : Nat) (l1 : List (S55)) (r : List (S55)) (w : World) (hr0 : Kd.C k55 w A0 l0.length l0) (hc0 : l0.length ≤ c0) (hr1 : Kd.C k55 w A1 l1.length l1) (hc1 : l1.length ≤ c1) (h : slices_Concat_api_Span_api_Span_2.f l0 l1 = some r) :
  Calls Try.prog 76 #[.slice (some ⟨w.heap.size, 0, none⟩) 2 2] (w.alloc (.cells #[.slice A0 l0.length c0, .slice A1 l1.length c1] 29)) fun e w' => ∃ v0_ : Value, e = .returned v0_ ∧ Kd.R k55 55 w' w.heap.size (fun _ => True) v0_ r ∧ Below w.heap.size w w' := by
 unfold slices_Concat_api_Span_api_Span_2.f at h
 split at h
 case isFalse => cases h
 rename_i h2
 obtain rfl := Option.some.inj h
 generalize hw : w.alloc (.cells #[.slice A0 l0.length c0, .slice A1 l1.length c1] 29) = W
 have hb : Below w.heap.size w W := by rw [← hw]; exact (Below.refl _ _).alloc (Nat.le_refl _) _
 have hq : W.heap[w.heap.size]? = some (.cells #[.slice A0 l0.length c0, .slice A1 l1.length c1] 29 (0, 0)) := by rw [← hw]; exact World.alloc_heap_new w _
 have hC : Kd.C (Kd.slice 55 k55) W (some ⟨w.heap.size, 0, none⟩) ([l0, l1] : List (List S55)).length [l0, l1] := by
  refine ⟨rfl, by simp, fun _ => ⟨_, rfl, fun j p hj => ?_⟩⟩
  match j, hj with
  | 0, hj =>
   obtain rfl : l0 = p := by simpa using hj
   refine ⟨[.slice A0 l0.length c0], rfl, ⟨A0, c0, rfl, hc0, Kd.C_below hr0 hb⟩, fun q u hu => ?_⟩
   match q, hu with
   | 0, hu => rw [← hu]; exact blk_cell hq 0
  | 1, hj =>
   obtain rfl : l1 = p := by simpa using hj
   refine ⟨[.slice A1 l1.length c1], rfl, ⟨A1, c1, rfl, hc1, Kd.C_below hr1 hb⟩, fun q u hu => ?_⟩
   match q, hu with
   | 0, hu => rw [← hu, add_plain]; exact blk_cell hq 1
 refine (slices_Concat_api_Span_api_Span.calls 6 (some ⟨w.heap.size, 0, none⟩) 2 [l0, l1] (l0 ++ l1) W hC (Nat.le_refl 2) (concat_two l0 l1 h2.1 h2.2)).mono ?_
 rintro e w' ⟨v, rfl, hR, hB⟩
 exact ⟨v, rfl, Kd.R_lower hR hb.size, hb.trans (hB.mono hb.size)⟩
end Go.Proofs.Ytalpegglbfobiaa.G

namespace Go.Proofs.Ytalpegglbfobiaa.G
open Go.RowKit Go.Proofs.YtalpegglbfobiaaW.PrintWords Go.Proofs.YtalpegglbfobiaaW.PrintLast Go.Proofs.YtalpegglbfobiaaW.PrintMore
open Go.Sort hiding Below
set_option linter.unusedVariables false
set_option linter.unusedSimpArgs false
abbrev V36 := {x : S55 // 0 ≤ x.f0 ∧ x.f0 ≤ 17179869184}
instance : Inhabited V36 := ⟨⟨⟨0, 0⟩, by decide⟩⟩
def encV (x : V36) : List Value := [.int .i64 x.1.f0, .int .i64 x.1.f1]
def cmpV (x y : V36) : Int := x.1.f0 - y.1.f0
theorem ltV (x y : V36) : ltOf cmpV x y = decide (x.1.f0 < y.1.f0) := by
 unfold ltOf cmpV
 by_cases h : x.1.f0 < y.1.f0
 ·rw [decide_eq_true h, decide_eq_true (by omega)]
 ·rw [decide_eq_false h, decide_eq_false (by omega)]
theorem swoV : SWO (ltOf cmpV) where
 irrefl x := by rw [ltV]; simp
 trans x y z h1 h2 := by rw [ltV] at *; simp at *; omega
 ntrans x y z h1 h2 := by rw [ltV] at *; simp at *; omega
theorem closureJ (x y : V36) (W : World) : Calls Try.prog 82 #[.agg (encV x).toArray, .agg (encV y).toArray] W fun e w' => e = .returned (.int .i64 (cmpV x y)) ∧ ∃ q os', w' = grow (W.drewN q) os' := by
 have hw : wrap64 (x.1.f0 - y.1.f0) = x.1.f0 - y.1.f0 := by
  have := x.2; have := y.2; unfold wrap64; omega
 show Calls Try.prog 82 #[.agg #[.int .i64 x.1.f0, .int .i64 x.1.f1], .agg #[.int .i64 y.1.f0, .int .i64 y.1.f1]] W fun e w' => e = .returned (.int .i64 (x.1.f0 - y.1.f0)) ∧ ∃ q os', w' = grow (W.drewN q) os'
 rw [← hw]
 clear hw
 generalize x.1.f0 = a
 generalize x.1.f1 = b
 generalize y.1.f0 = c
 generalize y.1.f1 = d
 go_enter Try.func82, Try.ntmps82
 go_wp2
 go_ret
 exact ⟨rfl, 0, _, by rw [alloc_eq_grow, alloc_eq_grow, grow_grow]; rfl⟩
theorem cmpLaysJ (blk off size : Nat) (w : World) : CmpLays Try.prog 82 #[] encV 2 cmpV blk off size w :=
 fun _ _ _ _ x y => closureJ x y _
def toV (l : List S55) (hv : ∀ s ∈ l, 0 ≤ s.f0 ∧ s.f0 ≤ 17179869184) : Array V36 := (l.pmap (fun s h => (⟨s, h⟩ : V36)) hv).toArray
theorem toV_size (l : List S55) (hv) : (toV l hv).size = l.length := by simp [toV]
theorem toV_get (l : List S55) (hv) (i : Nat) (h : i < l.length) : ((toV l hv)[i]!).1 = l[i] := by
 rw [getElem!_pos (toV l hv) i (by rw [toV_size]; exact h)]
 simp [toV]
theorem toV_list (l : List S55) (hv) : (toV l hv).toList.map (fun x => x.1) = l := by
 simp [toV, List.map_pmap]
theorem kspan_sz : k55.sz = 2 := rfl
theorem holds36 {w : World} {blk : Nat} (l : List S55) (hv : ∀ s ∈ l, 0 ≤ s.f0 ∧ s.f0 ≤ 17179869184) (hC : Kd.C k55 w (some ⟨blk, 0, none⟩) l.length l) (cur : Array Value) (hz : w.heap[blk]? = some (.cells cur 55 (0, 0))) : HoldsK encV 2 w blk 0 (toV l hv) := by
 intro j hj
 rw [size_flatK, toV_size] at hj
 rw [get_flatK _ _ _ _ (by rw [toV_size]; exact hj)]
 refine ⟨?_, by simp [World.frozen?, hz]⟩
 have hi : j / 2 < l.length := by omega
 obtain ⟨ad, e, H⟩ := hC.2.2 (by omega)
 cases e
 obtain ⟨c, hcl, hK, hcell⟩ := H (j / 2) l[j / 2] (List.getElem?_eq_getElem hi)
 have hop := k55_open hK
 subst hop
 have hen : encV ((toV l hv)[j / 2]!) = [.int .i64 l[j / 2].f0, .int .i64 l[j / 2].f1] := by
  unfold encV; rw [toV_get l hv _ hi]
 rw [hen]
 have hlt : j % 2 < 2 := Nat.mod_lt _ (by decide)
 have := hcell (j % 2) (([.int .i64 l[j / 2].f0, .int .i64 l[j / 2].f1] : List Value)[j % 2]!) (by
  rw [getElem!_pos ([.int .i64 l[j / 2].f0, .int .i64 l[j / 2].f1] : List Value) (j % 2) (by simpa using hlt), List.getElem?_eq_getElem])
 rw [kspan_sz, show j / 2 * 2 + j % 2 = j from by omega] at this
 rw [Addr.add_lit] at this
 exact this
theorem C_holds {w : World} {blk : Nat} (d : Array V36) (hd : d.size ≤ 1000000) (h : HoldsK encV 2 w blk 0 d) : Kd.C k55 w (some ⟨blk, 0, none⟩) d.size (d.toList.map fun x => x.1) := by
 refine ⟨by simp, by omega, fun _ => ⟨⟨blk, 0, none⟩, rfl, fun j p hj => ?_⟩⟩
 have hjl : j < d.size := by
  have := (List.getElem?_eq_some_iff.1 hj).1
  simpa using this
 have hp : p = (d[j]!).1 := by
  rw [List.getElem?_map, Array.getElem?_toList, Array.getElem?_eq_getElem hjl] at hj
  rw [getElem!_pos d j hjl]
  exact (Option.some.inj hj).symm
 subst hp
 refine ⟨[.int .i64 (d[j]!).1.f0, .int .i64 (d[j]!).1.f1], rfl, k55_mk w _, fun i u hu => ?_⟩
 have hi : i < 2 := (List.getElem?_eq_some_iff.1 hu).1
 have := (h.cell hjl hi).1
 have e : (encV d[j]!)[i]! = u := by
  show ([.int .i64 (d[j]!).1.f0, .int .i64 (d[j]!).1.f1] : List Value)[i]! = u
  rw [List.getElem!_eq_getElem?_getD, hu]; rfl
 rw [e, Nat.add_assoc] at this
 rw [kspan_sz, Addr.add_lit]
 exact this
theorem below_grow_ (B : Nat) {a w : World} (h : RowKit.Below B a w) (hB : B ≤ w.heap.size) (os : Array Obj) : RowKit.Below B a (grow w os) :=
 h.trans ⟨rfl, rfl, rfl, by simp [grow], fun k hk => by simp [grow, Array.getElem?_append_left (Nat.lt_of_lt_of_le hk hB)]⟩
end Go.Proofs.Ytalpegglbfobiaa.G

namespace Go.Proofs.Ytalpegglbfobiaa.G
open Go.RowKit Go.Proofs.YtalpegglbfobiaaW.PrintWords Go.Proofs.YtalpegglbfobiaaW.PrintLast Go.Proofs.YtalpegglbfobiaaW.PrintMore
open Go.Sort hiding Below
set_option linter.unusedVariables false
set_option linter.unusedSimpArgs false
theorem permIn_list {d d' : Array V36} (h : PermIn 0 d.size d d') : (d'.toList.map fun x => x.1).Perm (d.toList.map fun x => x.1) := by
 obtain ⟨h1, _, h3⟩ := h
 have e1 : d.extract 0 d.size = d := Array.extract_size
 have e2 : d'.extract 0 d.size = d' := by rw [← h1]; exact Array.extract_size
 rw [e1, e2] at h3
 exact h3.map _
theorem sortedIn_list {d : Array V36} (h : SortedIn (ltOf cmpV) 0 d.size d) : (d.toList.map fun x => x.1).Pairwise (fun a b => a.f0 ≤ b.f0) := by
 rw [List.pairwise_iff_getElem]
 intro i j hi hj hij
 have hi' : i < d.size := by simpa using hi
 have hj' : j < d.size := by simpa using hj
 have := h i j (Nat.zero_le _) hij hj'
 rw [ltV, getElem!_pos d j hj', getElem!_pos d i hi'] at this
 simp only [decide_eq_false_iff_not] at this
 simp only [List.getElem_map, Array.getElem_toList]
 omega
set_option maxHeartbeats 1000000 in
theorem sortSpans (blk cap : Nat) (l : List S55) (w : World) (hv : ∀ s ∈ l, 0 ≤ s.f0 ∧ s.f0 ≤ 17179869184) (hl : l.length ≤ 1000000) (hC : Kd.C k55 w (some ⟨blk, 0, none⟩) l.length l) (cur : Array Value) (hz : w.heap[blk]? = some (.cells cur 55 (0, 0))) :
  Calls Try.prog 81 #[.slice (some ⟨blk, 0, none⟩) l.length cap, .func (.func 82) #[] #[]] w fun e w' => e = .returned (.tuple #[]) ∧ ∃ l' : List S55, l'.Perm l ∧ l'.Pairwise (fun a b => a.f0 ≤ b.f0) ∧ Kd.C k55 w' (some ⟨blk, 0, none⟩) l'.length l' ∧ RowKit.Below blk w w' := by
 have eg : ∀ args w, (callFunc 82 args).run Try.prog w = .ok (.enter 82 args) w := enters_of Try.func82 (by kernel_rfl) rfl
 have hH := holds36 l hv hC cur hz
 have hlt : blk < w.heap.size := by
  rcases Nat.lt_or_ge blk w.heap.size with h | h
  ·exact h
  ·rw [Array.getElem?_eq_none h] at hz; cases hz
 have hcon := AnyQ.slices_SortFunc Try.sortSpan 2 Try.isAgg55 Try.sizeOf55 encV (fun _ => rfl) (fun x v hv => by simp [encV] at hv; rcases hv with rfl | rfl <;> rfl) cmpV swoV 82 #[] blk 0 cap (toV l hv) w eg (cmpLaysJ blk 0 (toV l hv).size w) hH hlt (by rw [toV_size]; omega)
 rw [toV_size] at hcon
 refine Calls.mono hcon ?_
 rintro e w' ⟨he, d', n, os, hp, hs, hw⟩
 have hsz : d'.size = l.length := by rw [hp.1]; exact toV_size l hv
 have hp' : PermIn 0 (toV l hv).size (toV l hv) d' := by rw [toV_size]; exact hp
 have hs' : SortedIn (ltOf cmpV) 0 d'.size d' := by rw [hsz]; exact hs
 have hperm := permIn_list hp'
 rw [toV_list] at hperm
 refine ⟨he, d'.toList.map fun x => x.1, hperm, sortedIn_list hs', ?_, ?_⟩
 ·have hh : HoldsK encV 2 w' blk 0 d' := by
   rw [hw]
   exact holdsK_sortWorldK encV 2 w blk 0 n (toV l hv) d' os hlt hH (by rw [hsz, toV_size])
  have := C_holds d' (by omega) hh
  simpa using this
 ·rw [hw]
  unfold sortWorldK putRowK
  refine below_grow_ blk (Go.Lib.below_putRow (RowKit.Below.refl blk w) (Nat.le_refl _)) ?_ os
  simp [putRow, mapBlock, Sort.ahead]; omega
end Go.Proofs.Ytalpegglbfobiaa.G

namespace Go.Proofs.Ytalpegglbfobiaa.G
open Go.RowKit Go.Proofs.YtalpegglbfobiaaW.PrintWords Go.Proofs.YtalpegglbfobiaaW.PrintLast Go.Proofs.YtalpegglbfobiaaW.PrintMore
open Go.Sort hiding Below
set_option linter.unusedVariables false
set_option linter.unusedSimpArgs false
theorem sortOwned (n₀ : Nat) (v : Value) (l : List S55) (w : World) (hv : ∀ s ∈ l, 0 ≤ s.f0 ∧ s.f0 ≤ 17179869184) (hl : l.length ≤ 1000000) (hO : Kd.R k55 55 w n₀ (fun _ => True) v l) :
  Calls Try.prog 81 #[v, .func (.func 82) #[] #[]] w fun e w' => e = .returned (.tuple #[]) ∧ ∃ (l' : List S55) (A : Option Addr) (c : Nat), v = .slice A l'.length c ∧ l'.length ≤ c ∧ l'.Perm l ∧ l'.Pairwise (fun a b => a.f0 ≤ b.f0) ∧ Kd.C k55 w' A l'.length l' ∧ RowKit.Below n₀ w w' := by
 obtain ⟨inner, ho⟩ := Kd.R_own hO
 obtain ⟨A, c, hs, hlc, hC⟩ := Kd.R_reads hO
 rcases ho.2 with ⟨e0, e1⟩ | ⟨g, cap, cur, e0, hb, hg, hn, hm, hs', ht⟩
 ·have h0 : l = [] := List.length_eq_zero_iff.1 e1
  subst h0
  subst e0
  refine (AnyF.slices_SortFunc_none Try.sortSpan none 0 _ w).mono ?_
  rintro e w' ⟨he, rfl⟩
  exact ⟨he, [], none, 0, rfl, Nat.le_refl _, List.Perm.refl _, List.Pairwise.nil, ⟨rfl, by simp, fun h => absurd h (by simp)⟩, RowKit.Below.refl _ _⟩
 ·subst e0
  injection hs with q1 q2 q3
  subst q1
  refine (sortSpans g cap l w hv hl hC cur hg).mono ?_
  rintro e w' ⟨he, l', hp, hsd, hC', hB⟩
  have hll := hp.length_eq
  exact ⟨he, l', some ⟨g, 0, none⟩, cap, by rw [hll], by rw [hll]; exact hn, hp, hsd, hC', hB.mono hb⟩
end Go.Proofs.Ytalpegglbfobiaa.G

namespace Go.Proofs.Ytalpegglbfobiaa.G
open Go.RowKit Go.Proofs.YtalpegglbfobiaaW.PrintWords Go.Proofs.YtalpegglbfobiaaW.PrintLast Go.Proofs.YtalpegglbfobiaaW.PrintMore
set_option linter.unusedVariables false
set_option linter.unusedSimpArgs false
theorem made_nil (w : World) : Kd.R k55 55 (w.alloc (.cells #[] 55)) w.heap.size (fun _ => True) (.slice (some ⟨w.heap.size, 0, none⟩) 0 0) [] :=
 ⟨fun _ _ => trivial, [], World.ownsRow_made w #[] 0 (Nat.le_refl _) (Nat.zero_le _) (by simp), Reps.none _ _⟩
set_option maxRecDepth 100000 in
set_option maxHeartbeats 8000000 in
theorem cloneSpans (A0 : Option Addr) (c0 : Nat) (l : List S55) (w : World) (hr : Kd.C k55 w A0 l.length l) (hc : l.length ≤ c0) (hl : l.length ≤ 1000000) :
  Calls Try.prog 80 #[.slice A0 l.length c0] w fun e w' => ∃ v : Value, e = .returned v ∧ Kd.R k55 55 w' w.heap.size (fun _ => True) v l ∧ Below w.heap.size w w' := by
 have q22 : ∀ (w : World) (a : Option Addr) (n c n' c' : Nat), (binOp .eql 29 (.slice a n c) (.slice none n' c')).run Try.prog w = .ok (.bool a.isNone) w := fun w a n c n' c' => Lib.run_eql_slice_nil w _ _ a n c n' c' Try.underlying29
 have HR := Aside0.mk hr
 have HC := Aside0.mk hc
 have HL := Aside0.mk hl
 clear hr hc hl
 cases A0 with
 | none =>
  have h0 : l = [] := by
   cases l with
   | nil => rfl
   | cons s r => obtain ⟨ad, h, _⟩ := HR.out.2.2 (by simp); cases h
  subst h0
  go_enter Try.func80, Try.ntmps80
  go_wp2
  go_ret
  exact ⟨_, rfl, Kd.R_nil _ _ _ _ _, Below.refl _ _⟩
 | some ad =>
  have HN := Aside0.mk (made_nil w)
  have HB := Aside0.mk ((Below.refl w.heap.size w).alloc (Nat.le_refl _) (.cells #[] 55))
  go_enter Try.func80, Try.ntmps80
  go_wp2_with (at_builtin; refine Kd.R_append_rows k55 (w0 := w) w.heap.size rfl (.tmp 5) (.tmp 6) 29 55 (.agg #[(.int .i64 0), (.int .i64 0)]) 16 rfl Try.underlying29 info55 rfl (by decide) (by omega) (.slice (some ⟨w.heap.size, 0, none⟩) 0 0) [] l _ _ _ (fun _ => True) (fun _ => False) rfl rfl HN.out (Kd.C_alloc HR.out _) (fun x cs h => ?aK) (fun _ h => h.elim) (fun _ _ => trivial) HB.out (by simp) (by have := HL.out; simp; omega) ?_; (case aK => have h2 := k55_open h; subst h2; exact k55_mkM _ _ _ x); intro v1 w1 ho hb hg hat; have HO := Aside0.mk ho; have HB1 := Aside0.mk hb; clear ho hb hg hat)
  go_ret
  exact ⟨_, rfl, by have := HO.out; simpa using this, HB1.out⟩
end Go.Proofs.Ytalpegglbfobiaa.G

namespace Go.Proofs.Ytalpegglbfobiaa.G
open Go.RowKit Go.Proofs.YtalpegglbfobiaaW.PrintWords Go.Proofs.YtalpegglbfobiaaW.PrintLast Go.Proofs.YtalpegglbfobiaaW.PrintMore
set_option linter.unusedVariables false
set_option linter.unusedSimpArgs false
def Mem (l : List S55) (x : Int) : Prop := ∃ s ∈ l, s.f0 ≤ x ∧ x < s.f1
def sep : Int → List S55 → Prop
 | _, [] => True
 | e, x :: r => e < x.f0 ∧ x.f0 < x.f1 ∧ sep x.f1 r
theorem sep_mem : ∀ {l : List S55} {e x : Int}, sep e l → Mem l x → e < x
 | [], e, x, _, h => by obtain ⟨s, hs, _⟩ := h; simp at hs
 | y :: r, e, x, hl, ⟨s, hs, h1, h2⟩ => by
  rcases List.mem_cons.1 hs with rfl | hs
  ·have := hl.1; omega
  ·have := sep_mem hl.2.2 ⟨s, hs, h1, h2⟩
   have := hl.1; have := hl.2.1; omega
theorem sep_le {e e' : Int} (h : e' ≤ e) : ∀ {l : List S55}, sep e l → sep e' l
 | [], _ => trivial
 | x :: r, k => ⟨by have := k.1; omega, k.2⟩
theorem mem_cons {y : S55} {r : List S55} {x : Int} : Mem (y :: r) x ↔ (y.f0 ≤ x ∧ x < y.f1) ∨ Mem r x := by
 unfold Mem
 constructor
 ·rintro ⟨s, hs, h⟩
  rcases List.mem_cons.1 hs with rfl | hs
  ·exact .inl h
  ·exact .inr ⟨s, hs, h⟩
 ·rintro (h | ⟨s, hs, h⟩)
  ·exact ⟨y, by simp, h⟩
  ·exact ⟨s, by simp [hs], h⟩
theorem mem_nil (x : Int) : ¬ Mem [] x := by rintro ⟨s, hs, _⟩; simp at hs
theorem mem_append {a b : List S55} {x : Int} : Mem (a ++ b) x ↔ Mem a x ∨ Mem b x := by
 unfold Mem
 constructor
 ·rintro ⟨s, hs, h⟩
  rcases List.mem_append.1 hs with hs | hs
  ·exact .inl ⟨s, hs, h⟩
  ·exact .inr ⟨s, hs, h⟩
 ·rintro (⟨s, hs, h⟩ | ⟨s, hs, h⟩)
  ·exact ⟨s, by simp [hs], h⟩
  ·exact ⟨s, by simp [hs], h⟩
theorem sep_unique : ∀ {a b : List S55} {e e' : Int}, sep e a → sep e' b → (∀ x, Mem a x ↔ Mem b x) → a = b
 | [], [], _, _, _, _, _ => rfl
 | [], y :: s, _, _, _, hb, h => absurd ((h y.f0).2 (mem_cons.2 (.inl ⟨Int.le_refl _, hb.2.1⟩))) (mem_nil _)
 | x :: r, [], _, _, ha, _, h => absurd ((h x.f0).1 (mem_cons.2 (.inl ⟨Int.le_refl _, ha.2.1⟩))) (mem_nil _)
 | x :: r, y :: s, _, _, ha, hb, h => by
  have lo : ∀ {p : S55} {q : List S55} {z : Int}, p.f0 < p.f1 → sep p.f1 q → Mem (p :: q) z → p.f0 ≤ z := by
   intro p q z h1 h2 h3
   rcases mem_cons.1 h3 with h3 | h3
   ·exact h3.1
   ·have := sep_mem h2 h3; omega
  have up : ∀ {p : S55} {q : List S55} {z : Int}, sep p.f1 q → Mem (p :: q) z → ¬ z = p.f1 := by
   intro p q z h2 h3 h4
   rcases mem_cons.1 h3 with h3 | h3
   ·omega
   ·have := sep_mem h2 h3; omega
  have e0 : x.f0 = y.f0 := by
   have h1 := lo hb.2.1 hb.2.2 ((h x.f0).1 (mem_cons.2 (.inl ⟨Int.le_refl _, ha.2.1⟩)))
   have h2 := lo ha.2.1 ha.2.2 ((h y.f0).2 (mem_cons.2 (.inl ⟨Int.le_refl _, hb.2.1⟩)))
   omega
  have hx := ha.2.1; have hy := hb.2.1
  have e1 : x.f1 = y.f1 := by
   rcases Int.lt_trichotomy x.f1 y.f1 with k | k | k
   ·exact absurd rfl (up ha.2.2 ((h x.f1).2 (mem_cons.2 (.inl ⟨by omega, k⟩))))
   ·exact k
   ·exact absurd rfl (up hb.2.2 ((h y.f1).1 (mem_cons.2 (.inl ⟨by omega, k⟩))))
  have e2 : x = y := by cases x; cases y; simp_all
  subst e2
  rw [sep_unique ha.2.2 hb.2.2 (fun z => ?_)]
  constructor
  ·intro k
   have := sep_mem ha.2.2 k
   rcases mem_cons.1 ((h z).1 (mem_cons.2 (.inr k))) with k | k
   ·omega
   ·exact k
  ·intro k
   have := sep_mem hb.2.2 k
   rcases mem_cons.1 ((h z).2 (mem_cons.2 (.inr k))) with k | k
   ·omega
   ·exact k

def withOf : List Int → Int → List Int
 | [], n => [n]
 | x :: r, n => if x < n then x :: withOf r n else if x = n then x :: r else n :: x :: r
theorem withOf_len : ∀ (l : List Int) (n : Int), (withOf l n).length ≤ l.length + 1
 | [], n => by simp [withOf]
 | x :: r, n => by
  have := withOf_len r n
  unfold withOf
  split
  ·simp; omega
  ·split <;> simp
theorem withOf_mem : ∀ (l : List Int) (n x : Int), x ∈ withOf l n ↔ x = n ∨ x ∈ l
 | [], n, x => by simp [withOf]
 | y :: r, n, x => by
  have := withOf_mem r n x
  unfold withOf
  split
  ·simp only [List.mem_cons, this]; constructor <;> (rintro (h | h | h) <;> simp [h])
  ·split
   ·rename_i h; subst h; simp
   ·simp
theorem withOf_sorted : ∀ (l : List Int) (n : Int), l.Pairwise (· < ·) → (withOf l n).Pairwise (· < ·)
 | [], n, _ => by simp [withOf]
 | y :: r, n, h => by
  rw [List.pairwise_cons] at h
  unfold withOf
  split
  ·rename_i k
   refine List.pairwise_cons.2 ⟨fun z hz => ?_, withOf_sorted r n h.2⟩
   rcases (withOf_mem r n z).1 hz with rfl | hz
   ·exact k
   ·exact h.1 z hz
  ·split
   ·exact List.pairwise_cons.2 h
   ·refine List.pairwise_cons.2 ⟨fun z hz => ?_, List.pairwise_cons.2 h⟩
    rcases List.mem_cons.1 hz with rfl | hz
    ·omega
    ·have := h.1 z hz; omega
def endStep (o : List Int) (s : S55) : List Int := withOf (withOf o s.f0) s.f1
def endsOf (a b : List S55) : List Int := b.foldl endStep (a.foldl endStep [])
theorem endStep_len (o : List Int) (s : S55) : (endStep o s).length ≤ o.length + 2 := by
 have h1 := withOf_len o s.f0
 have h2 := withOf_len (withOf o s.f0) s.f1
 unfold endStep
 omega
theorem foldEnd_len : ∀ (a : List S55) (o : List Int), (a.foldl endStep o).length ≤ o.length + 2 * a.length
 | [], o => by simp
 | s :: a, o => by
  have h1 := foldEnd_len a (endStep o s)
  have h2 := endStep_len o s
  simp only [List.foldl_cons, List.length_cons]
  omega
theorem foldEnd_mem : ∀ (a : List S55) (o : List Int) (x : Int), x ∈ a.foldl endStep o ↔ x ∈ o ∨ ∃ s ∈ a, x = s.f0 ∨ x = s.f1
 | [], o, x => by simp
 | s :: a, o, x => by
  rw [List.foldl_cons, foldEnd_mem a]
  unfold endStep
  rw [withOf_mem, withOf_mem]
  simp only [List.mem_cons]
  constructor
  ·rintro ((h | h | h) | ⟨t, ht, h⟩)
   ·exact .inr ⟨s, .inl rfl, .inr h⟩
   ·exact .inr ⟨s, .inl rfl, .inl h⟩
   ·exact .inl h
   ·exact .inr ⟨t, .inr ht, h⟩
  ·rintro (h | ⟨t, rfl | ht, h⟩)
   ·exact .inl (.inr (.inr h))
   ·rcases h with h | h
    ·exact .inl (.inr (.inl h))
    ·exact .inl (.inl h)
   ·exact .inr ⟨t, ht, h⟩
theorem foldEnd_sorted : ∀ (a : List S55) (o : List Int), o.Pairwise (· < ·) → (a.foldl endStep o).Pairwise (· < ·)
 | [], o, h => h
 | s :: a, o, h => by
  rw [List.foldl_cons]
  exact foldEnd_sorted a _ (withOf_sorted _ _ (withOf_sorted _ _ h))
theorem endsOf_mem (a b : List S55) (x : Int) : x ∈ endsOf a b ↔ (∃ s ∈ a, x = s.f0 ∨ x = s.f1) ∨ ∃ s ∈ b, x = s.f0 ∨ x = s.f1 := by
 unfold endsOf
 rw [foldEnd_mem, foldEnd_mem]
 simp
theorem endsOf_sorted (a b : List S55) : (endsOf a b).Pairwise (· < ·) := foldEnd_sorted b _ (foldEnd_sorted a _ List.Pairwise.nil)
theorem endsOf_len (a b : List S55) : (endsOf a b).length ≤ 2 * a.length + 2 * b.length := by
 have h1 := foldEnd_len a []
 have h2 := foldEnd_len b (a.foldl endStep [])
 unfold endsOf
 simp only [List.length_nil] at h1
 omega
def hasOf (l : List S55) (x : Int) : Bool := l.any fun s => decide (s.f0 ≤ x ∧ x < s.f1)
theorem hasOf_iff (l : List S55) (x : Int) : hasOf l x = true ↔ Mem l x := by simp [hasOf, Mem]
def skips (w : Int) (p q : Bool) : Bool := (w == 0 && !p && !q) || (w == 1 && !(p && q)) || (w == 2 && (!p || q))
def push (out : List S55) (c d : Int) : List S55 := match out.getLast? with
 | none => [⟨c, d⟩]
 | some s => if s.f1 = c then out.dropLast ++ [⟨s.f0, d⟩] else out ++ [⟨c, d⟩]
def combGo (a b : List S55) (w : Int) : List S55 → List Int → List S55
 | out, c :: d :: r => combGo a b w (if skips w (hasOf a c) (hasOf b c) = true then out else push out c d) (d :: r)
 | out, _ => out
def combOf (a b : List S55) (w : Int) : List S55 := combGo a b w [] (endsOf a b)
theorem push_len (out : List S55) (c d : Int) : (push out c d).length ≤ out.length + 1 := by
 unfold push
 split
 ·simp
 ·split
  ·simp
  ·simp
def keeps (w : Int) (a b : List S55) (x : Int) : Prop := skips w (hasOf a x) (hasOf b x) = false
theorem sep_snoc : ∀ {l : List S55} {e : Int} {s : S55}, sep e l → (∀ t ∈ l, t.f1 < s.f0) → e < s.f0 → s.f0 < s.f1 → sep e (l ++ [s])
 | [], e, s, _, _, h1, h2 => ⟨h1, h2, trivial⟩
 | x :: r, e, s, h, ht, h1, h2 => ⟨h.1, h.2.1, sep_snoc h.2.2 (fun t k => ht t (by simp [k])) (ht x (by simp)) h2⟩
theorem sep_init : ∀ {l : List S55} {e : Int} {s : S55}, sep e (l ++ [s]) → sep e l ∧ (∀ t ∈ l, t.f1 < s.f0) ∧ e < s.f0 ∧ s.f0 < s.f1
 | [], e, s, h => ⟨trivial, by simp, h.1, h.2.1⟩
 | x :: r, e, s, h => by
  obtain ⟨h1, h2, h3, h4⟩ := sep_init (l := r) h.2.2
  have := h.2.1; have := h.1
  refine ⟨⟨h.1, h.2.1, h1⟩, fun t k => ?_, by omega, h4⟩
  rcases List.mem_cons.1 k with rfl | k
  ·exact h3
  ·exact h2 t k
theorem push_ok {out : List S55} {e c d : Int} (h : sep e out) (hc : ∀ t ∈ out, t.f1 ≤ c) (he : e < c) (hd : c < d) : sep e (push out c d) ∧ (∀ t ∈ push out c d, t.f1 ≤ d) ∧ ∀ x, Mem (push out c d) x ↔ Mem out x ∨ (c ≤ x ∧ x < d) := by
 by_cases h0 : out = []
 ·subst h0
  refine ⟨⟨he, hd, trivial⟩, fun t ht => ?_, fun x => ?_⟩
  ·rw [List.mem_singleton.1 ht]; exact Int.le_refl _
  ·show Mem [⟨c, d⟩] x ↔ _
   rw [mem_cons]
   constructor
   ·rintro (h | h)
    ·exact .inr h
    ·exact absurd h (mem_nil x)
   ·rintro (h | h)
    ·exact absurd h (mem_nil x)
    ·exact .inl h
 ·obtain ⟨i, s, rfl⟩ : ∃ i s, out = i ++ [s] := ⟨out.dropLast, out.getLast h0, (List.dropLast_concat_getLast _).symm⟩
  obtain ⟨h1, h2, h3, h4⟩ := sep_init h
  have hs := hc s (by simp)
  by_cases h5 : s.f1 = c
  ·have e1 : push (i ++ [s]) c d = i ++ [⟨s.f0, d⟩] := by simp [push, h5]
   rw [e1]
   refine ⟨sep_snoc h1 h2 h3 (by show s.f0 < d; omega), fun t ht => ?_, fun x => ?_⟩
   ·rcases List.mem_append.1 ht with ht | ht
    ·have := hc t (by simp [ht]); omega
    ·rw [List.mem_singleton.1 ht]; exact Int.le_refl _
   ·rw [mem_append, mem_append, mem_cons, mem_cons]
    have n := mem_nil x
    simp only [n, or_false]
    constructor
    ·rintro (k | k)
     ·exact .inl (.inl k)
     ·have k1 : s.f0 ≤ x := k.1
      have k2 : x < d := k.2
      by_cases k3 : x < s.f1
      ·exact .inl (.inr ⟨k1, k3⟩)
      ·exact .inr ⟨by omega, k2⟩
    ·rintro ((k | k) | k)
     ·exact .inl k
     ·exact .inr ⟨k.1, by show x < d; omega⟩
     ·exact .inr ⟨by show s.f0 ≤ x; omega, k.2⟩
  ·have e1 : push (i ++ [s]) c d = i ++ [s] ++ [⟨c, d⟩] := by simp [push, h5]
   rw [e1]
   refine ⟨sep_snoc h (fun t ht => ?_) he hd, fun t ht => ?_, fun x => ?_⟩
   ·rcases List.mem_append.1 ht with ht | ht
    ·have := h2 t ht; show t.f1 < c; omega
    ·rw [List.mem_singleton.1 ht]; show s.f1 < c; omega
   ·rcases List.mem_append.1 ht with ht | ht
    ·have := hc t ht; omega
    ·rw [List.mem_singleton.1 ht]; exact Int.le_refl _
   ·rw [mem_append, mem_cons]
    have n := mem_nil x
    simp only [n, or_false]
theorem combGo_ok (a b : List S55) (w : Int) (e : Int) : ∀ (cuts : List Int) (out : List S55) (c : Int), (c :: cuts).Pairwise (· < ·) → sep e out → (∀ t ∈ out, t.f1 ≤ c) → e < c →
  (∀ s, s ∈ a ∨ s ∈ b → (s.f0 ≤ c ∨ s.f0 ∈ cuts) ∧ (s.f1 ≤ c ∨ s.f1 ∈ cuts)) →
  (∀ x, x < c → (Mem out x ↔ keeps w a b x)) → skips w false false = true →
  sep e (combGo a b w out (c :: cuts)) ∧ ∀ x, Mem (combGo a b w out (c :: cuts)) x ↔ keeps w a b x
 | [], out, c, _, h, hc, he, hab, hm, hff => by
  refine ⟨h, fun x => ?_⟩
  by_cases hx : x < c
  ·exact hm x hx
  ·have na : ∀ l : List S55, (∀ s ∈ l, s.f1 ≤ c) → hasOf l x = false := by
    intro l hl
    cases hh : hasOf l x with
    | false => rfl
    | true =>
     obtain ⟨s, hs, k1, k2⟩ := (hasOf_iff l x).1 hh
     have := hl s hs; omega
   have h1 := na a (fun s hs => by have := (hab s (.inl hs)).2; simpa using this)
   have h2 := na b (fun s hs => by have := (hab s (.inr hs)).2; simpa using this)
   constructor
   ·rintro ⟨s, hs, k1, k2⟩
    have := hc s hs; omega
   ·intro k
    unfold keeps at k
    rw [h1, h2, hff] at k
    cases k
 | d :: cuts, out, c, hs, h, hc, he, hab, hm, hff => by
  rw [List.pairwise_cons] at hs
  have hcd := hs.1 d (by simp)
  have hsame : ∀ l : List S55, (∀ s ∈ l, s ∈ a ∨ s ∈ b) → ∀ x, c ≤ x → x < d → hasOf l x = hasOf l c := by
   intro l hl x h1 h2
   have : ∀ s ∈ l, (s.f0 ≤ x ∧ x < s.f1) ↔ (s.f0 ≤ c ∧ c < s.f1) := by
    intro s hs'
    obtain ⟨k1, k2⟩ := hab s (hl s hs')
    have g : ∀ z ∈ d :: cuts, d ≤ z := by
     intro z hz
     rcases List.mem_cons.1 hz with rfl | hz
     ·omega
     ·have := (List.pairwise_cons.1 hs.2).1 z hz; omega
    have k1' : s.f0 ≤ c ∨ d ≤ s.f0 := k1.imp id (g _)
    have k2' : s.f1 ≤ c ∨ d ≤ s.f1 := k2.imp id (g _)
    omega
   rw [Bool.eq_iff_iff, hasOf_iff, hasOf_iff]
   constructor
   ·rintro ⟨s, hs', k⟩; exact ⟨s, hs', (this s hs').1 k⟩
   ·rintro ⟨s, hs', k⟩; exact ⟨s, hs', (this s hs').2 k⟩
  have ka : ∀ x, c ≤ x → x < d → (keeps w a b x ↔ keeps w a b c) := by
   intro x h1 h2
   unfold keeps
   rw [hsame a (fun s k => .inl k) x h1 h2, hsame b (fun s k => .inr k) x h1 h2]
  have hab' : ∀ s, s ∈ a ∨ s ∈ b → (s.f0 ≤ d ∨ s.f0 ∈ cuts) ∧ (s.f1 ≤ d ∨ s.f1 ∈ cuts) := by
   intro s hs'
   obtain ⟨k1, k2⟩ := hab s hs'
   constructor
   ·rcases k1 with k | k
    ·exact .inl (by omega)
    ·rcases List.mem_cons.1 k with k | k
     ·exact .inl (by omega)
     ·exact .inr k
   ·rcases k2 with k | k
    ·exact .inl (by omega)
    ·rcases List.mem_cons.1 k with k | k
     ·exact .inl (by omega)
     ·exact .inr k
  rw [combGo]
  by_cases hk : skips w (hasOf a c) (hasOf b c) = true
  ·rw [if_pos hk]
   refine combGo_ok a b w e cuts out d hs.2 h (fun t ht => by have := hc t ht; omega) (by omega) hab' (fun x hx => ?_) hff
   by_cases hxc : x < c
   ·exact hm x hxc
   ·rw [ka x (by omega) hx]
    constructor
    ·rintro ⟨s, hs', k1, k2⟩
     have := hc s hs'; omega
    ·intro k; unfold keeps at k; rw [hk] at k; cases k
  ·rw [if_neg hk]
   obtain ⟨p1, p2, p3⟩ := push_ok h hc he hcd
   refine combGo_ok a b w e cuts _ d hs.2 p1 p2 (by omega) hab' (fun x hx => ?_) hff
   rw [p3]
   by_cases hxc : x < c
   ·rw [hm x hxc]
    constructor
    ·rintro (k | k)
     ·exact k
     ·omega
    ·exact .inl
   ·rw [ka x (by omega) hx]
    constructor
    ·intro _; unfold keeps; simpa using hk
    ·intro _; exact .inr ⟨by omega, hx⟩
theorem skips_ff (w : Int) (hw : w = 0 ∨ w = 1 ∨ w = 2) : skips w false false = true := by rcases hw with rfl | rfl | rfl <;> rfl
theorem comb_ok (a b : List S55) (w : Int) (hw : w = 0 ∨ w = 1 ∨ w = 2) (e : Int) (he : ∀ s, s ∈ a ∨ s ∈ b → e < s.f0 ∧ s.f0 ≤ s.f1) : sep e (combOf a b w) ∧ ∀ x, Mem (combOf a b w) x ↔ keeps w a b x := by
 have hm := endsOf_mem a b
 have hs := endsOf_sorted a b
 unfold combOf
 cases hc : endsOf a b with
 | nil =>
  refine ⟨trivial, fun x => ?_⟩
  have na : ∀ l : List S55, (∀ s ∈ l, s ∈ a ∨ s ∈ b) → l = [] := by
   intro l hl
   cases l with
   | nil => rfl
   | cons s r =>
    exfalso
    have : s.f0 ∈ endsOf a b := by
     rw [hm]
     rcases hl s (by simp) with k | k
     ·exact .inl ⟨s, k, .inl rfl⟩
     ·exact .inr ⟨s, k, .inl rfl⟩
    rw [hc] at this; simp at this
  have ea := na a (fun s k => .inl k)
  have eb := na b (fun s k => .inr k)
  subst ea; subst eb
  constructor
  ·intro h; exact absurd h (mem_nil x)
  ·intro h
   have : skips w false false = false := h
   rw [skips_ff w hw] at this; cases this
 | cons c cuts =>
  rw [hc] at hs hm
  have hc0 : ∀ z, z ∈ c :: cuts → c ≤ z := by
   intro z hz
   rcases List.mem_cons.1 hz with rfl | hz
   ·omega
   ·have := (List.pairwise_cons.1 hs).1 z hz; omega
  have hin : ∀ s, s ∈ a ∨ s ∈ b → s.f0 ∈ c :: cuts ∧ s.f1 ∈ c :: cuts := by
   intro s hs'
   rw [hm, hm]
   rcases hs' with k | k
   ·exact ⟨.inl ⟨s, k, .inl rfl⟩, .inl ⟨s, k, .inr rfl⟩⟩
   ·exact ⟨.inr ⟨s, k, .inl rfl⟩, .inr ⟨s, k, .inr rfl⟩⟩
  have hec : e < c := by
   rcases (hm c).1 (by simp) with ⟨s, k, h | h⟩ | ⟨s, k, h | h⟩
   ·have := he s (.inl k); omega
   ·have := he s (.inl k); omega
   ·have := he s (.inr k); omega
   ·have := he s (.inr k); omega
  refine combGo_ok a b w e cuts [] c hs trivial (by simp) hec (fun s k => ?_) (fun x hx => ?_) (skips_ff w hw)
  ·obtain ⟨k1, k2⟩ := hin s k
   constructor
   ·rcases List.mem_cons.1 k1 with k | k
    ·exact .inl (by omega)
    ·exact .inr k
   ·rcases List.mem_cons.1 k2 with k | k
    ·exact .inl (by omega)
    ·exact .inr k
  ·have na : ∀ l : List S55, (∀ s ∈ l, s ∈ a ∨ s ∈ b) → hasOf l x = false := by
    intro l hl
    cases hh : hasOf l x with
    | false => rfl
    | true =>
     obtain ⟨s, hs', k1, k2⟩ := (hasOf_iff l x).1 hh
     have := hc0 _ (hin s (hl s hs')).1; omega
   constructor
   ·intro h; exact absurd h (mem_nil x)
   ·intro h
    unfold keeps at h
    rw [na a (fun s k => .inl k), na b (fun s k => .inr k), skips_ff w hw] at h
    cases h

def sweep (kp : Bool → Bool → Bool) (a b : List S55) : List Int → List S55
 | c :: d :: r => (if c ≠ d ∧ kp (hasOf a c) (hasOf b c) = true then [⟨c, d⟩] else []) ++ sweep kp a b (d :: r)
 | _ => []
theorem sweep_len (kp : Bool → Bool → Bool) (a b : List S55) : ∀ (l : List Int), (sweep kp a b l).length ≤ l.length
 | [] => by simp [sweep]
 | [c] => by simp [sweep]
 | c :: d :: r => by
  have := sweep_len kp a b (d :: r)
  rw [sweep, List.length_append, List.length_cons]
  split <;> simp at this ⊢ <;> omega
theorem sweep_ok (kp : Bool → Bool → Bool) (a b : List S55) (hff : kp false false = false) : ∀ (cuts : List Int) (c : Int), (c :: cuts).Pairwise (· ≤ ·) →
  (∀ s, s ∈ a ∨ s ∈ b → (s.f0 ≤ c ∨ s.f0 ∈ cuts) ∧ (s.f1 ≤ c ∨ s.f1 ∈ cuts)) →
  (∀ s ∈ sweep kp a b (c :: cuts), c ≤ s.f0 ∧ s.f0 < s.f1 ∧ s.f1 ∈ cuts) ∧ ∀ x, Mem (sweep kp a b (c :: cuts)) x ↔ c ≤ x ∧ kp (hasOf a x) (hasOf b x) = true
 | [], c, _, hab => by
  refine ⟨by simp [sweep], fun x => ⟨fun h => absurd h (mem_nil x), fun ⟨h1, h2⟩ => ?_⟩⟩
  have na : ∀ l : List S55, (∀ s ∈ l, s.f1 ≤ c) → hasOf l x = false := by
   intro l hl
   cases hh : hasOf l x with
   | false => rfl
   | true =>
    obtain ⟨s, hs, k1, k2⟩ := (hasOf_iff l x).1 hh
    have := hl s hs; omega
  rw [na a (fun s hs => by have := (hab s (.inl hs)).2; simpa using this), na b (fun s hs => by have := (hab s (.inr hs)).2; simpa using this), hff] at h2
  cases h2
 | d :: cuts, c, hs, hab => by
  rw [List.pairwise_cons] at hs
  have hcd := hs.1 d (by simp)
  have g : ∀ z ∈ d :: cuts, d ≤ z := by
   intro z hz
   rcases List.mem_cons.1 hz with rfl | hz
   ·omega
   ·exact (List.pairwise_cons.1 hs.2).1 z hz
  have hsame : ∀ l : List S55, (∀ s ∈ l, s ∈ a ∨ s ∈ b) → ∀ x, c ≤ x → x < d → hasOf l x = hasOf l c := by
   intro l hl x h1 h2
   have : ∀ s ∈ l, (s.f0 ≤ x ∧ x < s.f1) ↔ (s.f0 ≤ c ∧ c < s.f1) := by
    intro s hs'
    obtain ⟨k1, k2⟩ := hab s (hl s hs')
    have k1' : s.f0 ≤ c ∨ d ≤ s.f0 := k1.imp id (g _)
    have k2' : s.f1 ≤ c ∨ d ≤ s.f1 := k2.imp id (g _)
    omega
   rw [Bool.eq_iff_iff, hasOf_iff, hasOf_iff]
   constructor
   ·rintro ⟨s, hs', k⟩; exact ⟨s, hs', (this s hs').1 k⟩
   ·rintro ⟨s, hs', k⟩; exact ⟨s, hs', (this s hs').2 k⟩
  have hab' : ∀ s, s ∈ a ∨ s ∈ b → (s.f0 ≤ d ∨ s.f0 ∈ cuts) ∧ (s.f1 ≤ d ∨ s.f1 ∈ cuts) := by
   intro s hs'
   obtain ⟨k1, k2⟩ := hab s hs'
   constructor
   ·rcases k1 with k | k
    ·exact .inl (by omega)
    ·rcases List.mem_cons.1 k with k | k
     ·exact .inl (by omega)
     ·exact .inr k
   ·rcases k2 with k | k
    ·exact .inl (by omega)
    ·rcases List.mem_cons.1 k with k | k
     ·exact .inl (by omega)
     ·exact .inr k
  obtain ⟨i1, i2⟩ := sweep_ok kp a b hff cuts d hs.2 hab'
  rw [sweep]
  constructor
  ·intro s hm
   rcases List.mem_append.1 hm with hm | hm
   ·split at hm
    ·rename_i hc
     rw [List.mem_singleton.1 hm]
     exact ⟨Int.le_refl _, by show c < d; omega, by simp⟩
    ·simp at hm
   ·obtain ⟨k1, k2, k3⟩ := i1 s hm
    exact ⟨by omega, k2, by simp [k3]⟩
  ·intro x
   rw [mem_append, i2]
   constructor
   ·rintro (h | ⟨h1, h2⟩)
    ·split at h
     ·rename_i hc
      rcases mem_cons.1 h with k | k
      ·have k1 : c ≤ x := k.1
       have k2 : x < d := k.2
       refine ⟨k1, ?_⟩
       rw [hsame a (fun s k => .inl k) x k1 k2, hsame b (fun s k => .inr k) x k1 k2]
       exact hc.2
      ·exact absurd k (mem_nil x)
     ·exact absurd h (mem_nil x)
    ·exact ⟨by omega, h2⟩
   ·rintro ⟨h1, h2⟩
    by_cases hx : x < d
    ·left
     rw [hsame a (fun s k => .inl k) x h1 hx, hsame b (fun s k => .inr k) x h1 hx] at h2
     rw [if_pos ⟨by omega, h2⟩]
     exact mem_cons.2 (.inl ⟨h1, hx⟩)
    ·exact .inr ⟨by omega, h2⟩

def joinOf (l : List S55) : List S55 := combOf l [] 0
theorem joinOf_ok (l : List S55) (e : Int) (h : ∀ s ∈ l, e < s.f0 ∧ s.f0 ≤ s.f1) : sep e (joinOf l) ∧ ∀ x, Mem (joinOf l) x ↔ Mem l x := by
 obtain ⟨k1, k2⟩ := comb_ok l [] 0 (.inl rfl) e (fun s k => by
  rcases k with k | k
  ·exact h s k
  ·simp at k)
 refine ⟨k1, fun x => ?_⟩
 have k3 := k2 x
 rw [show joinOf l = combOf l [] 0 from rfl, k3, ← hasOf_iff]
 unfold keeps skips
 simp [hasOf]
theorem sep_in : ∀ {l : List S55} {e : Int}, sep e l → ∀ s ∈ l, e < s.f0 ∧ s.f0 < s.f1
 | [], e, _, s, h => by simp at h
 | x :: r, e, h, s, hs => by
  rcases List.mem_cons.1 hs with rfl | hs
  ·exact ⟨h.1, h.2.1⟩
  ·have := sep_in h.2.2 s hs
   have := h.1; have := h.2.1; omega
theorem sep_before : ∀ {l : List S55} {e : Int}, sep e l → ∀ s ∈ l, ¬ Mem l (s.f0 - 1)
 | [], e, _, s, h => by simp at h
 | x :: r, e, h, s, hs => by
  intro hm
  rcases List.mem_cons.1 hs with rfl | hs
  ·rcases mem_cons.1 hm with k | k
   ·omega
   ·have := sep_mem h.2.2 k; have := h.2.1; omega
  ·have h1 := sep_in h.2.2 s hs
   rcases mem_cons.1 hm with k | k
   ·omega
   ·exact sep_before h.2.2 s hs k
theorem sep_starts : ∀ {l : List S55} {e : Int}, sep e l → (l.map fun s => s.f0).Pairwise (· < ·)
 | [], _, _ => List.Pairwise.nil
 | x :: r, e, h => by
  rw [List.map_cons, List.pairwise_cons]
  refine ⟨fun z hz => ?_, sep_starts h.2.2⟩
  obtain ⟨s, hs, rfl⟩ := List.mem_map.1 hz
  have := sep_in h.2.2 s hs
  have := h.2.1; omega
theorem sub_len : ∀ (a b : List Int), a.Pairwise (· < ·) → (∀ x ∈ a, x ∈ b) → a.length ≤ b.length
 | [], b, _, _ => by simp
 | x :: r, b, h, hs => by
  rw [List.pairwise_cons] at h
  have hx := hs x (by simp)
  have := sub_len r (b.erase x) h.2 (fun z hz => by
   have h1 := h.1 z hz
   exact (List.mem_erase_of_ne (by omega)).2 (hs z (by simp [hz])))
  rw [List.length_erase_of_mem hx] at this
  have := List.length_pos_of_mem hx
  simp; omega
theorem joinOf_len (l : List S55) (e : Int) (h : ∀ s ∈ l, e < s.f0 ∧ s.f0 ≤ s.f1) : (joinOf l).length ≤ l.length := by
 obtain ⟨k1, k2⟩ := joinOf_ok l e h
 have := sub_len ((joinOf l).map fun s => s.f0) (l.map fun s => s.f0) (sep_starts k1) (fun z hz => by
  obtain ⟨s, hs, rfl⟩ := List.mem_map.1 hz
  have hin := sep_in k1 s hs
  obtain ⟨t, ht, t1, t2⟩ := (k2 s.f0).1 ⟨s, hs, Int.le_refl _, hin.2⟩
  refine List.mem_map.2 ⟨t, ht, ?_⟩
  rcases Int.lt_or_le t.f0 s.f0 with k | k
  ·exact absurd ((k2 (s.f0 - 1)).2 ⟨t, ht, by omega, by omega⟩) (sep_before k1 s hs)
  ·show t.f0 = s.f0; omega)
 simpa using this
theorem joinOf_bound (l : List S55) (e m : Int) (h : ∀ s ∈ l, e < s.f0 ∧ s.f0 ≤ s.f1 ∧ s.f1 ≤ m) : ∀ s ∈ joinOf l, e < s.f0 ∧ s.f0 < s.f1 ∧ s.f1 ≤ m := by
 obtain ⟨k1, k2⟩ := joinOf_ok l e (fun s hs => ⟨(h s hs).1, (h s hs).2.1⟩)
 intro s hs
 have hin := sep_in k1 s hs
 obtain ⟨t, ht, t1, t2⟩ := (k2 (s.f1 - 1)).1 ⟨s, hs, by omega, by omega⟩
 have := (h t ht).2.2
 exact ⟨hin.1, hin.2, by omega⟩
def wayOf (w : Int) (p q : Bool) : Bool := !skips w p q
theorem sets_comb (a b : List S55) (w : Int) (hw : w = 0 ∨ w = 1 ∨ w = 2) (ha : ∀ s ∈ a, -1 < s.f0 ∧ s.f0 ≤ s.f1) (hb : ∀ s ∈ b, -1 < s.f0 ∧ s.f0 ≤ s.f1) (E : List Int) (hE : E.Pairwise (· ≤ ·))
  (hin : ∀ x, x ∈ E ↔ ∃ s, (s ∈ joinOf a ∨ s ∈ joinOf b) ∧ (x = s.f0 ∨ x = s.f1)) : joinOf (sweep (wayOf w) (joinOf a) (joinOf b) E) = combOf a b w := by
 obtain ⟨a1, a2⟩ := joinOf_ok a (-1) ha
 obtain ⟨b1, b2⟩ := joinOf_ok b (-1) hb
 obtain ⟨c1, c2⟩ := comb_ok a b w hw (-1) (fun s k => by
  rcases k with k | k
  ·exact ha s k
  ·exact hb s k)
 have hff : wayOf w false false = false := by unfold wayOf; rw [skips_ff w hw]; rfl
 have ea : ∀ x, hasOf (joinOf a) x = hasOf a x := fun x => by rw [Bool.eq_iff_iff, hasOf_iff, hasOf_iff]; exact a2 x
 have eb : ∀ x, hasOf (joinOf b) x = hasOf b x := fun x => by rw [Bool.eq_iff_iff, hasOf_iff, hasOf_iff]; exact b2 x
 have hpos : ∀ x ∈ E, -1 < x := by
  intro x hx
  obtain ⟨s, hs, h⟩ := (hin x).1 hx
  rcases hs with hs | hs
  ·have := sep_in a1 s hs; omega
  ·have := sep_in b1 s hs; omega
 have hsw : (∀ s ∈ sweep (wayOf w) (joinOf a) (joinOf b) E, -1 < s.f0 ∧ s.f0 < s.f1) ∧ ∀ x, Mem (sweep (wayOf w) (joinOf a) (joinOf b) E) x ↔ wayOf w (hasOf (joinOf a) x) (hasOf (joinOf b) x) = true := by
  cases E with
  | nil =>
   refine ⟨by simp [sweep], fun x => ⟨fun h => absurd h (mem_nil x), fun h => ?_⟩⟩
   have na : ∀ l : List S55, (∀ s ∈ l, s ∈ joinOf a ∨ s ∈ joinOf b) → l = [] := by
    intro l hl
    cases l with
    | nil => rfl
    | cons s r => exact absurd ((hin s.f0).2 ⟨s, hl s (by simp), .inl rfl⟩) (by simp)
   rw [na (joinOf a) (fun s k => .inl k), na (joinOf b) (fun s k => .inr k)] at h
   have h' : wayOf w false false = true := h
   rw [hff] at h'; cases h'
  | cons c cuts =>
   have hmem : ∀ s, s ∈ joinOf a ∨ s ∈ joinOf b → s.f0 ∈ c :: cuts ∧ s.f1 ∈ c :: cuts := fun s hs => ⟨(hin _).2 ⟨s, hs, .inl rfl⟩, (hin _).2 ⟨s, hs, .inr rfl⟩⟩
   have hlo : ∀ z ∈ c :: cuts, c ≤ z := by
    intro z hz
    rcases List.mem_cons.1 hz with rfl | hz
    ·omega
    ·exact (List.pairwise_cons.1 hE).1 z hz
   obtain ⟨k1, k2⟩ := sweep_ok (wayOf w) (joinOf a) (joinOf b) hff cuts c hE (fun s hs => by
    obtain ⟨m1, m2⟩ := hmem s hs
    constructor
    ·rcases List.mem_cons.1 m1 with k | k
     ·exact .inl (by omega)
     ·exact .inr k
    ·rcases List.mem_cons.1 m2 with k | k
     ·exact .inl (by omega)
     ·exact .inr k)
   have hc := hpos c (by simp)
   refine ⟨fun s hs => by have := k1 s hs; omega, fun x => ?_⟩
   rw [k2]
   refine ⟨fun h => h.2, fun h => ⟨?_, h⟩⟩
   rcases Int.lt_or_le x c with hx | hx
   ·exfalso
    have na : ∀ l : List S55, (∀ s ∈ l, s ∈ joinOf a ∨ s ∈ joinOf b) → hasOf l x = false := by
     intro l hl
     cases hh : hasOf l x with
     | false => rfl
     | true =>
      obtain ⟨s, hs', q1, q2⟩ := (hasOf_iff l x).1 hh
      have := hlo _ (hmem s (hl s hs')).1; omega
    rw [na (joinOf a) (fun s k => .inl k), na (joinOf b) (fun s k => .inr k), hff] at h
    cases h
   ·exact hx
 obtain ⟨j1, j2⟩ := joinOf_ok (sweep (wayOf w) (joinOf a) (joinOf b) E) (-1) (fun s hs => by have := hsw.1 s hs; omega)
 refine sep_unique j1 c1 (fun x => ?_)
 rw [j2, hsw.2, c2, ea, eb]
 unfold keeps wayOf
 cases skips w (hasOf a x) (hasOf b x) <;> simp
def jstep (st : List S55 × S55) (s : S55) : List S55 × S55 :=
 (if s.f0 ≥ s.f1 ∨ (s.f0 = st.2.f0 ∧ s.f1 = st.2.f1) then st.1 else match st.1.getLast? with
  | none => st.1 ++ [s]
  | some t => if s.f0 ≤ t.f1 then st.1.dropLast ++ [⟨t.f0, if t.f1 < s.f1 then s.f1 else t.f1⟩] else st.1 ++ [s], s)
theorem jstep_len (st : List S55 × S55) (s : S55) : (jstep st s).1.length ≤ st.1.length + 1 := by
 unfold jstep
 simp only
 split
 ·omega
 ·split
  ·simp
  ·split
   ·simp
   ·simp
structure JIn (P : List S55) (st : List S55 × S55) : Prop where
 s : sep (-1) st.1
 m : ∀ x, Mem st.1 x ↔ Mem P x
 l : (P = [] ∧ st.2 = ⟨0, 0⟩) ∨ st.2 ∈ P
theorem JIn.step {P : List S55} {st : List S55 × S55} {s : S55} (h : JIn P st) (hs : ∀ t ∈ P, t.f0 ≤ s.f0) (h0 : 0 ≤ s.f0) (hv : s.f0 ≤ s.f1) : JIn (P ++ [s]) (jstep st s) := by
 have hmem : ∀ x, Mem (P ++ [s]) x ↔ Mem P x ∨ (s.f0 ≤ x ∧ x < s.f1) := by
  intro x
  rw [mem_append, mem_cons]
  have := mem_nil x
  constructor
  ·rintro (k | k | k)
   ·exact .inl k
   ·exact .inr k
   ·exact absurd k this
  ·rintro (k | k)
   ·exact .inl k
   ·exact .inr (.inl k)
 have hl : (P ++ [s] = [] ∧ (jstep st s).2 = ⟨0, 0⟩) ∨ (jstep st s).2 ∈ P ++ [s] := .inr (by show s ∈ P ++ [s]; simp)
 have hlo : ∀ t ∈ st.1, t.f0 ≤ s.f0 := by
  intro t ht
  have hin := sep_in h.s t ht
  obtain ⟨u, hu, u1, u2⟩ := (h.m t.f0).1 ⟨t, ht, Int.le_refl _, hin.2⟩
  have hus := hs u hu
  rcases Int.lt_or_le u.f0 t.f0 with k | k
  ·exact absurd ((h.m (t.f0 - 1)).2 ⟨u, hu, by omega, by omega⟩) (sep_before h.s t ht)
  ·omega
 by_cases h1 : s.f0 ≥ s.f1 ∨ (s.f0 = st.2.f0 ∧ s.f1 = st.2.f1)
 ·have e : (jstep st s).1 = st.1 := by unfold jstep; simp only; rw [if_pos h1]
  refine ⟨by rw [e]; exact h.s, fun x => ?_, hl⟩
  rw [e, hmem, h.m]
  constructor
  ·exact .inl
  ·rintro (k | k)
   ·exact k
   ·rcases h1 with h1 | h1
    ·omega
    ·have h1 : s = st.2 := by obtain ⟨a1, a2⟩ := h1; generalize st.2 = u at a1 a2 ⊢; cases s; cases u; simp_all
     rcases h.l with ⟨_, h2⟩ | h2
     ·rw [h1, h2] at k; have k1 := k.1; have k2 := k.2; simp at k1 k2; omega
     ·exact ⟨s, by rw [h1]; exact h2, k⟩
 ·have h2 : s.f0 < s.f1 := by omega
  by_cases h0' : st.1 = []
  ·have e : (jstep st s).1 = [s] := by unfold jstep; simp only; rw [if_neg h1, h0']; rfl
   refine ⟨by rw [e]; exact ⟨by omega, h2, trivial⟩, fun x => ?_, hl⟩
   rw [e, hmem, ← h.m, h0', mem_cons]
   exact Or.comm
  ·obtain ⟨i, t, hi⟩ : ∃ i t, st.1 = i ++ [t] := ⟨st.1.dropLast, st.1.getLast h0', (List.dropLast_concat_getLast _).symm⟩
   have hsi := h.s
   rw [hi] at hsi
   obtain ⟨q1, q2, q3, q4⟩ := sep_init hsi
   have ht := hlo t (by rw [hi]; simp)
   have hmi : ∀ x, Mem st.1 x ↔ Mem i x ∨ (t.f0 ≤ x ∧ x < t.f1) := by
    intro x
    rw [hi, mem_append, mem_cons]
    have := mem_nil x
    constructor
    ·rintro (k | k | k)
     ·exact .inl k
     ·exact .inr k
     ·exact absurd k this
    ·rintro (k | k)
     ·exact .inl k
     ·exact .inr (.inl k)
   by_cases h3 : s.f0 ≤ t.f1
   ·have e : (jstep st s).1 = i ++ [⟨t.f0, if t.f1 < s.f1 then s.f1 else t.f1⟩] := by unfold jstep; simp only; rw [if_neg h1, hi]; simp [h3]
    refine ⟨?_, fun x => ?_, hl⟩
    ·rw [e]; exact sep_snoc q1 q2 q3 (by show t.f0 < (if t.f1 < s.f1 then s.f1 else t.f1); split <;> omega)
    ·rw [e, hmem, ← h.m, hmi, mem_append, mem_cons]
     have := mem_nil x
     constructor
     ·rintro (k | k | k)
      ·exact .inl (.inl k)
      ·have k1 : t.f0 ≤ x := k.1
       have k2 : x < (if t.f1 < s.f1 then s.f1 else t.f1) := k.2
       by_cases k3 : x < t.f1
       ·exact .inl (.inr ⟨k1, k3⟩)
       ·right
        split at k2 <;> omega
      ·exact absurd k this
     ·rintro ((k | k) | k)
      ·exact .inl k
      ·exact .inr (.inl ⟨k.1, by show x < (if t.f1 < s.f1 then s.f1 else t.f1); split <;> omega⟩)
      ·exact .inr (.inl ⟨by show t.f0 ≤ x; omega, by show x < (if t.f1 < s.f1 then s.f1 else t.f1); split <;> omega⟩)
   ·have e : (jstep st s).1 = i ++ [t] ++ [s] := by unfold jstep; simp only; rw [if_neg h1, hi]; simp [h3]
    refine ⟨?_, fun x => ?_, hl⟩
    ·rw [e]
     refine sep_snoc hsi (fun u hu => ?_) (by omega) h2
     rcases List.mem_append.1 hu with hu | hu
     ·have := q2 u hu; omega
     ·rw [List.mem_singleton.1 hu]; omega
    ·rw [e, hmem, ← h.m, hi, mem_append (a := i ++ [t]), mem_cons]
     have := mem_nil x
     constructor
     ·rintro (k | k | k)
      ·exact .inl k
      ·exact .inr k
      ·exact absurd k this
     ·rintro (k | k)
      ·exact .inl k
      ·exact .inr (.inl k)
theorem JIn.all : ∀ (L P : List S55) (st : List S55 × S55), JIn P st → L.Pairwise (fun a b => a.f0 ≤ b.f0) → (∀ t ∈ P, ∀ s ∈ L, t.f0 ≤ s.f0) → (∀ s ∈ L, 0 ≤ s.f0 ∧ s.f0 ≤ s.f1) → JIn (P ++ L) (L.foldl jstep st)
 | [], P, st, h, _, _, _ => by simpa using h
 | s :: L, P, st, h, hp, hpl, hv => by
  rw [List.pairwise_cons] at hp
  have := JIn.all L (P ++ [s]) (jstep st s) (h.step (fun t ht => hpl t ht s (by simp)) (hv s (by simp)).1 (hv s (by simp)).2) hp.2 (fun t ht u hu => by
   rcases List.mem_append.1 ht with ht | ht
   ·exact hpl t ht u (by simp [hu])
   ·rw [List.mem_singleton.1 ht]; exact hp.1 u hu) (fun u hu => hv u (by simp [hu]))
  simpa using this
theorem jfold_join (l L : List S55) (hp : L.Perm l) (hs : L.Pairwise (fun a b => a.f0 ≤ b.f0)) (hv : ∀ s ∈ l, 0 ≤ s.f0 ∧ s.f0 ≤ s.f1) : (L.foldl jstep ([], ⟨0, 0⟩)).1 = joinOf l := by
 have hv' : ∀ s ∈ L, 0 ≤ s.f0 ∧ s.f0 ≤ s.f1 := fun s h => hv s (hp.mem_iff.1 h)
 have h := JIn.all L [] ([], ⟨0, 0⟩) ⟨trivial, fun x => Iff.rfl, .inl ⟨rfl, rfl⟩⟩ hs (by simp) hv'
 obtain ⟨j1, j2⟩ := joinOf_ok l (-1) (fun s hs => by have := hv s hs; omega)
 refine sep_unique h.s j1 (fun x => ?_)
 rw [h.m, j2, List.nil_append]
 constructor
 ·rintro ⟨s, hs, k⟩; exact ⟨s, hp.mem_iff.1 hs, k⟩
 ·rintro ⟨s, hs, k⟩; exact ⟨s, hp.mem_iff.2 hs, k⟩
end Go.Proofs.Ytalpegglbfobiaa.G

namespace Go.Proofs.Ytalpegglbfobiaa.G
open Go.RowKit Go.Proofs.YtalpegglbfobiaaW.PrintWords Go.Proofs.YtalpegglbfobiaaW.PrintLast Go.Proofs.YtalpegglbfobiaaW.PrintMore
attribute [local go_sem] max2_int min2_int max_two min_two max_three min_three max_four min_four   -- for this text's walks alone
set_option linter.unusedVariables false
set_option linter.unusedSimpArgs false

theorem eqA55 (d : Nat) (w : World) (x0 y0 : Int) (x1 y1 : Int) :
  (Op.equalIn (d + 2) 55 (.agg #[.int .i64 x0, .int .i64 x1]) (.agg #[.int .i64 y0, .int .i64 y1])).run Try.prog w = .ok (x0 == y0 && (x1 == y1)) w := by
 refine eqA_of Try.underlying55 (by kernel_rfl) ?_
 refine eqf_cons (by rfl) (by go_simp; rfl) (by go_simp; rfl) (by go_simp) ?_
 exact eqf_last (by rfl) (by go_simp; rfl) (by go_simp; rfl) (by go_simp)
end Go.Proofs.Ytalpegglbfobiaa.G

namespace Go.Proofs.Ytalpegglbfobiaa.G
open Go.RowKit Go.Proofs.YtalpegglbfobiaaW.PrintWords Go.Proofs.YtalpegglbfobiaaW.PrintLast Go.Proofs.YtalpegglbfobiaaW.PrintMore
attribute [local go_sem] max2_int min2_int max_two min_two max_three min_three max_four min_four   -- for this text's walks alone
set_option linter.unusedVariables false
set_option linter.unusedSimpArgs false
structure JW (n₁ gB : Nat) (v : Value) (st : List S55 × S55) (w2 wr : World) : Prop where
 o : Kd.R k55 55 wr n₁ (fun k => k ≠ gB) v st.1
 b : wr.heap[gB]? = some (.cells #[.int .i64 st.2.f0, .int .i64 st.2.f1] 55 (0, 0))
 below : Below n₁ w2 wr
theorem JW.last {n₁ gB : Nat} {v : Value} {st : List S55 × S55} {w2 wr : World} (h : JW n₁ gB v st w2 wr) (hg : n₁ ≤ gB) (hn : n₁ ≤ wr.heap.size) (x : S55) (hb : gB < wr.heap.size) (o : Obj) : JW n₁ gB v (st.1, x) w2 (((wr.alloc o).setCell ⟨gB, 0, none⟩ (.int .i64 x.f0)).setCell ⟨gB, 1, none⟩ (.int .i64 x.f1)) := by
 refine ⟨?_, ?_, ((h.below.alloc hn o).setCell (p := ⟨gB, 0, none⟩) hg _).setCell (p := ⟨gB, 1, none⟩) hg _⟩
 ·refine Kd.R_move (Kd.R_alloc h.o o) (fun k hk => ?_)
  rw [Below.heap_setCell _ _ _ k hk, Below.heap_setCell _ _ _ k hk]
 ·have h1 : (wr.alloc o).heap[gB]? = some (.cells #[.int .i64 st.2.f0, .int .i64 st.2.f1] 55 (0, 0)) := (Below.heap_alloc wr o _ hb).trans h.b
  exact blk_set (blk_set h1 0 _) 1 _
theorem JW.put {n₁ gB : Nat} {v : Value} {st : List S55 × S55} {w2 W : World} (h : JW n₁ gB v st w2 W) (hg : n₁ ≤ gB) (x : S55) : JW n₁ gB v (st.1, x) w2 ((W.setCell ⟨gB, 0, none⟩ (.int .i64 x.f0)).setCell ⟨gB, 1, none⟩ (.int .i64 x.f1)) := by
 refine ⟨?_, blk_set (blk_set h.b 0 _) 1 _, (h.below.setCell (p := ⟨gB, 0, none⟩) hg _).setCell (p := ⟨gB, 1, none⟩) hg _⟩
 refine Kd.R_move h.o (fun k hk => ?_)
 rw [Below.heap_setCell _ _ _ k hk, Below.heap_setCell _ _ _ k hk]
theorem app_blocks {W w3 : World} {v : Value} {g6 gB : Nat} {o6 oB : Obj} (hv : ∀ k, v.ownBlock = some k → k ≠ gB ∧ k < g6) (hg : W.grownBy w3 v.ownBlock) (h6 : W.heap[g6]? = some o6) (hB : W.heap[gB]? = some oB) : w3.heap[g6]? = some o6 ∧ w3.heap[gB]? = some oB :=
 ⟨(hg.block g6 (blk_lt h6) (fun e => by have := (hv g6 e.symm).2; omega)).trans h6, (hg.block gB (blk_lt hB) (fun e => (hv gB e.symm).1 rfl)).trans hB⟩
theorem jfold_len : ∀ (L : List S55) (st : List S55 × S55), (L.foldl jstep st).1.length ≤ st.1.length + L.length
 | [], st => by simp
 | s :: L, st => by
  have h1 := jfold_len L (jstep st s)
  have h2 := jstep_len st s
  simp only [List.foldl_cons, List.length_cons]
  omega
theorem jstep_ext (so : List S55) (sl x t : S55) (m : Nat) (hm : so.length = m + 1) (ht : rd_T55 so (m : Int) = t) (h1 : x.f0 < x.f1) (h2 : ¬ (x.f0 = sl.f0 ∧ x.f1 = sl.f1)) (h3 : x.f0 ≤ t.f1) : jstep (so, sl) x = (so.set m ⟨t.f0, mx t.f1 x.f1⟩, x) := by
 obtain ⟨i, s, rfl⟩ : ∃ i s, so = i ++ [s] := ⟨so.dropLast, so.getLast (by intro e; subst e; simp at hm), (List.dropLast_concat_getLast _).symm⟩
 obtain rfl : i.length = m := by simp at hm; omega
 have es : s = t := by rw [← ht]; simp [rd_T55]
 subst es
 unfold jstep
 rw [if_neg (by rintro (h | h); omega; exact h2 h)]
 simp only [List.getLast?_concat, List.dropLast_concat]
 rw [if_pos h3]
 have : mx s.f1 x.f1 = if s.f1 < x.f1 then x.f1 else s.f1 := rfl
 rw [this]
 simp
theorem jstep_app (so : List S55) (sl x t : S55) (m : Nat) (hm : so.length = m + 1) (ht : rd_T55 so (m : Int) = t) (h1 : x.f0 < x.f1) (h2 : ¬ (x.f0 = sl.f0 ∧ x.f1 = sl.f1)) (h3 : t.f1 < x.f0) : jstep (so, sl) x = (so ++ [x], x) := by
 obtain ⟨i, s, rfl⟩ : ∃ i s, so = i ++ [s] := ⟨so.dropLast, so.getLast (by intro e; subst e; simp at hm), (List.dropLast_concat_getLast _).symm⟩
 obtain rfl : i.length = m := by simp at hm; omega
 have es : s = t := by rw [← ht]; simp [rd_T55]
 subst es
 unfold jstep
 rw [if_neg (by rintro (h | h); omega; exact h2 h)]
 simp only [List.getLast?_concat]
 rw [if_neg (by omega)]
set_option maxRecDepth 100000 in
set_option maxHeartbeats 8000000 in
theorem joined_main (A0 : Option Addr) (c0 : Nat) (l : List S55) (w : World) (hr : Kd.C k55 w A0 l.length l) (hc : l.length ≤ c0) (hl : l.length ≤ 1000000) (hv : ∀ s ∈ l, 0 ≤ s.f0 ∧ s.f0 ≤ s.f1 ∧ s.f1 ≤ 17179869184) :
  Calls Try.prog 75 #[.slice A0 l.length c0] w fun e w' => ∃ v : Value, e = .returned v ∧ Kd.R k55 55 w' w.heap.size (fun _ => True) v (joinOf l) ∧ Below w.heap.size w w' := by
 have HR := Aside0.mk hr
 have HC := Aside0.mk hc
 have HL := Aside0.mk hl
 have HV := Aside0.mk hv
 have HV1 := Aside0.mk (show ∀ s ∈ l, 0 ≤ s.f0 ∧ s.f0 ≤ 17179869184 from fun s hs => by have := hv s hs; omega)
 clear hr hc hl hv
 go_enter Try.func75, Try.ntmps75
 go_wp2_with (first | (go_at_call 80; refine (cloneSpans A0 c0 l _ HR.out HC.out HL.out).mono ?_; rintro e w1 ⟨v1, rfl, hO, hB⟩; have HO := Aside0.mk hO; have HB := Aside0.mk hB; clear hO hB) | (go_at_call 81; refine (sortOwned w.heap.size _ l _ HV1.out HL.out HO.out).mono ?_; rintro e w2 ⟨rfl, L, A, c, rfl, hlc, hp, hs, hC, hB2⟩; have HLC := Aside0.mk hlc; have HP := Aside0.mk hp; have HS := Aside0.mk hs; have HCs := Aside0.mk hC; have HB2 := Aside0.mk (HB.out.trans hB2); clear hlc hp hs hC hB2))
 have HJ := Aside0.mk (show JW w2.heap.size w2.heap.size (.slice none 0 0) ((L.take 0).foldl jstep ([], ⟨0, 0⟩)) w2 (w2.alloc (.cells #[.int .i64 0, .int .i64 0] 55)) from ⟨Kd.R_nil _ _ _ _ _, World.alloc_heap_new w2 _, (Below.refl _ _).alloc (Nat.le_refl _) _⟩)
 go_loopw [3, 14] (fun v i wr => ∃ kk : Nat, i = .int .i64 kk ∧ Aside0 (kk ≤ L.length) ∧ Aside0 (JW w2.heap.size w2.heap.size v ((L.take kk).foldl jstep ([], ⟨0, 0⟩)) w2 wr))
  (fun _ i _ => L.length - (intOf i).toNat)
 case atStart => exact ⟨0, rfl, ⟨Nat.zero_le _⟩, HJ⟩
 case round =>
  obtain ⟨kk, rfl, HK, HI⟩ := hrel
  by_cases hk : kk < L.length
  ·have hLL : L.length ≤ 1000000 := by rw [HP.out.length_eq]; exact HL.out
   have hk1 : (kk : Int) < (L.length : Int) := by omega
   have hd0 : decide (kk < L.length) = true := by simpa using hk
   obtain ⟨ad, rfl, hz0, hz1⟩ := at_T55 (Kd.C_below HCs.out HI.out.below) (kk : Int) (by omega) hk1
   simp only [Int.toNat_natCast] at hz0 hz1
   have hbk : ∀ o, (wr.alloc o).heap[w2.heap.size]? = some (.cells #[.int .i64 ((L.take kk).foldl jstep ([], ⟨0, 0⟩)).2.f0, .int .i64 ((L.take kk).foldl jstep ([], ⟨0, 0⟩)).2.f1] 55 (0, 0)) := fun o => (Below.heap_alloc wr o _ (blk_lt HI.out.b)).trans HI.out.b
   have hq0 : ∀ o, (wr.alloc o).cell? ⟨w2.heap.size, 0, none⟩ = some (.int .i64 ((L.take kk).foldl jstep ([], ⟨0, 0⟩)).2.f0) := fun o => blk_cell (hbk o) 0
   have hq1 : ∀ o, (wr.alloc o).cell? ⟨w2.heap.size, 1, none⟩ = some (.int .i64 ((L.take kk).foldl jstep ([], ⟨0, 0⟩)).2.f1) := fun o => blk_cell (hbk o) 1
   have hf0 : ∀ o, (wr.alloc o).frozen? ⟨w2.heap.size, 0, none⟩ = false := fun o => by simp [World.frozen?, hbk o]
   have hf1 : ∀ o, (wr.alloc o).frozen? ⟨w2.heap.size, 1, none⟩ = false := fun o => by simp [World.frozen?, hbk o]
   clear hbk
   have hsn := Aside0.mk (show (L.take (kk + 1)).foldl jstep ([], ⟨0, 0⟩) = jstep ((L.take kk).foldl jstep ([], ⟨0, 0⟩)) (rd_T55 L kk) by rw [List.take_succ_eq_append_getElem hk, List.foldl_append]; simp [rd_T55, List.getD_eq_getElem?_getD, List.getElem?_eq_getElem hk])
   have HLn := Aside0.mk (show ((L.take kk).foldl jstep ([], ⟨0, 0⟩)).1.length ≤ 1000000 by have := jfold_len (L.take kk) ([], ⟨0, 0⟩); simp at this; omega)
   obtain ⟨A7, c7, e7⟩ := Kd.R_slice HI.out.o
   subst e7
   generalize (L.take kk).foldl jstep ([], ⟨0, 0⟩) = st at *
   generalize rd_T55 L kk = x at *
   by_cases ha : x.f1 ≤ x.f0
   ·have ha1 : decide (x.f1 ≤ x.f0) = true := by simpa using ha
    go_wp2
    go_roundw
    case rel =>
     refine ⟨kk + 1, by go_num, ⟨by omega⟩, ⟨?_⟩⟩
     rw [hsn.out, show jstep st x = (st.1, x) from by unfold jstep; rw [if_pos (Or.inl ha)]]
     exact HI.out.last (Nat.le_refl _) HI.out.below.size x (blk_lt HI.out.b) _
    case measure => simp [intOf]; omega
   ·have ha1 : decide (x.f1 ≤ x.f0) = false := by simpa using ha
    by_cases hb : x.f0 = st.2.f0 ∧ x.f1 = st.2.f1
    ·go_wp2
     go_roundw
     case rel =>
      refine ⟨kk + 1, by go_num, ⟨by omega⟩, ⟨?_⟩⟩
      rw [hsn.out, show jstep st x = (st.1, st.2) from by
       have e : x = st.2 := by obtain ⟨a1, a2⟩ := hb; generalize st.2 = u at a1 a2 ⊢; cases x; cases u; simp_all
       unfold jstep; rw [if_pos (Or.inr hb), e]]
      exact HI.out.last (Nat.le_refl _) HI.out.below.size st.2 (blk_lt HI.out.b) _
     case measure => simp [intOf]; omega
    ·have hbb : (x.f0 == st.2.f0 && (x.f1 == st.2.f1)) = false := by
      rcases Classical.em (x.f0 = st.2.f0) with e | e
      ·have : ¬ x.f1 = st.2.f1 := fun e2 => hb ⟨e, e2⟩
       simp [this]
      ·simp [e]
     have hEq : ∀ (d : Nat) (W : World), (Op.equalIn (d + 2) 55 (.agg #[.int .i64 x.f0, .int .i64 x.f1]) (.agg #[.int .i64 st.2.f0, .int .i64 st.2.f1])).run Try.prog W = .ok false W := fun d W => by rw [eqA55, hbb]
     have HJN := Aside0.mk hb
     clear hb hbb
     by_cases h0 : st.1.length = 0
     ·obtain ⟨so, sl⟩ := st
      have e0 : so = [] := List.length_eq_zero_iff.1 h0
      subst e0
      clear h0
      have HX0 := Aside0.mk (show Kd.R k55 55 (wr.alloc (.cells #[.int .i64 x.f0, .int .i64 x.f1] 55)) w2.heap.size (fun k => k ≠ w2.heap.size) (.slice A7 0 c7) [] from Kd.R_alloc HI.out.o _)
      have hgt := Aside0.mk (blk_lt HI.out.b)
      have HVB := Aside0.mk (show ∀ k, (Value.slice A7 0 c7).ownBlock = some k → k ≠ w2.heap.size ∧ k < wr.heap.size from fun k hk => ⟨HI.out.o.1 k hk, Kd.R_lt HI.out.o k hk⟩)
      have H6 := Aside0.mk (World.alloc_heap_new wr (.cells #[.int .i64 x.f0, .int .i64 x.f1] 55))
      have HB0 := Aside0.mk ((Below.heap_alloc wr (.cells #[.int .i64 x.f0, .int .i64 x.f1] 55) _ (blk_lt HI.out.b)).trans HI.out.b)
      go_wp2
      go_quiet (fail)
      rename_i nq
      have HX := Aside0.mk (Kd.R_drewN HX0.out nq)
      go_wp2_with (at_builtin; (refine Kd.R_append k55 (w0 := (wr.alloc (.cells #[.int .i64 x.f0, .int .i64 x.f1] 55)).drewN nq) w2.heap.size rfl (.tmp 20) (.tmp 22) 29 55 (.agg #[.int .i64 0, .int .i64 0]) 16 rfl Try.underlying29 info55 (by decide) (by decide) (by decide) (.slice A7 0 c7) [] x [.int .i64 x.f0, .int .i64 x.f1] (fun k => k ≠ w2.heap.size) (fun _ => False) rfl ?ax (k55_mkM _ _ _ _) (fun _ h => h.elim) ?af HX.out (Below.refl _ _) ?asz (by simp) ?_; (case ax => first | rfl | (rw [World.size_alloc]; rfl) | (simp; done) | (simp; rfl)); (case af => exact fun k hk => by have h1 := hgt.out; have h2 : wr.heap.size + 1 ≤ k := (by simpa using hk); omega); (case asz => exact (by have h1 := hgt.out; have h2 : ((wr.alloc (.cells #[.int .i64 x.f0, .int .i64 x.f1] 55)).drewN nq).heap.size = wr.heap.size + 1 := (by simp); omega)); intro v' w3 hr2 hb2 hg2 hat2; have HI2 := Aside0.mk hr2; have HB3 := Aside0.mk hb2; have HG3 := Aside0.mk hg2; have HA3 := Aside0.mk hat2; clear hr2 hb2 hg2 hat2; obtain ⟨hb6, hbB⟩ := app_blocks HVB.out HG3.out (blk_drewN H6.out nq) (blk_drewN HB0.out nq); have hy0 := blk_cell hb6 0; have hy1 := blk_cell hb6 1; have hq0' := blk_cell hbB 0; have hq1' := blk_cell hbB 1; have hf0' : w3.frozen? ⟨w2.heap.size, 0, none⟩ = false := (by simp [World.frozen?, hbB]); have hf1' : w3.frozen? ⟨w2.heap.size, 1, none⟩ = false := (by simp [World.frozen?, hbB]); have Hb6 := Aside0.mk hb6; have HbB := Aside0.mk hbB; clear hb6 hbB))
      go_roundw
      case rel =>
       refine ⟨kk + 1, by go_num, ⟨by omega⟩, ⟨?_⟩⟩
       rw [hsn.out, show jstep (([] : List S55), sl) x = ([x], x) from by
        unfold jstep; rw [if_neg (by rintro (h | h); omega; exact HJN.out h)]; rfl]
       exact JW.put (st := ([x], sl)) ⟨by have := HI2.out; simpa using this, HbB.out, (pw_below_drewN (HI.out.below.alloc HI.out.below.size _) nq).trans HB3.out⟩ (Nat.le_refl _) x
      case measure => simp [intOf]; omega
     ·obtain ⟨so, sl⟩ := st
      obtain ⟨m, hm⟩ : ∃ m, so.length = m + 1 := ⟨so.length - 1, by have : so.length ≠ 0 := h0; omega⟩
      clear h0
      have HO := Aside0.mk (show Kd.R k55 55 wr w2.heap.size (fun k => k ≠ w2.heap.size) (.slice A7 so.length c7) so from HI.out.o)
      obtain ⟨g7, e7a⟩ : ∃ g7, A7 = some ⟨g7, 0, none⟩ := by
       obtain ⟨inner, hown⟩ := Kd.R_own HO.out
       rcases hown.2 with ⟨e0, e1⟩ | ⟨g, cap, cur, e0, _⟩
       ·omega
       ·injection e0 with e1 _ _; exact ⟨g, e1⟩
      subst e7a
      obtain ⟨ad7, e7a, hy0, hy1⟩ := at_T55 (Kd.R_reads' HO.out).2.2 (m : Int) (by omega) (by omega)
      injection e7a with e7a
      subst e7a
      simp only [add_plain, Int.toNat_natCast] at hy0 hy1
      replace hy0 : ∀ o, (wr.alloc o).cell? ⟨g7, m * 2, none⟩ = some (.int .i64 (rd_T55 so (m : Int)).f0) := fun o => pw_cell_below ((Below.refl _ _).alloc (Nat.le_refl _) o) hy0
      replace hy1 : ∀ o, (wr.alloc o).cell? ⟨g7, m * 2 + 1, none⟩ = some (.int .i64 (rd_T55 so (m : Int)).f1) := fun o => pw_cell_below ((Below.refl _ _).alloc (Nat.le_refl _) o) hy1
      generalize ht : rd_T55 so (m : Int) = t at *
      rw [hm]
      have hw1 : IntKind.i64.wrap (m : Int) = (m : Int) := by rw [i64_w]; unfold wrap64; have := HLn.out; simp only at this; omega
      have hm0 : 0 ≤ (m : Int) := by omega
      have hmt : ((m : Int)).toNat = m := by omega
      have HX0 := Aside0.mk (show Kd.R k55 55 (wr.alloc (.cells #[.int .i64 x.f0, .int .i64 x.f1] 55)) w2.heap.size (fun k => k ≠ w2.heap.size) (.slice (some ⟨g7, 0, none⟩) (m + 1) c7) so from by have := Kd.R_alloc HI.out.o (.cells #[.int .i64 x.f0, .int .i64 x.f1] 55); rw [hm] at this; exact this)
      have HM := Aside0.mk hm
      have HT := Aside0.mk ht
      clear hm ht
      have HVB := Aside0.mk (show ∀ k, (Value.slice (some ⟨g7, 0, none⟩) so.length c7).ownBlock = some k → k ≠ w2.heap.size ∧ k < wr.heap.size from fun k hk => ⟨HI.out.o.1 k hk, Kd.R_lt HI.out.o k hk⟩)
      have H6 := Aside0.mk (World.alloc_heap_new wr (.cells #[.int .i64 x.f0, .int .i64 x.f1] 55))
      have HB0 := Aside0.mk ((Below.heap_alloc wr (.cells #[.int .i64 x.f0, .int .i64 x.f1] 55) _ (blk_lt HI.out.b)).trans HI.out.b)
      have HBl := Aside0.mk (HI.out.below.alloc HI.out.below.size (.cells #[.int .i64 x.f0, .int .i64 x.f1] 55))
      by_cases hle : x.f0 ≤ t.f1
      ·have hle1 : decide (x.f0 ≤ t.f1) = true := by simpa using hle
       go_wp2
       go_quiet (fail)
       rename_i nq
       go_wp2
       have HX := Aside0.mk (Kd.R_drewN HX0.out nq)
       have H6X := Aside0.mk (blk_drewN H6.out nq)
       have HBX := Aside0.mk (blk_drewN HB0.out nq)
       have HBlX := Aside0.mk (pw_below_drewN HBl.out nq)
       generalize hwX : (wr.alloc (.cells #[.int .i64 x.f0, .int .i64 x.f1] 55)).drewN nq = wX at *
       have hy0X : wX.cell? ⟨g7, m * 2, none⟩ = some (.int .i64 t.f0) := by rw [← hwX]; exact hy0 _
       have hy1X : wX.cell? ⟨g7, m * 2 + 1, none⟩ = some (.int .i64 t.f1) := by rw [← hwX]; exact hy1 _
       have hx0X := blk_cell H6X.out 0
       have hx1X := blk_cell H6X.out 1
       simp only [List.getElem?_toArray, List.getElem?_cons_zero, List.getElem?_cons_succ] at hx0X hx1X
       have hmm : ((m : Int) < (m : Int) + 1) = True := eq_true (by omega)
       clear hwX
       go_still_tail 14, (by kernel_rfl)
       change wpList _ _ _ _ _ wX.drew
       refine Kd.R_store k55 w2.heap.size rfl rfl 3 (.tmp 62) (.tmp 60) rfl 55 (m : Int) 1 so ⟨t.f0, mx t.f1 x.f1⟩ _ [.int .i64 (mx t.f1 x.f1)] [.int .i64 t.f0, .int .i64 t.f1] (fun k => k ≠ w2.heap.size) (fun _ => False) rfl (by simp [kspan_sz]) (show _ = Value.int .i64 (mx t.f1 x.f1) from ?hval) rfl (by kernel_rfl) (by simp [Value.oneCell']) (Kd.R_drew HX.out) (by omega) (by omega) rfl (fun j u hu => ?hcel) (by simp [kspan_sz]) (k55_mkM _ _ _ _) (fun _ h => h.elim) (below_drew HBlX.out) ?_
       case hval => first | rfl | (go_simp; rfl)
       case hcel =>
        have e0 : wX.drew.cell? ⟨g7, ((m : Int)).toNat * k55.sz + j, none⟩ = wX.cell? ⟨g7, m * 2 + j, none⟩ := by rw [hmt]; rfl
        rw [e0]
        match j, hu with
        | 0, hu => rw [← hu]; exact hy0X
        | 1, hu => rw [← hu]; exact hy1X
       intro w3 hr2 hb2 hg2
       have HI2 := Aside0.mk hr2
       have HB3 := Aside0.mk hb2
       have hb6 : w3.heap[wr.heap.size]? = some (.cells #[.int .i64 x.f0, .int .i64 x.f1] 55 (0, 0)) := (hg2.block _ (blk_lt H6X.out) (fun e => by injection e with e; have := HVB.out g7 rfl; omega)).trans H6X.out
       have hbB : w3.heap[w2.heap.size]? = some (.cells #[.int .i64 sl.f0, .int .i64 sl.f1] 55 (0, 0)) := (hg2.block _ (blk_lt HBX.out) (fun e => by injection e with e; have := HVB.out g7 rfl; omega)).trans HBX.out
       clear hr2 hb2 hg2 hq0 hq1 hf0 hf1 hy0 hy1 hy0X hy1X hx0X hx1X
       have hx0Y := blk_cell hb6 0
       have hx1Y := blk_cell hb6 1
       have hq0Y := blk_cell hbB 0
       have hq1Y := blk_cell hbB 1
       have hf0Y : w3.frozen? ⟨w2.heap.size, 0, none⟩ = false := by simp [World.frozen?, hbB]
       have hf1Y : w3.frozen? ⟨w2.heap.size, 1, none⟩ = false := by simp [World.frozen?, hbB]
       simp only [List.getElem?_toArray, List.getElem?_cons_zero, List.getElem?_cons_succ] at hx0Y hx1Y hq0Y hq1Y
       have Hb6 := Aside0.mk hb6
       have HbB := Aside0.mk hbB
       clear hb6 hbB
       go_wp2
       go_roundw
       case rel =>
        refine ⟨kk + 1, by go_num, ⟨by omega⟩, ⟨?_⟩⟩
        rw [hsn.out, show jstep (so, sl) x = (so.set m ⟨t.f0, mx t.f1 x.f1⟩, x) from by
         exact jstep_ext so sl x t m HM.out HT.out (by omega) HJN.out hle]
        have h1 := HI2.out
        rw [hmt] at h1
        exact JW.put (st := (so.set m ⟨t.f0, mx t.f1 x.f1⟩, sl)) ⟨by simp only [List.length_set, HM.out]; exact h1, HbB.out, HB3.out⟩ (Nat.le_refl _) x
       case measure => simp [intOf]; omega
      ·have hle1 : decide (x.f0 ≤ t.f1) = false := by simpa using hle
       have hgt := Aside0.mk (blk_lt HI.out.b)
       go_wp2
       go_quiet (fail)
       rename_i nq
       have HX := Aside0.mk (Kd.R_drewN HX0.out nq)
       go_wp2_with (at_builtin; go_loud ((refine Kd.R_append k55 (w0 := (wr.alloc (.cells #[.int .i64 x.f0, .int .i64 x.f1] 55)).drewN nq) w2.heap.size rfl (.tmp 20) (.tmp 22) 29 55 (.agg #[.int .i64 0, .int .i64 0]) 16 rfl Try.underlying29 info55 (by decide) (by decide) (by decide) (.slice (some ⟨g7, 0, none⟩) (m + 1) c7) so x [.int .i64 x.f0, .int .i64 x.f1] (fun k => k ≠ w2.heap.size) (fun _ => False) rfl ?ax (k55_mkM _ _ _ _) (fun _ h => h.elim) ?af HX.out (Below.refl _ _) ?asz ?aln ?_; (case ax => first | rfl | (rw [World.size_alloc]; rfl) | (simp; done) | (simp; rfl)); (case af => exact fun k hk => by have h1 := hgt.out; have h2 : wr.heap.size + 1 ≤ k := (by simpa using hk); omega); (case asz => exact (by have h1 := hgt.out; have h2 : ((wr.alloc (.cells #[.int .i64 x.f0, .int .i64 x.f1] 55)).drewN nq).heap.size = wr.heap.size + 1 := (by simp); omega)); (case aln => have h1 := HLn.out; (try simp only at h1); omega)); intro v' w3 hr2 hb2 hg2 hat2; have HI2 := Aside0.mk hr2; have HB3 := Aside0.mk hb2; have HG3 := Aside0.mk hg2; have HA3 := Aside0.mk hat2; clear hr2 hb2 hg2 hat2; obtain ⟨hb6, hbB⟩ := app_blocks (v := .slice (some ⟨g7, 0, none⟩) (m + 1) c7) HVB.out HG3.out (blk_drewN H6.out nq) (blk_drewN HB0.out nq); have hy0' := blk_cell hb6 0; have hy1' := blk_cell hb6 1; have hq0' := blk_cell hbB 0; have hq1' := blk_cell hbB 1; have hf0' : w3.frozen? ⟨w2.heap.size, 0, none⟩ = false := (by simp [World.frozen?, hbB]); have hf1' : w3.frozen? ⟨w2.heap.size, 1, none⟩ = false := (by simp [World.frozen?, hbB]); have Hb6 := Aside0.mk hb6; have HbB := Aside0.mk hbB; clear hb6 hbB))
       go_roundw
       case rel =>
        refine ⟨kk + 1, by go_num, ⟨by omega⟩, ⟨?_⟩⟩
        rw [hsn.out, jstep_app so sl x t m HM.out HT.out (by omega) HJN.out (by omega)]
        exact JW.put (st := (so ++ [x], sl)) ⟨by have := HI2.out; simpa using this, HbB.out, (pw_below_drewN (HI.out.below.alloc HI.out.below.size _) nq).trans HB3.out⟩ (Nat.le_refl _) x
       case measure => simp [intOf]; omega
  ·have hd0 : decide (kk < L.length) = false := by simpa using hk
   have hfin := Aside0.mk (show ((L.take kk).foldl jstep ([], ⟨0, 0⟩)).1 = joinOf l by
    rw [List.take_of_length_le (by omega)]
    exact jfold_join l L HP.out HS.out (fun s hs => by have := HV.out s hs; omega))
   go_wp2
   go_ret
   exact ⟨_, rfl, by have := Kd.R_mono (Kd.R_lower HI.out.o HB2.out.size) (fun _ _ => trivial); rw [hfin.out] at this; exact this, HB2.out.trans (HI.out.below.mono HB2.out.size)⟩
end Go.Proofs.Ytalpegglbfobiaa.G

namespace Go.Proofs.Ytalpegglbfobiaa.G
open Go.RowKit Go.Proofs.YtalpegglbfobiaaW.PrintWords Go.Proofs.YtalpegglbfobiaaW.PrintLast Go.Proofs.YtalpegglbfobiaaW.PrintMore
set_option linter.unusedVariables false
set_option linter.unusedSimpArgs false
def okSpans (l : List S55) : Bool := decide (l.length ≤ 1000000) && l.all fun s => decide (0 ≤ s.f0 ∧ s.f0 ≤ s.f1 ∧ s.f1 ≤ 17179869184)
theorem okSpans_iff (l : List S55) : okSpans l = true ↔ l.length ≤ 1000000 ∧ ∀ s ∈ l, 0 ≤ s.f0 ∧ s.f0 ≤ s.f1 ∧ s.f1 ≤ 17179869184 := by
 unfold okSpans; simp
def span_joined.f (l0 : List S55) : Option (List S55) := if okSpans l0 = true then some (joinOf l0) else none
theorem span_joined.calls (A0 : Option Addr) (c0 : Nat) (l0 : List (S55)) (r : List (S55)) (w : World) (hr0 : Kd.C k55 w A0 l0.length l0) (hc0 : l0.length ≤ c0) (h : span_joined.f l0 = some r) :
  Calls Try.prog 75 #[.slice A0 l0.length c0] w fun e w' => ∃ v0_ : Value, e = .returned v0_ ∧ Kd.R k55 55 w' w.heap.size (fun _ => True) v0_ r ∧ Below w.heap.size w w' := by
 unfold span_joined.f at h
 split at h
 ·rename_i hk
  have := (okSpans_iff l0).1 hk
  obtain rfl := Option.some.inj h
  exact joined_main A0 c0 l0 w hr0 hc0 this.1 this.2
 ·cases h
end Go.Proofs.Ytalpegglbfobiaa.G
