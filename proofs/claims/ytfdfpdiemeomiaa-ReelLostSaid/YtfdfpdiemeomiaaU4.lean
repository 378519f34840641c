import Derived.Test.YtfdfpdiemeomiaaQ1
import Derived.Test.YtfdfpdiemeomiaaU3
import Derived.RangeFuncNested
import Derived.RangeFuncBound
import Derived.RangeFuncCalls
import Derived.RangeFuncLeaves
import Derived.Shelf.Abstract
import Derived.Shelf.RegionOpen
import Derived.OwnWalkIn
import Derived.TacticsInMore
import Derived.LoopNIn
import Derived.LoopIn
import Derived.IntWalk
import Derived.Sort.QuietIn
import Derived.RangeFuncRecord
import Derived.Deep.Slices
import Derived.Deep.Fields
import Derived.ChangeSame
import Derived.ChangeArms
import Derived.Test.YtfdfpdiemeomiaaQ2
namespace Go.Proofs.Ytfdfpdiemeomiaa.G
open Go.RowKit Go.Proofs.YtfdfpdiemeomiaaW.PrintWords Go.Proofs.YtfdfpdiemeomiaaW.PrintLast Go.Proofs.YtfdfpdiemeomiaaW.PrintMore
attribute [local go_sem] max2_int min2_int max_two min_two max_three min_three max_four min_four   -- for this text's walks alone
set_option linter.unusedVariables false
set_option linter.unusedSimpArgs false

def reel_Cut.piece (least : Int) (st : Int × List S36 × List S36) (e : Int) : Int × List S36 × List S36 :=
 if least ≤ wrap64 (e - st.1) then (e, st.2.1 ++ [⟨st.1, e⟩], st.2.2) else (e, st.2.1, st.2.2 ++ [⟨st.1, e⟩])

structure PieceIn (W : World) (n₀ ga gl gr gs : Nat) (v1 v2 : Value) (a : Int) (least : Int) (rs ss : List S36) : Prop where
 ba : Boxed W ga 3 (.int .i64 a)
 bl : Boxed W gl 3 (.int .i64 least)
 br : Boxed W gr 25 v1
 bs : Boxed W gs 25 v2
 r1 : Kd.R k36 36 W n₀ (fun k => some k ≠ v2.ownBlock) v1 rs
 r2 : Kd.R k36 36 W n₀ (fun k => some k ≠ v1.ownBlock) v2 ss
 ha : n₀ ≤ ga
 hl : n₀ ≤ gl
 hr : n₀ ≤ gr
 hs : n₀ ≤ gs
 nal : ga ≠ gl
 nrs : gr ≠ gs

structure PieceKeeps (W W' : World) (n₀ ga gr gs : Nat) (v1 v2 v1' v2' : Value) : Prop where
 below : Below n₀ W W'
 others : KeepsOthers W W'
 far : ∀ k, k < W.heap.size → k ≠ ga → k ≠ gr → k ≠ gs → some k ≠ v1.ownBlock → some k ≠ v2.ownBlock → W'.heap[k]? = W.heap[k]?
 at1 : v1'.ownBlock = v1.ownBlock ∨ ∃ b, v1'.ownBlock = some b ∧ W.heap.size ≤ b
 at2 : v2'.ownBlock = v2.ownBlock ∨ ∃ b, v2'.ownBlock = some b ∧ W.heap.size ≤ b

def PieceOut (W : World) (n₀ ga gl gr gs : Nat) (v1 v2 : Value) (least : Int) (st : Int × List S36 × List S36) (W' : World) : Prop :=
 ∃ v1' v2', PieceIn W' n₀ ga gl gr gs v1' v2' st.1 least st.2.1 st.2.2 ∧ PieceKeeps W W' n₀ ga gr gs v1 v2 v1' v2'

theorem box_ne_row {W : World} {B t : Nat} {v u : Value} {n₀ : Nat} {ok : Nat → Prop} {xs : List S36} (h : Boxed W B t v) (ht : t ≠ 36) (hr : Kd.R k36 36 W n₀ ok u xs) : some B ≠ u.ownBlock :=
 Kd.R_ne hr h (fun e => ht e.symm)

theorem ks_row {W w1 : World} {n₀ : Nat} {v1 : Value} {ok : Nat → Prop} {rs : List S36} (h : Kd.R k36 36 W n₀ ok v1 rs) (hg : W.grownBy w1 v1.ownBlock) : KeepsOthers W w1 :=
 KeepsOthers.of_grownBy hg fun j o ej hj => by
  obtain ⟨inner, ho⟩ := Kd.R_own h
  obtain ⟨cells, hc⟩ := own_typed ho j ej
  rw [hc] at hj; cases hj; rfl

theorem piece_out1 {W w1 : World} {n₀ ga gl gr gs : Nat} {v1 v2 v1' : Value} {a e least : Int} {rs ss rs' : List S36} (hP : PieceIn W n₀ ga gl gr gs v1 v2 a least rs ss) (hn : n₀ ≤ W.heap.size)
  (hr1 : Kd.R k36 36 w1 n₀ (fun k => some k ≠ v2.ownBlock) v1' rs') (hb1 : Below n₀ W w1) (hg1 : W.grownBy w1 v1.ownBlock) (hat : v1'.ownBlock = v1.ownBlock ∨ ∃ b, v1'.ownBlock = some b ∧ W.heap.size ≤ b) :
  Boxed w1 gr 25 v1 ∧ Boxed w1 ga 3 (.int .i64 a) ∧ gr ≠ ga ∧ PieceOut W n₀ ga gl gr gs v1 v2 least (e, rs', ss) ((w1.setCell ⟨gr, 0, none⟩ v1').setCell ⟨ga, 0, none⟩ (.int .i64 e)) := by
 have nra : gr ≠ ga := blk_ne hP.br hP.ba (by decide)
 have nrl : gr ≠ gl := blk_ne hP.br hP.bl (by decide)
 have nsa : gs ≠ ga := blk_ne hP.bs hP.ba (by decide)
 have br1 := hP.br.kept hg1 (box_ne_row hP.br (by decide) hP.r1)
 have ba1 := hP.ba.kept hg1 (box_ne_row hP.ba (by decide) hP.r1)
 have bl1 := hP.bl.kept hg1 (box_ne_row hP.bl (by decide) hP.r1)
 have bs1 := hP.bs.kept hg1 (box_ne_row hP.bs (by decide) hP.r1)
 have ba2 : Boxed (w1.setCell ⟨gr, 0, none⟩ v1') ga 3 (.int .i64 a) := ba1.other (fun h => nra h.symm) v1'
 refine ⟨br1, ba1, nra, v1', v2, ?_, ?_⟩
 ·refine ⟨ba2.set _, (bl1.other (fun h => nrl h.symm) v1').other hP.nal.symm _, (br1.set v1').other nra _, (bs1.other (fun h => hP.nrs h.symm) v1').other nsa _, ?_, ?_, hP.ha, hP.hl, hP.hr, hP.hs, hP.nal, hP.nrs⟩
  ·exact Kd.R_set (Kd.R_set hr1 br1 (by decide) 0 v1') ba2 (by decide) 0 _
  ·have h2 : Kd.R k36 36 w1 n₀ (fun k => some k ≠ v1'.ownBlock) v2 ss :=
    Kd.R_mono (Kd.R_after (ok := fun _ => True) (Kd.R_mono hP.r2 (fun k h => ⟨trivial, h⟩)) hg1 hat) (fun k h => h.2)
   exact Kd.R_set (Kd.R_set h2 br1 (by decide) 0 v1') ba2 (by decide) 0 _
 ·refine ⟨(hb1.setCell (p := ⟨gr, 0, none⟩) hP.hr v1').setCell (p := ⟨ga, 0, none⟩) hP.ha _, ((ks_row hP.r1 hg1).trans (KeepsOthers.setCell _ _ _)).trans (KeepsOthers.setCell _ _ _), ?_, hat, .inl rfl⟩
  intro k hk h1 h2 h3 h4 h5
  rw [Below.heap_setCell _ _ _ k (by exact h1), Below.heap_setCell _ _ _ k (by exact h2)]
  exact hg1.block k hk h4

theorem piece_out2 {W w1 : World} {n₀ ga gl gr gs : Nat} {v1 v2 v2' : Value} {a e least : Int} {rs ss ss' : List S36} (hP : PieceIn W n₀ ga gl gr gs v1 v2 a least rs ss) (hn : n₀ ≤ W.heap.size)
  (hr1 : Kd.R k36 36 w1 n₀ (fun k => some k ≠ v1.ownBlock) v2' ss') (hb1 : Below n₀ W w1) (hg1 : W.grownBy w1 v2.ownBlock) (hat : v2'.ownBlock = v2.ownBlock ∨ ∃ b, v2'.ownBlock = some b ∧ W.heap.size ≤ b) :
  Boxed w1 gs 25 v2 ∧ Boxed w1 ga 3 (.int .i64 a) ∧ gs ≠ ga ∧ PieceOut W n₀ ga gl gr gs v1 v2 least (e, rs, ss') ((w1.setCell ⟨gs, 0, none⟩ v2').setCell ⟨ga, 0, none⟩ (.int .i64 e)) := by
 have nra : gr ≠ ga := blk_ne hP.br hP.ba (by decide)
 have nsl : gs ≠ gl := blk_ne hP.bs hP.bl (by decide)
 have nsa : gs ≠ ga := blk_ne hP.bs hP.ba (by decide)
 have br1 := hP.br.kept hg1 (box_ne_row hP.br (by decide) hP.r2)
 have ba1 := hP.ba.kept hg1 (box_ne_row hP.ba (by decide) hP.r2)
 have bl1 := hP.bl.kept hg1 (box_ne_row hP.bl (by decide) hP.r2)
 have bs1 := hP.bs.kept hg1 (box_ne_row hP.bs (by decide) hP.r2)
 have ba2 : Boxed (w1.setCell ⟨gs, 0, none⟩ v2') ga 3 (.int .i64 a) := ba1.other (fun h => nsa h.symm) v2'
 refine ⟨bs1, ba1, nsa, v1, v2', ?_, ?_⟩
 ·refine ⟨ba2.set _, (bl1.other (fun h => nsl h.symm) v2').other hP.nal.symm _, (br1.other hP.nrs v2').other nra _, (bs1.set v2').other nsa _, ?_, ?_, hP.ha, hP.hl, hP.hr, hP.hs, hP.nal, hP.nrs⟩
  ·have h2 : Kd.R k36 36 w1 n₀ (fun k => some k ≠ v2'.ownBlock) v1 rs :=
    Kd.R_mono (Kd.R_after (ok := fun _ => True) (Kd.R_mono hP.r1 (fun k h => ⟨trivial, h⟩)) hg1 hat) (fun k h => h.2)
   exact Kd.R_set (Kd.R_set h2 bs1 (by decide) 0 v2') ba2 (by decide) 0 _
  ·exact Kd.R_set (Kd.R_set hr1 bs1 (by decide) 0 v2') ba2 (by decide) 0 _
 ·refine ⟨(hb1.setCell (p := ⟨gs, 0, none⟩) hP.hs v2').setCell (p := ⟨ga, 0, none⟩) hP.ha _, ((ks_row hP.r2 hg1).trans (KeepsOthers.setCell _ _ _)).trans (KeepsOthers.setCell _ _ _), ?_, .inl rfl, hat⟩
  intro k hk h1 h2 h3 h4 h5
  rw [Below.heap_setCell _ _ _ k (by exact h1), Below.heap_setCell _ _ _ k (by exact h3)]
  exact hg1.block k hk h5

set_option maxHeartbeats 4000000 in
set_option maxRecDepth 100000 in
theorem piece_yes (e a least : Int) (n₀ ga gl gr gs : Nat) (v1 v2 : Value) (rs ss : List S36) (W : World)
  (hP : PieceIn W n₀ ga gl gr gs v1 v2 a least rs ss) (hn : n₀ ≤ W.heap.size) (hlen : rs.length < 1000000000) (h : decide (wrap64 (e - a) ≥ least) = true) :
  Calls Try.prog 30 #[.int .i64 e, .pointer (some ⟨ga, 0, none⟩), .pointer (some ⟨gl, 0, none⟩), .pointer (some ⟨gr, 0, none⟩), .pointer (some ⟨gs, 0, none⟩)] W fun en W' =>
   en = .returned (.tuple #[]) ∧ PieceOut W n₀ ga gl gr gs v1 v2 least (e, rs ++ [⟨a, e⟩], ss) W' := by
 have ca := hP.ba.cell
 have cl := hP.bl.cell
 have cr := hP.br.cell
 have HP := Aside0.mk hP
 have HN := Aside0.mk hn
 obtain ⟨A1, c1, e1⟩ := Kd.R_slice hP.r1
 subst e1
 clear hP hn
 go_enter Try.func30, Try.ntmps30
 go_wp2_with (at_builtin; (refine Kd.R_append k36 (w0 := W) n₀ rfl (.tmp 11) (.tmp 15) 25 36 (.agg #[.int .i64 0, .int .i64 0]) 16 rfl Try.underlying25 info36 (by decide) (by decide) (by decide) (.slice A1 rs.length c1) rs ⟨a, e⟩ [.int .i64 a, .int .i64 e] (fun k => some k ≠ v2.ownBlock) (fun k => False) rfl rfl (k36_mkM _ _ _ _) (fun _ h => h.elim) (fun k hk => Kd.fresh_ok HP.out.r2 k hk) HP.out.r1 (Below.refl _ _) HN.out (by omega) ?_; intro v' w1 hr1 hb1 hg1 hat1; have HX := Aside0.mk (piece_out1 (e := e) HP.out HN.out hr1 hb1 hg1 hat1); have hc1 := HX.out.1.cell; have hc2 := HX.out.2.1.cell; have hf1 := HX.out.1.frozen; have hf2 := HX.out.2.1.frozen; have hne := HX.out.2.2.1; obtain ⟨A2, c2, e2⟩ := Kd.R_slice hr1; simp only [List.length_append, List.length_cons, List.length_nil, Nat.zero_add] at e2; subst e2; clear hr1 hb1 hg1 hat1))
 go_end0
 exact ⟨rfl, HX.out.2.2.2⟩
set_option maxHeartbeats 4000000 in
set_option maxRecDepth 100000 in
theorem piece_no (e a least : Int) (n₀ ga gl gr gs : Nat) (v1 v2 : Value) (rs ss : List S36) (W : World)
  (hP : PieceIn W n₀ ga gl gr gs v1 v2 a least rs ss) (hn : n₀ ≤ W.heap.size) (hlen : ss.length < 1000000000) (h : decide (wrap64 (e - a) ≥ least) = false) :
  Calls Try.prog 30 #[.int .i64 e, .pointer (some ⟨ga, 0, none⟩), .pointer (some ⟨gl, 0, none⟩), .pointer (some ⟨gr, 0, none⟩), .pointer (some ⟨gs, 0, none⟩)] W fun en W' =>
   en = .returned (.tuple #[]) ∧ PieceOut W n₀ ga gl gr gs v1 v2 least (e, rs, ss ++ [⟨a, e⟩]) W' := by
 have ca := hP.ba.cell
 have cl := hP.bl.cell
 have cr := hP.bs.cell
 have HP := Aside0.mk hP
 have HN := Aside0.mk hn
 obtain ⟨A1, c1, e1⟩ := Kd.R_slice hP.r2
 subst e1
 clear hP hn
 go_enter Try.func30, Try.ntmps30
 go_wp2_with (at_builtin; (refine Kd.R_append k36 (w0 := W) n₀ rfl (.tmp 17) (.tmp 21) 25 36 (.agg #[.int .i64 0, .int .i64 0]) 16 rfl Try.underlying25 info36 (by decide) (by decide) (by decide) (.slice A1 ss.length c1) ss ⟨a, e⟩ [.int .i64 a, .int .i64 e] (fun k => some k ≠ v1.ownBlock) (fun k => False) rfl rfl (k36_mkM _ _ _ _) (fun _ h => h.elim) (fun k hk => Kd.fresh_ok HP.out.r1 k hk) HP.out.r2 (Below.refl _ _) HN.out (by omega) ?_; intro v' w1 hr1 hb1 hg1 hat1; have HX := Aside0.mk (piece_out2 (e := e) HP.out HN.out hr1 hb1 hg1 hat1); have hc1 := HX.out.1.cell; have hc2 := HX.out.2.1.cell; have hf1 := HX.out.1.frozen; have hf2 := HX.out.2.1.frozen; have hne := HX.out.2.2.1; obtain ⟨A2, c2, e2⟩ := Kd.R_slice hr1; simp only [List.length_append, List.length_cons, List.length_nil, Nat.zero_add] at e2; subst e2; clear hr1 hb1 hg1 hat1))
 go_end0
 exact ⟨rfl, HX.out.2.2.2⟩

attribute [local go_sem] Oper.semAt_some
def reel_Cut.same (x : S44) (y : S44) : Bool := !(y.f2 == 3) && (y.f4 == x.f4)
def reel_Cut.strs : List S44 → List S36
 | [] => []
 | x :: r => if x.f2 = 3 then reel_Cut.strs r else ⟨x.f0, ((x :: r.takeWhile (reel_Cut.same x)).getLastD x).f1⟩ :: reel_Cut.strs (r.dropWhile (reel_Cut.same x))
termination_by l => l.length
decreasing_by
 all_goals simp_wf
 have h := (List.dropWhile_suffix (l := r) (reel_Cut.same x)).length_le
 omega

theorem J_drewN {β : Type} {B : Nat} {J : β → World → Prop} (hJ : AbidesFrom B J) {s : β} {W : World} (h : J s W) (m : Nat) : J s (W.drewN m) :=
 hJ s W _ none h (grown_of_below (pw_below_drewN (Below.refl _ _) m) none) (fun r e => by cases e)
theorem boxed_drewN {W : World} {B : Nat} {t : TypeId} {v : Value} (h : Boxed W B t v) (m : Nat) : Boxed (W.drewN m) B t v := blk_drewN h m

theorem yield_two {e : Ending} {p q : Prop} (h : (e = .returned (.bool true) ∧ p) ∨ (e = .returned (.bool false) ∧ q)) : ∃ b : Bool, e = .returned (.bool b) ∧ Aside0 ((b = true ∧ p) ∨ (b = false ∧ q)) := by
 rcases h with ⟨h, hp⟩ | ⟨h, hp⟩
 ·exact ⟨true, h, ⟨.inl ⟨rfl, hp⟩⟩⟩
 ·exact ⟨false, h, ⟨.inr ⟨rfl, hp⟩⟩⟩

def KpL (n₀ Bl : Nat) (W W' : World) : Prop := Below n₀ W W' ∧ ∀ o, W.heap[Bl]? = some o → W'.heap[Bl]? = some o

theorem strs_lost (ls : List S44) (k : Nat) (hk : k < ls.length) (h : (rd_T44 ls k).f2 = 3) : reel_Cut.strs (ls.drop k) = reel_Cut.strs (ls.drop (k + 1)) := by
 have e : ls.drop k = rd_T44 ls k :: ls.drop (k + 1) := by
  rw [List.drop_eq_getElem_cons hk]
  simp [rd_T44, List.getD_eq_getElem?_getD, List.getElem?_eq_getElem hk]
 rw [e, reel_Cut.strs, if_pos h]

theorem takeWhile_app {α : Type} (p : α → Bool) : ∀ (xs ys : List α), (∀ x ∈ xs, p x = true) → (∀ y, ys.head? = some y → p y = false) → (xs ++ ys).takeWhile p = xs ∧ (xs ++ ys).dropWhile p = ys
 | [], [], _, _ => by simp
 | [], y :: ys, _, h => by have := h y rfl; simp [this]
 | x :: xs, ys, hx, h => by
  have h1 := hx x (by simp)
  obtain ⟨i1, i2⟩ := takeWhile_app p xs ys (fun z hz => hx z (by simp [hz])) h
  simp [List.takeWhile_cons, List.dropWhile_cons, h1, i1, i2]

theorem rd_drop (ls : List S44) (k : Nat) (hk : k < ls.length) : ls.drop k = rd_T44 ls k :: ls.drop (k + 1) := by
 rw [List.drop_eq_getElem_cons hk]
 simp [rd_T44, List.getD_eq_getElem?_getD, List.getElem?_eq_getElem hk]

theorem strs_step (ls : List S44) (k k3 : Nat) (hk : k ≤ k3) (h3 : k3 < ls.length) (h : (rd_T44 ls k).f2 ≠ 3)
  (hin : ∀ j : Nat, k ≤ j → j < k3 + 1 → reel_Cut.same (rd_T44 ls k) (rd_T44 ls j) = true)
  (hout : k3 + 1 < ls.length → reel_Cut.same (rd_T44 ls k) (rd_T44 ls (k3 + 1 : Nat)) = false) :
  reel_Cut.strs (ls.drop k) = ⟨(rd_T44 ls k).f0, (rd_T44 ls k3).f1⟩ :: reel_Cut.strs (ls.drop (k3 + 1)) := by
 have e1 : ls.drop (k + 1) = (ls.drop (k + 1)).take (k3 - k) ++ ls.drop (k3 + 1) := by
  have := (List.take_append_drop (k3 - k) (ls.drop (k + 1))).symm
  rw [List.drop_drop, show k + 1 + (k3 - k) = k3 + 1 from by omega] at this
  exact this
 have hget : ∀ j : Nat, j < ls.length → ls[j]? = some (rd_T44 ls j) := fun j hj => by simp [rd_T44, List.getD_eq_getElem?_getD, List.getElem?_eq_getElem hj]
 obtain ⟨t1, t2⟩ := takeWhile_app (reel_Cut.same (rd_T44 ls k)) ((ls.drop (k + 1)).take (k3 - k)) (ls.drop (k3 + 1)) (fun x hx => by
   obtain ⟨i, hi, rfl⟩ := List.getElem_of_mem hx
   have hi' : i < k3 - k := by simp at hi; omega
   have e : ((ls.drop (k + 1)).take (k3 - k))[i] = rd_T44 ls (k + 1 + i : Nat) := by
    have := hget (k + 1 + i) (by omega)
    rw [List.getElem?_eq_getElem (by omega)] at this
    simp only [List.getElem_take, List.getElem_drop]
    exact Option.some.inj this
   rw [e]; exact hin _ (by omega) (by omega)) (fun y hy => by
   rw [List.head?_drop] at hy
   have hl : k3 + 1 < ls.length := by
    rcases Nat.lt_or_ge (k3 + 1) ls.length with h | h
    ·exact h
    ·rw [List.getElem?_eq_none h] at hy; cases hy
   rw [hget _ hl] at hy
   cases hy
   exact hout hl)
 rw [rd_drop ls k (by omega), reel_Cut.strs, if_neg h]
 rw [← e1] at t1 t2
 rw [t1, t2]
 congr 2
 have : ((rd_T44 ls k :: (ls.drop (k + 1)).take (k3 - k)).getLastD (rd_T44 ls k)) = rd_T44 ls k3 := by
  have e2 : rd_T44 ls k :: (ls.drop (k + 1)).take (k3 - k) = (ls.drop k).take (k3 + 1 - k) := by
   rw [rd_drop ls k (by omega), show k3 + 1 - k = (k3 - k) + 1 from by omega, List.take_succ_cons]
  rw [e2, List.getLastD_eq_getLast?, List.getLast?_eq_getElem?, List.length_take, List.length_drop, List.getElem?_take, List.getElem?_drop]
  rw [if_pos (by omega), show k + (min (k3 + 1 - k) (ls.length - k) - 1) = k3 from by omega, hget _ h3]
  rfl
 rw [this]

set_option maxRecDepth 100000 in
set_option maxHeartbeats 16000000 in
theorem strs_in (n : Nat) (hn : 1 ≤ n) (l Bl : Nat) (w : World) (A : Option Addr) (c : Nat) (ls : List S44) (J Jx : List S36 → World → Prop)
  (hr : Kd.C k44 w A ls.length ls) (hc : ls.length ≤ c) (hlen : ls.length ≤ 512)
  (hY : ∀ pre x W, J pre W → pre.length < (reel_Cut.strs ls).length → YieldAt Fence.wide (n - 1) Try.prog l #[.agg #[.int .i64 x.f0, .int .i64 x.f1]] W fun e W' =>
   (e = .returned (.bool true) ∧ J (pre ++ [x]) W' ∧ KpL w.heap.size Bl W W') ∨ (e = .returned (.bool false) ∧ Jx (pre ++ [x]) W'))
  (W : World) (hW : Below w.heap.size w W) (hJ : AbidesFrom W.heap.size J) (hBl : Boxed W Bl 22 (.slice A ls.length c)) (h0 : J [] W) :
  CallsIn Fence.wide n Try.prog 37 #[.func (.yield l) #[] #[], .pointer (some ⟨Bl, 0, none⟩)] W fun e W' => (∃ v, e = .returned v) ∧
   ((∃ ys, ys = reel_Cut.strs ls ∧ J ys W') ∨ (∃ pre, pre <+: reel_Cut.strs ls ∧ Jx pre W')) := by
 have HR := Aside0.mk hr
 have HC := Aside0.mk hc
 clear hr hc
 refine callsIn_of_wp Try.func37 rfl trivial ?_ rfl
 simp only [Try.ntmps37, List.size_toArray, List.length_cons, List.length_nil, Nat.reduceAdd, Nat.reduceSub, Array.replicate_succ, Array.replicate_zero, List.push_toArray, List.append_toArray, List.nil_append, List.cons_append]
 gi_wp2
 gi_loopw [3] (fun i wr => ∃ (k : Nat) (pre : List S36), i = .int .i64 k ∧ Aside0 (k ≤ ls.length ∧ pre ++ reel_Cut.strs (ls.drop k) = reel_Cut.strs ls) ∧ Aside0 (Below w.heap.size w wr ∧ Boxed wr Bl 22 (.slice A ls.length c)) ∧ Aside0 (J pre wr))
  (fun i _ => ls.length - (intOf i).toNat)
 case atStart =>
  exact ⟨0, [], rfl, ⟨Nat.zero_le _, by simp⟩, ⟨hW, hBl⟩, ⟨h0⟩⟩
 case round =>
  obtain ⟨k, pre, rfl, HK, HB, HJ⟩ := hrel
  have hbl := HB.out.2.cell
  by_cases hk : k < ls.length
  ·have hk1 : ((k : Int) < (ls.length : Int)) := by omega
   have p0 : 0 ≤ (k : Int) := by omega
   obtain ⟨ad, rfl, hx0, hx1, hx2, hx3, hx4⟩ := at_T44 (Kd.C_below HR.out HB.out.1) (k : Int) p0 hk1
   simp only [Int.toNat_natCast] at hx0 hx1 hx2 hx3 hx4
   by_cases hkind : (rd_T44 ls k).f2 = 3
   ·have hk2 : ((rd_T44 ls k).f2 == 3) = true := by simp [hkind]
    gi_wp2
    go_roundw
    case rel =>
     have h1 := HK.out
     exact ⟨k + 1, pre, by go_num, ⟨by omega, by rw [← strs_lost ls k hk hkind]; exact h1.2⟩, HB, HJ⟩
    case measure => simp [intOf]; omega
   ·have hk2 : ((rd_T44 ls k).f2 == 3) = false := by simp [hkind]
    gi_wp2
    clear hx0 hx1 hx2 hx3 hx4
    obtain ⟨wo, hwo⟩ : ∃ wo : World, wo = wr := ⟨_, rfl⟩
    have hK := HK.out
    gi_loopw [4] (fun i wr => ∃ (k2 : Nat), i = .int .i64 k2 ∧ Aside0 (k ≤ k2 ∧ k2 ≤ ls.length ∧ ∀ j : Nat, k ≤ j → j < k2 → reel_Cut.same (rd_T44 ls k) (rd_T44 ls j) = true) ∧ Aside0 (Below w.heap.size w wr ∧ Boxed wr Bl 22 (.slice (some ad) ls.length c)) ∧ Aside0 (J pre wr))
     (fun i _ => ls.length - (intOf i).toNat)
    case atStart => exact ⟨k, rfl, ⟨Nat.le_refl _, by omega, fun j h1 h2 => by omega⟩, HB, HJ⟩
    case round =>
     obtain ⟨k2, rfl, HK2, HB2, HJ2⟩ := hrel
     have hbl2 := HB2.out.2.cell
     obtain ⟨ad', e', hy0, hy1, hy2, hy3, hy4⟩ := at_T44 (Kd.C_below HR.out HB2.out.1) (k : Int) p0 hk1
     cases e'
     simp only [Int.toNat_natCast] at hy0 hy1 hy2 hy3 hy4
     by_cases hlt : k2 < ls.length
     ·have hlt1 : ((k2 : Int) < (ls.length : Int)) := by omega
      have p2 : 0 ≤ (k2 : Int) := by omega
      have hltb : decide (k2 < ls.length) = true := by simpa using hlt
      obtain ⟨ad', e', hz0, hz1, hz2, hz3, hz4⟩ := at_T44 (Kd.C_below HR.out HB2.out.1) (k2 : Int) p2 hlt1
      cases e'
      simp only [Int.toNat_natCast] at hz0 hz1 hz2 hz3 hz4
      by_cases hs : reel_Cut.same (rd_T44 ls k) (rd_T44 ls k2) = true
      ·have hs1b : ((rd_T44 ls k2).f2 != 3) = true := by simp [reel_Cut.same] at hs; simp [hs.1]
       have hs2b : ((rd_T44 ls k2).f4 == (rd_T44 ls k).f4) = true := by simp [reel_Cut.same] at hs; simp [hs.2]
       gi_wp2
       gi_quiet (fail)
       gi_wp2
       go_roundw
       case rel =>
        have h2 := HK2.out
        refine ⟨k2 + 1, by go_num, ⟨by omega, by omega, fun j h3 h4 => ?_⟩, ⟨pw_below_drewN HB2.out.1 _, boxed_drewN HB2.out.2 _⟩, ⟨J_drewN hJ HJ2.out _⟩⟩
        by_cases e : j = k2
        ·subst e; exact hs
        ·exact h2.2.2 j h3 (by omega)
       case measure => simp [intOf]; omega
      ·have hss : reel_Cut.same (rd_T44 ls k) (rd_T44 ls k2) = false := by simpa using hs
       have hk3 := HK2.out
       have hnk : k < k2 := by
        have h0 := hk3; have : k2 ≠ k := by rintro rfl; simp [reel_Cut.same, hkind] at hss
        omega
       have hst := Aside0.mk (strs_step ls k (k2 - 1) (by omega) (by omega) hkind (fun j h1 h2 => hk3.2.2 j h1 (by omega)) (fun _ => by rw [show k2 - 1 + 1 = k2 from by omega]; exact hss))
       have h3a : ((k2 - 1 : Nat) : Int) < (ls.length : Int) := by omega
       obtain ⟨ad', e', hv0, hv1, hv2, hv3, hv4⟩ := at_T44 (Kd.C_below HR.out HB2.out.1) ((k2 - 1 : Nat) : Int) (by omega) h3a
       cases e'
       simp only [Int.toNat_natCast] at hv0 hv1 hv2 hv3 hv4
       have hY' := Aside0.mk (hY pre ⟨(rd_T44 ls k).f0, (rd_T44 ls (k2 - 1 : Nat)).f1⟩)
       clear hY
       have hk2p : 1 ≤ k2 := by omega
       have HK3 := Aside0.mk hk3
       clear hk3 HK2
       have hwk : IntKind.i64.wrap ((k2 : Int) - 1) = ((k2 - 1 : Nat) : Int) := by rw [IntWalk.i64_in _ (by omega)]; omega
       have hlk : k2 - 1 < ls.length := by omega
       have HL := Aside0.mk (show pre ++ [⟨(rd_T44 ls k).f0, (rd_T44 ls (k2 - 1 : Nat)).f1⟩] ++ reel_Cut.strs (ls.drop k2) = reel_Cut.strs ls by
         have e1 := hst.out
         rw [show k2 - 1 + 1 = k2 from by omega] at e1
         rw [List.append_assoc]; rw [← hK.2, e1]; rfl)
       cases hs1 : (rd_T44 ls k2).f2 == 3 with
       | true =>
        have hs1b : ((rd_T44 ls k2).f2 != 3) = false := by simp at hs1; simp [hs1]
        clear hs1
        gi_wp2
        gi_quiet (fail)
        rename_i nq
        gi_wp2
        obtain ⟨fn, tmps, assign, body, hy, hR⟩ := hY'.out (wr.drewN (nq + 1)) (J_drewN hJ HJ2.out _) (by have := congrArg List.length HL.out; simp at this; omega)
        gi_region_with ((gi_wp2; refine hR.mono ?_; intro e W3 hpost; obtain ⟨b, rfl, hb⟩ := yield_two hpost))
        all_goals (rcases hb.out with ⟨rfl, hJ3, hk3⟩ | ⟨rfl, hJx3⟩)
        all_goals gi_wp2
        all_goals (first | (go_roundw; (case rel => exact ⟨k2, _, rfl, ⟨by have := HK3.out; omega, HL.out⟩, ⟨(pw_below_drewN HB2.out.1 _).trans hk3.1, hk3.2 _ (boxed_drewN HB2.out.2 _)⟩, ⟨hJ3⟩⟩); (case measure => simp [intOf]; omega)) | (refine bodyPost_ret (results_none rfl _ _ _) rfl ?_; exact ⟨⟨_, rfl⟩, .inr ⟨_, ⟨reel_Cut.strs (ls.drop k2), HL.out⟩, hJx3⟩⟩))
       | false =>
        have hs1b : ((rd_T44 ls k2).f2 != 3) = true := by simp at hs1; simp [hs1]
        have hs2b : ((rd_T44 ls k2).f4 == (rd_T44 ls k).f4) = false := by simp at hs1; simp [reel_Cut.same, hs1] at hss; simp [hss]
        clear hs1
        gi_wp2
        gi_quiet (fail)
        rename_i nq
        gi_wp2
        obtain ⟨fn, tmps, assign, body, hy, hR⟩ := hY'.out (wr.drewN (nq + 1)) (J_drewN hJ HJ2.out _) (by have := congrArg List.length HL.out; simp at this; omega)
        gi_region_with ((gi_wp2; refine hR.mono ?_; intro e W3 hpost; obtain ⟨b, rfl, hb⟩ := yield_two hpost))
        all_goals (rcases hb.out with ⟨rfl, hJ3, hk3⟩ | ⟨rfl, hJx3⟩)
        all_goals gi_wp2
        all_goals (first | (go_roundw; (case rel => exact ⟨k2, _, rfl, ⟨by have := HK3.out; omega, HL.out⟩, ⟨(pw_below_drewN HB2.out.1 _).trans hk3.1, hk3.2 _ (boxed_drewN HB2.out.2 _)⟩, ⟨hJ3⟩⟩); (case measure => simp [intOf]; omega)) | (refine bodyPost_ret (results_none rfl _ _ _) rfl ?_; exact ⟨⟨_, rfl⟩, .inr ⟨_, ⟨reel_Cut.strs (ls.drop k2), HL.out⟩, hJx3⟩⟩))
     ·have hltb : decide (k2 < ls.length) = false := by simpa using hlt
      have hk3 := HK2.out
      have hnk : k < k2 := by
       omega
      have hst := Aside0.mk (strs_step ls k (k2 - 1) (by omega) (by omega) hkind (fun j h1 h2 => hk3.2.2 j h1 (by omega)) (fun h => absurd h (by omega)))
      have h3a : ((k2 - 1 : Nat) : Int) < (ls.length : Int) := by omega
      obtain ⟨ad', e', hv0, hv1, hv2, hv3, hv4⟩ := at_T44 (Kd.C_below HR.out HB2.out.1) ((k2 - 1 : Nat) : Int) (by omega) h3a
      cases e'
      simp only [Int.toNat_natCast] at hv0 hv1 hv2 hv3 hv4
      have hY' := Aside0.mk (hY pre ⟨(rd_T44 ls k).f0, (rd_T44 ls (k2 - 1 : Nat)).f1⟩)
      clear hY
      have hk2p : 1 ≤ k2 := by omega
      have HK3 := Aside0.mk hk3
      clear hk3 HK2
      have hwk : IntKind.i64.wrap ((k2 : Int) - 1) = ((k2 - 1 : Nat) : Int) := by rw [IntWalk.i64_in _ (by omega)]; omega
      have hlk : k2 - 1 < ls.length := by omega
      have HL := Aside0.mk (show pre ++ [⟨(rd_T44 ls k).f0, (rd_T44 ls (k2 - 1 : Nat)).f1⟩] ++ reel_Cut.strs (ls.drop k2) = reel_Cut.strs ls by
        have e1 := hst.out
        rw [show k2 - 1 + 1 = k2 from by omega] at e1
        rw [List.append_assoc]; rw [← hK.2, e1]; rfl)
      gi_wp2
      gi_quiet (fail)
      rename_i nq
      gi_wp2
      obtain ⟨fn, tmps, assign, body, hy, hR⟩ := hY'.out (wr.drewN (nq + 1)) (J_drewN hJ HJ2.out _) (by have := congrArg List.length HL.out; simp at this; omega)
      gi_region_with ((gi_wp2; refine hR.mono ?_; intro e W3 hpost; obtain ⟨b, rfl, hb⟩ := yield_two hpost))
      all_goals (rcases hb.out with ⟨rfl, hJ3, hk3⟩ | ⟨rfl, hJx3⟩)
      all_goals gi_wp2
      all_goals (first | (go_roundw; (case rel => exact ⟨k2, _, rfl, ⟨by have := HK3.out; omega, HL.out⟩, ⟨(pw_below_drewN HB2.out.1 _).trans hk3.1, hk3.2 _ (boxed_drewN HB2.out.2 _)⟩, ⟨hJ3⟩⟩); (case measure => simp [intOf]; omega)) | (refine bodyPost_ret (results_none rfl _ _ _) rfl ?_; exact ⟨⟨_, rfl⟩, .inr ⟨_, ⟨reel_Cut.strs (ls.drop k2), HL.out⟩, hJx3⟩⟩))
  ·gi_wp2
   go_end0
   have h1 := HK.out
   exact ⟨⟨_, rfl⟩, .inl ⟨pre, by rw [List.drop_of_length_le (by omega)] at h1; simpa [reel_Cut.strs] using h1.2, HJ.out⟩⟩

theorem stretches_in (n : Nat) (A : Option Addr) (len c : Nat) (w : World) :
  CallsIn Fence.wide n Try.prog 29 #[.slice A len c] w fun e w' => e = .returned (.func (.func 37) #[] #[.pointer (some ⟨w.heap.size, 0, none⟩)]) ∧ w' = w.alloc (.cells #[.slice A len c] 22) := by
 refine callsIn_of_wp Try.func29 rfl trivial ?_ rfl
 simp only [Try.ntmps29, List.size_toArray, List.length_cons, List.length_nil, Nat.reduceAdd, Nat.reduceSub, Array.replicate_succ, Array.replicate_zero, List.push_toArray, List.append_toArray, List.nil_append, List.cons_append]
 gi_wp2
 go_ret
 exact ⟨rfl, rfl⟩

def reel_Cut.at (least : Int) (x : S36) (st : Int × List S36 × List S36) (t : Int) : Int × List S36 × List S36 :=
 if x.f0 < t ∧ t < x.f1 then reel_Cut.piece least st t else st
def reel_Cut.one (least : Int) (turns : List Int) (p : List S36 × List S36) (x : S36) : List S36 × List S36 :=
 (reel_Cut.piece least (turns.foldl (reel_Cut.at least x) (x.f0, p.1, p.2)) x.f1).2
def reel_Cut.all (least : Int) (turns : List Int) (xs : List S36) : List S36 × List S36 := xs.foldl (reel_Cut.one least turns) ([], [])
def reel_Cut.f (k : Nat) (l0 : List S44) (l1 : List Int) (a2 : Int) : Option (List S36 × List S36 × Int) :=
 (reel_Check.f k l0).bind fun t => if t = 0 then (if a2 < 1 then some ([], [], 1) else if a2 > 17179869184 then some ([], [], 1) else
  (reel_checkTurns.f k l1).bind fun u => if u = 0 then some ((reel_Cut.all a2 l1 (reel_Cut.strs l0)).1, (reel_Cut.all a2 l1 (reel_Cut.strs l0)).2, 0) else some ([], [], u)) else some ([], [], t)
theorem reel_Cut.mono : ∀ a0 a1 a2 k, LeO (reel_Cut.f k a0 a1 a2) (reel_Cut.f (k + 1) a0 a1 a2) := by
 intro a0 a1 a2 k
 unfold reel_Cut.f
 repeat' first
   | (with_reducible exact reel_Check.mono _ _)
   | (with_reducible exact reel_checkTurns.mono _ _)
   | (with_reducible exact LeO.refl _)
   | (with_reducible refine LeO.ite ?_ ?_)
   | (with_reducible refine LeO.bind ?_ (fun _ => ?_))

theorem piece_len (least : Int) (st : Int × List S36 × List S36) (e : Int) : (reel_Cut.piece least st e).2.1.length + (reel_Cut.piece least st e).2.2.length = st.2.1.length + st.2.2.length + 1 := by
 unfold reel_Cut.piece; split <;> simp <;> omega
theorem at_len (least : Int) (x : S36) (st : Int × List S36 × List S36) (t : Int) : (reel_Cut.at least x st t).2.1.length + (reel_Cut.at least x st t).2.2.length ≤ st.2.1.length + st.2.2.length + 1 := by
 unfold reel_Cut.at; split
 ·exact Nat.le_of_eq (piece_len ..)
 ·omega
theorem fold_len (least : Int) (x : S36) (turns : List Int) : ∀ st : Int × List S36 × List S36, (turns.foldl (reel_Cut.at least x) st).2.1.length + (turns.foldl (reel_Cut.at least x) st).2.2.length ≤ st.2.1.length + st.2.2.length + turns.length := by
 induction turns with
 | nil => intro st; simp
 | cons t r ih => intro st; have h1 := ih (reel_Cut.at least x st t); have h2 := at_len least x st t; simp only [List.foldl_cons, List.length_cons]; omega
theorem one_len (least : Int) (turns : List Int) (p : List S36 × List S36) (x : S36) : (reel_Cut.one least turns p x).1.length + (reel_Cut.one least turns p x).2.length ≤ p.1.length + p.2.length + turns.length + 1 := by
 unfold reel_Cut.one
 have h1 := piece_len least (turns.foldl (reel_Cut.at least x) (x.f0, p.1, p.2)) x.f1
 have h2 := fold_len least x turns (x.f0, p.1, p.2)
 simp only at h2
 omega
theorem all_len (least : Int) (turns : List Int) (xs : List S36) : (reel_Cut.all least turns xs).1.length + (reel_Cut.all least turns xs).2.length ≤ xs.length * (turns.length + 1) := by
 unfold reel_Cut.all
 have : ∀ (xs : List S36) (p : List S36 × List S36), (xs.foldl (reel_Cut.one least turns) p).1.length + (xs.foldl (reel_Cut.one least turns) p).2.length ≤ p.1.length + p.2.length + xs.length * (turns.length + 1) := by
  intro xs
  induction xs with
  | nil => intro p; simp
  | cons x r ih =>
   intro p
   have h1 := ih (reel_Cut.one least turns p x); have h2 := one_len least turns p x
   simp only [List.foldl_cons, List.length_cons, Nat.add_mul, Nat.one_mul] at *
   omega
 simpa using this xs ([], [])
theorem all_snoc (least : Int) (turns : List Int) (xs : List S36) (x : S36) : reel_Cut.all least turns (xs ++ [x]) = reel_Cut.one least turns (reel_Cut.all least turns xs) x := by simp [reel_Cut.all]
theorem strs_len : ∀ (n : Nat) (l : List S44), l.length ≤ n → (reel_Cut.strs l).length ≤ l.length
 | _, [], _ => by simp [reel_Cut.strs]
 | n + 1, x :: r, h => by
  rw [reel_Cut.strs]
  split
  ·have := strs_len n r (by simp at h; omega); simp; omega
  ·have h1 := (List.dropWhile_suffix (l := r) (reel_Cut.same x)).length_le
   have := strs_len n (r.dropWhile (reel_Cut.same x)) (by simp at h; omega)
   simp; omega

theorem piece_any (e a least : Int) (n₀ ga gl gr gs : Nat) (v1 v2 : Value) (rs ss : List S36) (W : World)
  (hP : PieceIn W n₀ ga gl gr gs v1 v2 a least rs ss) (hn : n₀ ≤ W.heap.size) (hlen : rs.length + ss.length < 1000000000) :
  Calls Try.prog 30 #[.int .i64 e, .pointer (some ⟨ga, 0, none⟩), .pointer (some ⟨gl, 0, none⟩), .pointer (some ⟨gr, 0, none⟩), .pointer (some ⟨gs, 0, none⟩)] W fun en W' =>
   en = .returned (.tuple #[]) ∧ PieceOut W n₀ ga gl gr gs v1 v2 least (reel_Cut.piece least (a, rs, ss) e) W' := by
 unfold reel_Cut.piece
 split
 ·exact piece_yes e a least n₀ ga gl gr gs v1 v2 rs ss W hP hn (by omega) (by simpa using ‹_›)
 ·exact piece_no e a least n₀ ga gl gr gs v1 v2 rs ss W hP hn (by omega) (by simp; simp at *; omega)

theorem strs_stops (n : Nat) (hn : 1 ≤ n) (Bl : Nat) (w W0 : World) (A : Option Addr) (c : Nat) (ls : List S44)
  (hr : Kd.C k44 w A ls.length ls) (hc : ls.length ≤ c) (hlen : ls.length ≤ 512) (hW0 : Below w.heap.size w W0) (hBl : Boxed W0 Bl 22 (.slice A ls.length c)) :
  SeqStopsK Fence.wide n Try.prog 37 #[.pointer (some ⟨Bl, 0, none⟩)] (fun x : S36 => #[Value.agg #[.int .i64 x.f0, .int .i64 x.f1]]) (KpL w.heap.size Bl) (fun ys => ys = reel_Cut.strs ls) (fun pre => pre <+: reel_Cut.strs ls) (reel_Cut.strs ls).length W0 :=
 fun l J Jx W hW hJ _ hY h0 => strs_in n hn l Bl w A c ls J Jx hr hc hlen hY W (hW0.trans (hW.mono hW0.size)) hJ ((hW.block Bl (blk_lt hBl)).trans hBl) h0

structure CutIn (n₀ gt gl gr gs gL : Nat) (tv lv : Value) (least : Int) (v1 v2 : Value) (rs ss : List S36) (W : World) : Prop where
 bt : Boxed W gt 31 tv
 bl : Boxed W gl 3 (.int .i64 least)
 br : Boxed W gr 25 v1
 bs : Boxed W gs 25 v2
 r1 : Kd.R k36 36 W n₀ (fun k => some k ≠ v2.ownBlock) v1 rs
 r2 : Kd.R k36 36 W n₀ (fun k => some k ≠ v1.ownBlock) v2 ss
 bL : Boxed W gL 22 lv
def CutI (n₀ gt gl gr gs gL : Nat) (tv lv : Value) (least : Int) (turns : List Int) (pre : List S36) (W : World) : Prop :=
 ∃ v1 v2, CutIn n₀ gt gl gr gs gL tv lv least v1 v2 (reel_Cut.all least turns pre).1 (reel_Cut.all least turns pre).2 W

theorem R_others {W w1 : World} {n₀ : Nat} {ok : Nat → Prop} {v : Value} {xs : List S36} (h : Kd.R k36 36 W n₀ ok v xs) {row : Option Nat} (hg : W.grownBy w1 row) (hr : ∀ r, row = some r → ∃ o : Obj, W.heap[r]? = some o ∧ o.isCells = false) : Kd.R k36 36 w1 n₀ ok v xs :=
 Kd.R_mono (Kd.R_move (Kd.R_bound h) (fun k hk => hg.block k hk.2.2.1 (fun e => by
  obtain ⟨o, ho, hc⟩ := hr k e.symm
  obtain ⟨_, _, _, q, _, cells, hcell⟩ := hk
  rw [hcell] at ho; cases ho; cases hc))) (fun k hk => hk.1)
theorem box_others {W w1 : World} {B t : Nat} {v : Value} (h : Boxed W B t v) {row : Option Nat} (hg : W.grownBy w1 row) (hr : ∀ r, row = some r → ∃ o : Obj, W.heap[r]? = some o ∧ o.isCells = false) : Boxed w1 B t v :=
 h.kept hg (fun e => by obtain ⟨o, ho, hc⟩ := hr B e.symm; rw [show W.heap[B]? = _ from h] at ho; cases ho; cases hc)
theorem CutI_own (B n₀ gt gl gr gs gL : Nat) (tv lv : Value) (least : Int) (turns : List Int) : OwnFrom B (CutI n₀ gt gl gr gs gL tv lv least turns) := by
 rintro pre W W' row ⟨v1, v2, h⟩ hg hr0
 have hr := fun r e => (hr0 r e).2
 exact ⟨v1, v2, box_others h.bt hg hr, box_others h.bl hg hr, box_others h.br hg hr, box_others h.bs hg hr, R_others h.r1 hg hr, R_others h.r2 hg hr, box_others h.bL hg hr⟩
theorem box_same {W : World} {B t : Nat} {v u : Value} (h : Boxed W B t v) (h' : Boxed W B t u) : v = u := by
 have := h.symm.trans h'
 simpa using this

theorem KpL_t {n₀ Bl : Nat} {A B C : World} (h : KpL n₀ Bl A B) (k : KpL n₀ Bl B C) : KpL n₀ Bl A C := ⟨h.1.trans k.1, fun o ho => k.2 o (h.2 o ho)⟩
theorem KpL_b {n₀ Bl : Nat} {w : World} (hn : n₀ ≤ w.heap.size) (hB : Bl < w.heap.size) : ∀ (W : World) (l : Nat) (o o' : Obj), w.heap.size ≤ l → W.heap[l]? = some o → o.isCells = false → o.isWalk = false → KpL n₀ Bl W (W.putObj l o') :=
 fun W l o o' hl ho hc hw => ⟨belowK_b hn W l o o' hl ho hc hw, fun u hu => (World.putObj_heap_other (by omega)).trans hu⟩
def CutAx (n₀ gr gs Bx : Nat) (x : S36) (W : World) : Prop :=
 ∃ v1 v2, n₀ ≤ Bx ∧ W.heap[Bx]? = some (.cells #[.int .i64 x.f0, .int .i64 x.f1] 36 (0, 0)) ∧ Boxed W gr 25 v1 ∧ Boxed W gs 25 v2 ∧ some Bx ≠ v1.ownBlock ∧ some Bx ≠ v2.ownBlock
theorem CutAx_own {n₀ gr gs Bx : Nat} {x : S36} {W w1 : World} (h : CutAx n₀ gr gs Bx x W) {row : Option Nat} (hg : W.grownBy w1 row) (hr : ∀ r, row = some r → ∃ o : Obj, W.heap[r]? = some o ∧ o.isCells = false) : CutAx n₀ gr gs Bx x w1 := by
 obtain ⟨v1, v2, h0, h1, h2, h3, h4, h5⟩ := h
 refine ⟨v1, v2, h0, (hg.block Bx (blk_lt h1) (fun e => ?_)).trans h1, box_others h2 hg hr, box_others h3 hg hr, h4, h5⟩
 obtain ⟨o, ho, hc⟩ := hr Bx e.symm
 rw [h1] at ho; cases ho; cases hc
theorem CutI_alloc {n₀ gt gl gr gs gL : Nat} {tv lv : Value} {least : Int} {turns : List Int} {pre : List S36} {W : World} (h : CutI n₀ gt gl gr gs gL tv lv least turns pre W) (o : Obj) : CutI n₀ gt gl gr gs gL tv lv least turns pre (W.alloc o) :=
 CutI_own 0 n₀ gt gl gr gs gL tv lv least turns pre W _ none h (World.grownBy_alloc W o none) (fun r e => by cases e)
theorem check_len {k : Nat} {l : List S44} (h : reel_Check.f k l = some 0) : l.length ≤ 512 := by
 unfold reel_Check.f at h
 split at h
 ·simp at h
 ·omega
theorem turns_len {k : Nat} {l : List Int} (h : reel_checkTurns.f k l = some 0) : l.length ≤ 512 := by
 unfold reel_checkTurns.f at h
 split at h
 ·simp at h
 ·omega
structure CutRound (W wr : World) (n₀ gt gl gr gs gL ga Bx : Nat) (tv lv : Value) (least : Int) (x : S36) (st : Int × List S36 × List S36) (v1 v2 : Value) : Prop where
 p : PieceIn wr n₀ ga gl gr gs v1 v2 st.1 least st.2.1 st.2.2
 bt : Boxed wr gt 31 tv
 bL : Boxed wr gL 22 lv
 bx : wr.heap[Bx]? = some (.cells #[.int .i64 x.f0, .int .i64 x.f1] 36 (0, 0))
 n1 : some Bx ≠ v1.ownBlock
 n2 : some Bx ≠ v2.ownBlock
 below : Below n₀ W wr
 others : KeepsOthers W wr
theorem CutRound.step {W wr w' : World} {n₀ gt gl gr gs gL ga Bx : Nat} {tv lv : Value} {least : Int} {x : S36} {st st' : Int × List S36 × List S36} {v1 v2 : Value}
  (h : CutRound W wr n₀ gt gl gr gs gL ga Bx tv lv least x st v1 v2) (ho : PieceOut wr n₀ ga gl gr gs v1 v2 least st' w') : ∃ v1' v2', CutRound W w' n₀ gt gl gr gs gL ga Bx tv lv least x st' v1' v2' := by
 obtain ⟨v1', v2', hp, hk⟩ := ho
 have new : ∀ (u u' : Value), (u'.ownBlock = u.ownBlock ∨ ∃ b, u'.ownBlock = some b ∧ wr.heap.size ≤ b) → some Bx ≠ u.ownBlock → some Bx ≠ u'.ownBlock := fun u u' ha hu => by
  rcases ha with ha | ⟨b, hb, hle⟩
  ·rw [ha]; exact hu
  ·rw [hb]; intro e; cases e; have := blk_lt h.bx; omega
 refine ⟨v1', v2', hp, ?_, ?_, ?_, new _ _ hk.at1 h.n1, new _ _ hk.at2 h.n2, h.below.trans hk.below, h.others.trans hk.others⟩
 ·exact (hk.far gt (blk_lt h.bt) (blk_ne h.bt h.p.ba (by decide)) (blk_ne h.bt h.p.br (by decide)) (blk_ne h.bt h.p.bs (by decide)) (box_ne_row h.bt (by decide) h.p.r1) (box_ne_row h.bt (by decide) h.p.r2)).trans h.bt
 ·exact (hk.far gL (blk_lt h.bL) (blk_ne h.bL h.p.ba (by decide)) (blk_ne h.bL h.p.br (by decide)) (blk_ne h.bL h.p.bs (by decide)) (box_ne_row h.bL (by decide) h.p.r1) (box_ne_row h.bL (by decide) h.p.r2)).trans h.bL
 ·exact (hk.far Bx (blk_lt h.bx) (blk_ne h.bx h.p.ba (by decide)) (blk_ne h.bx h.p.br (by decide)) (blk_ne h.bx h.p.bs (by decide)) h.n1 h.n2).trans h.bx
theorem CutRound.start {W : World} {n₀ gt gl gr gs gL Bx : Nat} {tv lv : Value} {least : Int} {x : S36} {rs ss : List S36} {v1 v2 : Value} (h : CutIn n₀ gt gl gr gs gL tv lv least v1 v2 rs ss W) (hx : CutAx n₀ gr gs Bx x W)
  (hn : n₀ ≤ W.heap.size) (h1 : n₀ ≤ gl) (h2 : n₀ ≤ gr) (h3 : n₀ ≤ gs) (h4 : gr ≠ gs) : CutRound W (W.alloc (.cells #[.int .i64 x.f0] 3)) n₀ gt gl gr gs gL W.heap.size Bx tv lv least x (x.f0, rs, ss) v1 v2 := by
 obtain ⟨u1, u2, _, hbx, g1, g2, hn1, hn2⟩ := hx
 cases box_same h.br g1
 cases box_same h.bs g2
 exact ⟨⟨Boxed.new W 3 _, h.bl.alloc _, h.br.alloc _, h.bs.alloc _, Kd.R_alloc h.r1 _, Kd.R_alloc h.r2 _, hn, h1, h2, h3, fun e => by have := blk_lt h.bl; omega, h4⟩, h.bt.alloc _, h.bL.alloc _, (Below.heap_alloc W _ _ (blk_lt hbx)).trans hbx, hn1, hn2, (Below.refl _ W).alloc hn _, KeepsOthers.alloc _ _⟩
theorem CutRound.done {W wr : World} {n₀ gt gl gr gs gL ga Bx : Nat} {tv lv : Value} {least : Int} {x : S36} {st : Int × List S36 × List S36} {v1 v2 : Value} {turns : List Int} {pre : List S36}
  (h : CutRound W wr n₀ gt gl gr gs gL ga Bx tv lv least x st v1 v2) (hst : st.2 = reel_Cut.all least turns pre) : CutI n₀ gt gl gr gs gL tv lv least turns pre wr :=
 ⟨v1, v2, h.bt, h.p.bl, h.p.br, h.p.bs, by rw [← hst]; exact h.p.r1, by rw [← hst]; exact h.p.r2, h.bL⟩
theorem take_snoc_fold (least : Int) (x : S36) (st : Int × List S36 × List S36) (turns : List Int) (k : Nat) (h : k < turns.length) : (turns.take (k + 1)).foldl (reel_Cut.at least x) st = reel_Cut.at least x ((turns.take k).foldl (reel_Cut.at least x) st) (rd turns k) := by
 rw [List.take_succ_eq_append_getElem h, List.foldl_append]
 simp [rd, List.getD_eq_getElem?_getD, List.getElem?_eq_getElem h]

set_option maxRecDepth 100000 in
set_option maxHeartbeats 16000000 in
theorem cut_main (k : Nat) (A0 : Option Addr) (c0 : Nat) (l0 : List S44) (A1 : Option Addr) (c1 : Nat) (l1 : List Int) (a2 : Int) (w : World) (hr0 : Kd.C k44 w A0 l0.length l0) (hc0 : l0.length ≤ c0) (hr1 : Kd.C (Kd.int .i64) w A1 l1.length l1) (hc1 : l1.length ≤ c1)
  (ht : reel_Check.f k l0 = some 0) (hu : reel_checkTurns.f k l1 = some 0) (h1 : 1 ≤ a2) (h2 : a2 ≤ 17179869184) :
  Calls Try.prog 18 #[.slice A0 l0.length c0, .slice A1 l1.length c1, .int .i64 a2] w fun e w' => ∃ v0_ v1_ : Value, e = .returned (.tuple #[v0_, v1_, .int .i64 0]) ∧ Kd.R k36 36 w' w.heap.size (fun k_ => some k_ ≠ (v1_ : Value).ownBlock) v0_ (reel_Cut.all a2 l1 (reel_Cut.strs l0)).1 ∧ Kd.R k36 36 w' w.heap.size (fun k_ => some k_ ≠ (v0_ : Value).ownBlock) v1_ (reel_Cut.all a2 l1 (reel_Cut.strs l0)).2 ∧ Below w.heap.size w w' := by
 have HR0 := Aside0.mk hr0
 have HR1 := Aside0.mk hr1
 have HC0 := Aside0.mk hc0
 have HC1 := Aside0.mk hc1
 have HT := Aside0.mk ht
 have HU := Aside0.mk hu
 have hb1 : decide (a2 < 1) = false := by simpa using h1
 have hb2 : decide (17179869184 < a2) = false := by simpa using h2
 clear hr0 hr1 hc0 hc1 ht hu
 have hmf : ∀ (fn : Fn) (first cap : Array Value) (w : World), (Instr.makeFunc fn first cap).run Try.prog w = .ok (.func fn first cap) w := fun _ _ _ _ => rfl
 refine (callsIn_wide (n := 10)).1 ?_
 refine callsIn_of_wp_marks Try.func18 rfl trivial ?_ rfl
 simp only [Try.ntmps18, List.size_toArray, List.length_cons, List.length_nil, Nat.reduceAdd, Nat.reduceSub, Array.replicate_succ, Array.replicate_zero, List.push_toArray, List.append_toArray, List.nil_append, List.cons_append]
 have bt := Aside0.mk ((Boxed.new w 31 (.slice A1 l1.length c1)).alloc (.cells #[.int .i64 a2] 3))
 have bl0 := Boxed.new (w.alloc (.cells #[.slice A1 l1.length c1] 31)) 3 (.int .i64 a2)
 rw [World.size_alloc] at bl0
 have bl := Aside0.mk bl0
 clear bl0
 have HB := Aside0.mk (((Below.refl w.heap.size w).alloc (Nat.le_refl _) (.cells #[.slice A1 l1.length c1] 31)).alloc (by simp) (.cells #[.int .i64 a2] 3))
 gi_wp2_with (first | (refine ⟨trivial, ?_⟩; gi_at_call 15; (refine (callsIn_wide.2 (reel_Check.calls k _ _ l0 0 _ ?side1 HC0.out HT.out)).mono ?_; (case side1 => exact Kd.C_below HR0.out HB.out); rintro e w1 ⟨rfl, hbw⟩; have HB1 := Aside0.mk (below_then HB.out HB.out.size hbw); have bt1 := Aside0.mk ((hbw.block _ (blk_lt bt.out)).trans bt.out); have bl1 := Aside0.mk ((hbw.block _ (blk_lt bl.out)).trans bl.out); have hcl := (show Boxed w1 (w.heap.size + 1) 3 (.int .i64 a2) from bl1.out).cell; have hct := (show Boxed w1 w.heap.size 31 (.slice A1 l1.length c1) from bt1.out).cell; clear hbw)) | (refine ⟨trivial, ?_⟩; gi_at_call 28; refine (callsIn_wide.2 (reel_checkTurns.calls k _ _ l1 0 _ ?side2 HC1.out HU.out)).mono ?_; (case side2 => exact Kd.C_below HR1.out HB1.out); rintro e w2 ⟨rfl, hd⟩; have HB2 := Aside0.mk (below_then HB1.out HB1.out.size hd.below); have bt2 := Aside0.mk (show Boxed w2 w.heap.size 31 (.slice A1 l1.length c1) from (hd.below.block _ (blk_lt bt1.out)).trans bt1.out); have bl2 := Aside0.mk (show Boxed w2 (w.heap.size + 1) 3 (.int .i64 a2) from (hd.below.block _ (blk_lt bl1.out)).trans bl1.out); clear hd) | (refine ⟨trivial, ?_⟩; gi_at_call 29; (refine (stretches_in 9 _ _ _ _).mono ?_; rintro e w3 ⟨rfl, rfl⟩)))

 have hg := HB2.out.size
 have bR := ((Boxed.new w2 25 (.slice none 0 0)).alloc (.cells #[.slice none 0 0] 25)).alloc (.cells #[.slice A0 l0.length c0] 22)
 have bS := (Boxed.new (w2.alloc (.cells #[.slice none 0 0] 25)) 25 (.slice none 0 0)).alloc (.cells #[.slice A0 l0.length c0] 22)
 have bL := Boxed.new ((w2.alloc (.cells #[.slice none 0 0] 25)).alloc (.cells #[.slice none 0 0] 25)) 22 (.slice A0 l0.length c0)
 simp only [World.size_alloc] at bS bL
 have bT := ((Boxed.alloc bt2.out (.cells #[.slice none 0 0] 25)).alloc (.cells #[.slice none 0 0] 25)).alloc (.cells #[.slice A0 l0.length c0] 22)
 have bE := ((Boxed.alloc bl2.out (.cells #[.slice none 0 0] 25)).alloc (.cells #[.slice none 0 0] 25)).alloc (.cells #[.slice A0 l0.length c0] 22)
 have HB3 : Below w.heap.size w (((w2.alloc (.cells #[.slice none 0 0] 25)).alloc (.cells #[.slice none 0 0] 25)).alloc (.cells #[.slice A0 l0.length c0] 22)) := ((HB2.out.alloc hg _).alloc (by simp; omega) _).alloc (by simp; omega) _
 have hsz : (((w2.alloc (.cells #[.slice none 0 0] 25)).alloc (.cells #[.slice none 0 0] 25)).alloc (.cells #[.slice A0 l0.length c0] 22)).heap.size = w2.heap.size + 3 := by simp
 have hl512 : l0.length ≤ 512 := check_len HT.out
 have ht512 : l1.length ≤ 512 := turns_len HU.out
 obtain ⟨W0, hW0⟩ : ∃ W0, ((w2.alloc (.cells #[.slice none 0 0] 25)).alloc (.cells #[.slice none 0 0] 25)).alloc (.cells #[.slice A0 l0.length c0] 22) = W0 := ⟨_, rfl⟩
 rw [hW0] at bR bS bL bT bE HB3 hsz ⊢
 clear hW0
 refine wpIn_rangeFunc_ownH rfl (by decide) (gf := 37) (lb := #[.pointer (some ⟨w2.heap.size + 1 + 1, 0, none⟩)]) rfl trivial (enters_of Try.func37 (by kernel_rfl) rfl)
  (strs_stops 9 (by decide) (w2.heap.size + 1 + 1) w W0 A0 c0 l0 HR0.out HC0.out hl512 HB3 bL) KpL_t (KpL_b (by omega) (by omega)) (Below.refl _ _) (fun _ => rfl)
  (fun pre W => CutI w.heap.size w.heap.size (w.heap.size + 1) w2.heap.size (w2.heap.size + 1) (w2.heap.size + 1 + 1) (.slice A1 l1.length c1) (.slice A0 l0.length c0) a2 l1 pre W ∧ Below w.heap.size w W)
  (fun _ _ _ => False)
  (OwnFrom.and (CutI_own _ _ _ _ _ _ _ _ _ _ _) (ownFrom_below (Nat.le_refl _) (by omega)))
  (fun _ _ _ _ _ hs _ _ => hs)
  ⟨⟨_, _, bT, bE, bR, bS, Kd.R_nil _ _ _ _ _, Kd.R_nil _ _ _ _ _, bL⟩, HB3⟩
  (fun x a' W => ∃ Bx, CutAx w.heap.size w2.heap.size (w2.heap.size + 1) Bx x W ∧ a' = { tmps := #[.slice A0 l0.length c0, .slice A1 l1.length c1, .int .i64 a2, undef, .pointer (some ⟨w.heap.size, 0, none⟩), .pointer (some ⟨w.heap.size + 1, 0, none⟩), .slice none 0 0, .slice none 0 0, .int .i64 0, .int .i64 0, .int .i64 0, .pointer (some ⟨w2.heap.size, 0, none⟩), .pointer (some ⟨w2.heap.size + 1, 0, none⟩), .pointer (some ⟨Bx, 0, none⟩), undef, undef, undef, undef, .slice A0 l0.length c0, .int .i64 0, .int .i64 0, .bool false, undef, .int .i64 a2, .bool false, .bool false, .int .i64 a2, .bool false, .bool false, .slice A1 l1.length c1, .int .i64 0, .int .i64 0, .bool false, undef, .slice A0 l0.length c0, .func (.func 37) #[] #[.pointer (some ⟨w2.heap.size + 1 + 1, 0, none⟩)], .agg #[.int .i64 x.f0, .int .i64 x.f1], undef, undef, undef, undef, undef, undef, undef, undef, undef, undef, undef, undef, undef, undef, undef, undef, undef, undef, undef, undef, undef, undef, undef, undef, undef, undef, undef, undef, undef], defers := [] })
  (fun x a' _ X Y row hs hg hr => by obtain ⟨Bx, h1, h2⟩ := hs; exact ⟨Bx, CutAx_own h1 hg (fun r e => (hr r e).2), h2⟩)
  ?assign ?body ?done ?stop
 case assign =>
  rintro l pre x W K ⟨⟨v1, v2, hI⟩, hB1⟩ hK
  gi_wp2
  refine hK _ _ ((KeepsOthers.alloc _ _).from _) ⟨(Below.refl _ W).alloc hB1.size _, fun o ho => (Below.heap_alloc W _ _ (blk_lt ho)).trans ho⟩ ⟨CutI_alloc ⟨v1, v2, hI⟩ _, hB1.alloc hB1.size _⟩ ⟨W.heap.size, ⟨v1, v2, hB1.size, World.alloc_heap_new W _, hI.br.alloc _, hI.bs.alloc _, fun e => ?_, fun e => ?_⟩, rfl⟩
  ·have := Kd.R_lt hI.r1 _ e.symm; omega
  ·have := Kd.R_lt hI.r2 _ e.symm; omega
 case body =>
  rintro l pre x a' W hl ⟨r, hr⟩ ⟨⟨v1, v2, hI⟩, hB1⟩ ⟨Bx, hAx, rfl⟩ hlt
  have hR := Aside0.mk (CutRound.start hI hAx hB1.size (by omega) (by omega) (by omega) (by omega))
  obtain ⟨u1, u2, hn, hX, hg1, hg2, hne1, hne2⟩ := hAx
  have hx0 : W.cell? ⟨Bx, 0, none⟩ = some (.int .i64 x.f0) := (blk_cell hX 0).trans rfl
  have hct3 := hR.out.bt.cell
  have HI := Aside0.mk hI
  have HW := Aside0.mk hB1
  have HLEN := Aside0.mk (show (reel_Cut.all a2 l1 pre).1.length + (reel_Cut.all a2 l1 pre).2.length ≤ 512 * 513 from by
   have h0 := all_len a2 l1 pre
   have h4 := strs_len _ l0 (Nat.le_refl _)
   have h5 : pre.length * (l1.length + 1) ≤ 512 * 513 := Nat.mul_le_mul (by omega) (by omega)
   omega)
  clear hg1 hg2 hne1 hne2 hX hI hB1 hr hl
  gi_wp2
  gi_loopw [42] (fun i wr => ∃ (kk : Nat), i = .int .i64 kk ∧ Aside0 (kk ≤ l1.length) ∧ Aside0 (∃ v1 v2, CutRound W wr w.heap.size w.heap.size (w.heap.size + 1) w2.heap.size (w2.heap.size + 1) (w2.heap.size + 1 + 1) W.heap.size Bx (.slice A1 l1.length c1) (.slice A0 l0.length c0) a2 x ((l1.take kk).foldl (reel_Cut.at a2 x) (x.f0, (reel_Cut.all a2 l1 pre).1, (reel_Cut.all a2 l1 pre).2)) v1 v2))
   (fun i _ => l1.length - (intOf i).toNat)
  case atStart => exact ⟨0, rfl, ⟨Nat.zero_le _⟩, ⟨_, _, hR.out⟩⟩
  case round =>
   obtain ⟨kk, rfl, HK, HC⟩ := hrel
   obtain ⟨v1, v2, hc⟩ := HC.out
   have hBw := Aside0.mk (HW.out.trans hc.below)
   have hx0 : wr.cell? ⟨Bx, 0, none⟩ = some (.int .i64 x.f0) := (blk_cell hc.bx 0).trans rfl
   have hx1 : wr.cell? ⟨Bx, 1, none⟩ = some (.int .i64 x.f1) := (blk_cell hc.bx 1).trans rfl
   have HCC := Aside0.mk hc
   have hlen := fold_len a2 x (l1.take kk) (x.f0, (reel_Cut.all a2 l1 pre).1, (reel_Cut.all a2 l1 pre).2)
   have HL2 := Aside0.mk hlen
   clear hc hlen
   by_cases hk : kk < l1.length
   ·have hk1 : (kk : Int) < (l1.length : Int) := by omega
    obtain ⟨ad, rfl, hz⟩ := Kd.at_int (Kd.C_below HR1.out hBw.out) (kk : Int) (by omega) hk1
    simp only [Int.toNat_natCast] at hz
    have hts := Aside0.mk (take_snoc_fold a2 x (x.f0, (reel_Cut.all a2 l1 pre).1, (reel_Cut.all a2 l1 pre).2) l1 kk hk)
    have hd0 : decide (kk < l1.length) = true := by simpa using hk
    by_cases h5 : x.f0 < rd l1 kk ∧ rd l1 kk < x.f1
    ·have hd1 : decide (x.f0 < rd l1 kk) = true := by simpa using h5.1
     have hd2 : decide (rd l1 kk < x.f1) = true := by simpa using h5.2
     have H5 := Aside0.mk h5
     clear h5
     gi_wp2_with (refine ⟨trivial, ?_⟩; gi_at_call 30; refine (CallsIn.inRound l (callsIn_wide.2 (piece_any (rd l1 kk) _ a2 w.heap.size W.heap.size (w.heap.size + 1) w2.heap.size (w2.heap.size + 1) v1 v2 _ _ _ HCC.out.p ?s1 ?s2))).mono ?_; (case s1 => exact hBw.out.size); (case s2 => have h6 := HL2.out; have h7 := HLEN.out; simp only [List.length_take] at h6; omega); rintro e w5 ⟨rfl, hout⟩; have HOUT := Aside0.mk (HCC.out.step hout); clear hout)
     go_roundw
     case rel =>
      refine ⟨kk + 1, by go_num, ⟨by omega⟩, ⟨?_⟩⟩
      rw [hts.out, reel_Cut.at, if_pos H5.out]
      exact HOUT.out
     case measure => simp [intOf]; omega
    ·have HN : Aside0 (reel_Cut.at a2 x ((l1.take kk).foldl (reel_Cut.at a2 x) (x.f0, (reel_Cut.all a2 l1 pre).1, (reel_Cut.all a2 l1 pre).2)) (rd l1 kk) = (l1.take kk).foldl (reel_Cut.at a2 x) (x.f0, (reel_Cut.all a2 l1 pre).1, (reel_Cut.all a2 l1 pre).2)) := ⟨by rw [reel_Cut.at, if_neg h5]⟩
     by_cases h6 : x.f0 < rd l1 kk
     ·have hd1 : decide (x.f0 < rd l1 kk) = true := by simpa using h6
      have hd2 : decide (rd l1 kk < x.f1) = false := by simp; omega
      clear h5 h6
      gi_wp2
      go_roundw
      case rel =>
       refine ⟨kk + 1, by go_num, ⟨by omega⟩, ⟨?_⟩⟩
       rw [hts.out, HN.out]
       exact ⟨v1, v2, HCC.out⟩
      case measure => simp [intOf]; omega
     ·have hd1 : decide (x.f0 < rd l1 kk) = false := by simpa using h6
      clear h5 h6
      gi_wp2
      go_roundw
      case rel =>
       refine ⟨kk + 1, by go_num, ⟨by omega⟩, ⟨?_⟩⟩
       rw [hts.out, HN.out]
       exact ⟨v1, v2, HCC.out⟩
      case measure => simp [intOf]; omega
   ·have hd0 : decide (kk < l1.length) = false := by simpa using hk
    have HALL := Aside0.mk (show l1.take kk = l1 from List.take_of_length_le (by omega))
    gi_wp2_with (refine ⟨trivial, ?_⟩; gi_at_call 30; refine (CallsIn.inRound l (callsIn_wide.2 (piece_any x.f1 _ a2 w.heap.size W.heap.size (w.heap.size + 1) w2.heap.size (w2.heap.size + 1) v1 v2 _ _ _ HCC.out.p ?s1 ?s2))).mono ?_; (case s1 => exact hBw.out.size); (case s2 => have h6 := HL2.out; have h7 := HLEN.out; have h8 := HK.out; simp only [List.length_take] at h6; omega); rintro e w5 ⟨rfl, hout⟩; have HOUT := Aside0.mk (HCC.out.step hout); clear hout)
    obtain ⟨z1, z2, hz⟩ := HOUT.out
    rw [HALL.out] at hz
    refine ⟨hz.others.from _, ⟨hz.below, fun o ho => ?_⟩, hz.done (by rw [all_snoc]; rfl), HW.out.trans hz.below⟩
    rw [show W.heap[w2.heap.size + 1 + 1]? = _ from HI.out.bL] at ho
    cases ho
    exact hz.bL
 case done =>
  rintro D ys W hD rfl ⟨⟨v1, v2, hI⟩, hB1⟩ hK
  have c1 := hI.br.cell
  have c2 := hI.bs.cell
  have HI := Aside0.mk hI
  have HB1 := Aside0.mk hB1
  have HK := Aside0.mk hK
  clear hI hB1 hK
  gi_wp2
  gi_quiet (fail)
  rename_i nq
  gi_wp2
  have hKd : (W.drewN nq).heap[D]? = some (.deferred (some [])) := HK.out
  refine ⟨by simp, .inl ⟨_, _, rfl, run_takeDeferred hKd, ?_⟩⟩
  exact ⟨_, results_tmp3 rfl _ _ _, v1, v2, rfl, R_others (Kd.R_drewN HI.out.r1 nq) (grownBy_putObj' _ D _) (fun r e => by cases e; exact ⟨_, hKd, rfl⟩), R_others (Kd.R_drewN HI.out.r2 nq) (grownBy_putObj' _ D _) (fun r e => by cases e; exact ⟨_, hKd, rfl⟩), (pw_below_drewN HB1.out nq).trans (belowK_b (w := w) (Nat.le_refl _) _ D _ _ (by omega) hKd rfl rfl)⟩
 case stop =>
  rintro D c pre W _ _ h _
  exact h.elim

set_option maxRecDepth 100000 in
set_option maxHeartbeats 8000000 in
theorem reel_Cut.calls (k : Nat) (A0 : Option Addr) (c0 : Nat) (l0 : List S44) (A1 : Option Addr) (c1 : Nat) (l1 : List Int) (a2 : Int) (r1 : List S36) (r2 : List S36) (r3 : Int) (w : World) (hr0 : Kd.C k44 w A0 l0.length l0) (hc0 : l0.length ≤ c0) (hr1 : Kd.C (Kd.int .i64) w A1 l1.length l1) (hc1 : l1.length ≤ c1) (h : reel_Cut.f k l0 l1 a2 = some (r1, r2, r3)) :
  Calls Try.prog 18 #[.slice A0 l0.length c0, .slice A1 l1.length c1, .int .i64 a2] w fun e w' => ∃ v0_ v1_ : Value, e = .returned (.tuple #[v0_, v1_, .int .i64 r3]) ∧ Kd.R k36 36 w' w.heap.size (fun k_ => some k_ ≠ (v1_ : Value).ownBlock) v0_ r1 ∧ Kd.R k36 36 w' w.heap.size (fun k_ => some k_ ≠ (v0_ : Value).ownBlock) v1_ r2 ∧ Below w.heap.size w w' := by
 unfold reel_Cut.f at h
 obtain ⟨t, ht, h⟩ := Option.bind_eq_some_iff.mp h
 have bl0 := Boxed.new (w.alloc (.cells #[.slice A1 l1.length c1] 31)) 3 (.int .i64 a2)
 have bt0 := (Boxed.new w 31 (.slice A1 l1.length c1)).alloc (.cells #[.int .i64 a2] 3)
 rw [World.size_alloc] at bl0
 have HB := Aside0.mk (((Below.refl w.heap.size w).alloc (Nat.le_refl _) (.cells #[.slice A1 l1.length c1] 31)).alloc (by simp) (.cells #[.int .i64 a2] 3))
 have bt := Aside0.mk bt0
 have bl := Aside0.mk bl0
 have HR0 := Aside0.mk hr0
 have HR1 := Aside0.mk hr1
 have HC0 := Aside0.mk hc0
 have HC1 := Aside0.mk hc1
 have HT := Aside0.mk ht
 by_cases e1 : t = 0
 ·subst e1
  rw [if_pos rfl] at h
  by_cases e2 : a2 < 1
  ·rw [if_pos e2] at h
   simp only [Option.some.injEq, Prod.mk.injEq] at h
   obtain ⟨rfl, rfl, rfl⟩ := h
   have hb1 : decide (a2 < 1) = true := by simpa using e2
   clear e2 bt0 bl0 hr0 hr1 hc0 hc1 ht
   go_enter Try.func18, Try.ntmps18
   go_wp2_with (go_at_call 15; refine (reel_Check.calls k _ _ l0 0 _ ?side1 HC0.out HT.out).mono ?_; (case side1 => exact Kd.C_below HR0.out HB.out); rintro e w1 ⟨rfl, hbw⟩; have HB1 := Aside0.mk (below_then HB.out HB.out.size hbw); have hcl := (show Boxed w1 (w.heap.size + 1) 3 (.int .i64 a2) from (hbw.block _ (blk_lt bl.out)).trans bl.out).cell; clear hbw)
   go_ret3
   exact ⟨_, _, rfl, Kd.R_nil _ _ _ _ _, Kd.R_nil _ _ _ _ _, HB1.out⟩
  rw [if_neg e2] at h
  have hb1 : decide (a2 < 1) = false := by simpa using e2
  by_cases e3 : a2 > 17179869184
  ·rw [if_pos e3] at h
   simp only [Option.some.injEq, Prod.mk.injEq] at h
   obtain ⟨rfl, rfl, rfl⟩ := h
   have hb2 : decide (17179869184 < a2) = true := by simpa using e3
   clear e2 e3 bt0 bl0 hr0 hr1 hc0 hc1 ht
   go_enter Try.func18, Try.ntmps18
   go_wp2_with (go_at_call 15; refine (reel_Check.calls k _ _ l0 0 _ ?side1 HC0.out HT.out).mono ?_; (case side1 => exact Kd.C_below HR0.out HB.out); rintro e w1 ⟨rfl, hbw⟩; have HB1 := Aside0.mk (below_then HB.out HB.out.size hbw); have hcl := (show Boxed w1 (w.heap.size + 1) 3 (.int .i64 a2) from (hbw.block _ (blk_lt bl.out)).trans bl.out).cell; clear hbw)
   go_ret3
   exact ⟨_, _, rfl, Kd.R_nil _ _ _ _ _, Kd.R_nil _ _ _ _ _, HB1.out⟩
  rw [if_neg e3] at h
  have hb2 : decide (17179869184 < a2) = false := by simp; omega
  obtain ⟨u, hu, h⟩ := Option.bind_eq_some_iff.mp h
  by_cases e4 : u = 0
  ·subst e4
   rw [if_pos rfl] at h
   simp only [Option.some.injEq, Prod.mk.injEq] at h
   obtain ⟨rfl, rfl, rfl⟩ := h
   exact cut_main k A0 c0 l0 A1 c1 l1 a2 w hr0 hc0 hr1 hc1 ht hu (by omega) (by omega)
  ·rw [if_neg e4] at h
   simp only [Option.some.injEq, Prod.mk.injEq] at h
   obtain ⟨rfl, rfl, rfl⟩ := h
   have HU := Aside0.mk hu
   have hb3 : (u != 0) = true := by simpa using e4
   clear e2 e3 e4 bt0 bl0 hr0 hr1 hc0 hc1 ht hu
   go_enter Try.func18, Try.ntmps18
   go_wp2_with (first | (go_at_call 15; refine (reel_Check.calls k _ _ l0 0 _ ?side1 HC0.out HT.out).mono ?_; (case side1 => exact Kd.C_below HR0.out HB.out); rintro e w1 ⟨rfl, hbw⟩; have HB1 := Aside0.mk (below_then HB.out HB.out.size hbw); have hcl := (show Boxed w1 (w.heap.size + 1) 3 (.int .i64 a2) from (hbw.block _ (blk_lt bl.out)).trans bl.out).cell; have hct := (show Boxed w1 w.heap.size 31 (.slice A1 l1.length c1) from (hbw.block _ (blk_lt bt.out)).trans bt.out).cell; clear hbw) | (go_at_call 28; refine (reel_checkTurns.calls k _ _ l1 _ _ ?side2 HC1.out HU.out).mono ?_; (case side2 => exact Kd.C_below HR1.out HB1.out); rintro e w2 ⟨rfl, hd⟩; have HB2 := Aside0.mk (below_then HB1.out HB1.out.size hd.below); clear hd))
   go_ret3
   exact ⟨_, _, rfl, Kd.R_nil _ _ _ _ _, Kd.R_nil _ _ _ _ _, HB2.out⟩
 ·rw [if_neg e1] at h
  simp only [Option.some.injEq, Prod.mk.injEq] at h
  obtain ⟨rfl, rfl, rfl⟩ := h
  have hb3 : (t != 0) = true := by simpa using e1
  clear e1 bt0 bl0 hr0 hr1 hc0 hc1 ht
  go_enter Try.func18, Try.ntmps18
  go_wp2_with (go_at_call 15; refine (reel_Check.calls k _ _ l0 _ _ ?side1 HC0.out HT.out).mono ?_; (case side1 => exact Kd.C_below HR0.out HB.out); rintro e w1 ⟨rfl, hbw⟩; have HB1 := Aside0.mk (below_then HB.out HB.out.size hbw); clear hbw)
  go_ret3
  exact ⟨_, _, rfl, Kd.R_nil _ _ _ _ _, Kd.R_nil _ _ _ _ _, HB1.out⟩


end Go.Proofs.Ytfdfpdiemeomiaa.G

namespace Go.Proofs.Ytfdfpdiemeomiaa.G
open Go.RowKit Go.Proofs.YtfdfpdiemeomiaaW.PrintWords Go.Proofs.YtfdfpdiemeomiaaW.PrintLast Go.Proofs.YtfdfpdiemeomiaaW.PrintMore
attribute [local go_sem] max2_int min2_int max_two min_two max_three min_three max_four min_four   -- for this text's walks alone
set_option linter.unusedVariables false
set_option linter.unusedSimpArgs false

def cutSec (a b : Int) (x : S44) : S44 := ⟨wrap64 (mx x.f0 a - a), wrap64 (mn x.f1 b - a), x.f2, x.f3, x.f4⟩
def partsOf (a b : Int) (l : List S44) : List S44 := (l.map (cutSec a b)).filter (fun x => decide (x.f0 < x.f1))
def endOf (l : List S44) : Int := if l.length = 0 then 0 else (rd_T44 l ((l.length - 1 : Nat) : Int)).f1
theorem partsOf_len (a b : Int) (l : List S44) : (partsOf a b l).length ≤ l.length := by
 unfold partsOf; exact Nat.le_trans (List.length_filter_le _ _) (by simp)
theorem partsOf_snoc (a b : Int) (l : List S44) (k : Nat) (h : k < l.length) : partsOf a b (l.take (k + 1)) = partsOf a b (l.take k) ++ (if (cutSec a b (rd_T44 l k)).f0 < (cutSec a b (rd_T44 l k)).f1 then [cutSec a b (rd_T44 l k)] else []) := by
 have e : l[k] = rd_T44 l k := by simp [rd_T44, List.getD_eq_getElem?_getD, List.getElem?_eq_getElem h]
 unfold partsOf
 rw [List.take_succ_eq_append_getElem h, List.map_append, List.filter_append, e]
 congr 1
 by_cases c : (cutSec a b (rd_T44 l k)).f0 < (cutSec a b (rd_T44 l k)).f1 <;> simp [c]

structure PartsIn (n₀ gs : Nat) (a b : Int) (v : Value) (xs : List S44) (w wr : World) : Prop where
 r : Kd.R k44 44 wr n₀ (fun _ => True) v xs
 bs : wr.heap[gs]? = some (.cells #[.int .i64 a, .int .i64 b] 36 (0, 0))
 below : Below n₀ w wr

theorem PartsIn.drop {n₀ gs : Nat} {a b : Int} {v : Value} {xs : List S44} {w wr : World} (h : PartsIn n₀ gs a b v xs w wr) (hn : n₀ ≤ wr.heap.size) (o : Obj) : PartsIn n₀ gs a b v xs w (wr.alloc o) :=
 ⟨Kd.R_alloc h.r o, (Below.heap_alloc wr o _ (blk_lt h.bs)).trans h.bs, h.below.alloc hn o⟩
theorem PartsIn.drew {n₀ gs : Nat} {a b : Int} {v : Value} {xs : List S44} {w wr : World} (h : PartsIn n₀ gs a b v xs w wr) : PartsIn n₀ gs a b v xs w wr.drew :=
 ⟨Kd.R_drew h.r, h.bs, below_drew h.below⟩
theorem PartsIn.grow {n₀ gs : Nat} {a b : Int} {v v' : Value} {xs xs' : List S44} {w W w1 : World} (h : PartsIn n₀ gs a b v xs w W) (hr : Kd.R k44 44 w1 n₀ (fun _ => True) v' xs') (hb : Below n₀ W w1) (hg : W.grownBy w1 v.ownBlock) : PartsIn n₀ gs a b v' xs' w w1 :=
 ⟨hr, (hg.block gs (blk_lt h.bs) (Kd.R_ne h.r h.bs (by decide))).trans h.bs, h.below.trans hb⟩

structure PartsX (n₀ gs gb : Nat) (a b : Int) (v : Value) (xs : List S44) (cells : Array Value) (w W : World) : Prop where
 r : Kd.R k44 44 W n₀ (fun k => True ∧ k ≠ gb) v xs
 bs : W.heap[gs]? = some (.cells #[.int .i64 a, .int .i64 b] 36 (0, 0))
 bx : W.heap[gb]? = some (.cells cells 44 (0, 0))
 below : Below n₀ w W
 ne : gs ≠ gb
 hgb : n₀ ≤ gb
theorem PartsX.start {n₀ gs : Nat} {a b : Int} {v : Value} {xs : List S44} {w wr : World} (h : PartsIn n₀ gs a b v xs w wr) (hn : n₀ ≤ wr.heap.size) (cells : Array Value) : PartsX n₀ gs wr.heap.size a b v xs cells w (wr.alloc (.cells cells 44)) :=
 ⟨Kd.R_alloc (Kd.R_elderB h.r _ (Nat.le_refl _)) _, (Below.heap_alloc wr _ _ (blk_lt h.bs)).trans h.bs, World.alloc_heap_new wr _, h.below.alloc hn _, fun e => by have := blk_lt h.bs; omega, hn⟩
theorem PartsX.drew {n₀ gs gb : Nat} {a b : Int} {v : Value} {xs : List S44} {cells : Array Value} {w W : World} (h : PartsX n₀ gs gb a b v xs cells w W) : PartsX n₀ gs gb a b v xs cells w W.drew :=
 ⟨Kd.R_drew h.r, h.bs, h.bx, below_drew h.below, h.ne, h.hgb⟩
theorem PartsX.set {n₀ gs gb : Nat} {a b : Int} {v : Value} {xs : List S44} {cells : Array Value} {w W : World} (h : PartsX n₀ gs gb a b v xs cells w W) (i : Nat) (u : Value) : PartsX n₀ gs gb a b v xs (cells.setIfInBounds i u) w (W.setCell ⟨gb, i, none⟩ u) :=
 ⟨Kd.R_far h.r (fun k hk => hk.2) u, blk_far h.bs h.ne u, blk_set h.bx i u, h.below.setCell (p := ⟨gb, i, none⟩) h.hgb u, h.ne, h.hgb⟩
theorem PartsX.toIn {n₀ gs gb : Nat} {a b : Int} {v : Value} {xs : List S44} {cells : Array Value} {w W : World} (h : PartsX n₀ gs gb a b v xs cells w W) : PartsIn n₀ gs a b v xs w W :=
 ⟨Kd.R_mono h.r (fun _ _ => trivial), h.bs, h.below⟩

end Go.Proofs.Ytfdfpdiemeomiaa.G

namespace Go.Proofs.Ytfdfpdiemeomiaa.G
open Go.RowKit Go.Proofs.YtfdfpdiemeomiaaW.PrintWords Go.Proofs.YtfdfpdiemeomiaaW.PrintLast Go.Proofs.YtfdfpdiemeomiaaW.PrintMore
attribute [local go_sem] max2_int min2_int max_two min_two max_three min_three max_four min_four   -- for this text's walks alone
set_option linter.unusedVariables false
set_option linter.unusedSimpArgs false

set_option maxRecDepth 100000 in
set_option maxHeartbeats 8000000 in
theorem reel_parts_main (k : Nat) (A0 : Option Addr) (c0 : Nat) (l0 : List S44) (a b : Int) (w : World) (hr0 : Kd.C k44 w A0 l0.length l0) (hc0 : l0.length ≤ c0)
  (ht : reel_Check.f k l0 = some 0) (h1 : 0 ≤ a) (h2 : a ≤ b) (h4 : b ≤ endOf l0) (hlen : l0.length ≤ 512) :
  Calls Try.prog 20 #[.slice A0 l0.length c0, .agg #[.int .i64 a, .int .i64 b]] w fun e w' => ∃ v0_ : Value, e = .returned (.tuple #[v0_, .int .i64 0]) ∧ Kd.R k44 44 w' w.heap.size (fun _ => True) v0_ (partsOf a b l0) ∧ Below w.heap.size w w' := by
 have HR0 := Aside0.mk hr0
 have HC0 := Aside0.mk hc0
 have HT := Aside0.mk ht
 have b1 : decide (a < 0) = false := by simpa using h1
 have b2 : decide (b < a) = false := by simpa using h2
 have b4 : decide (endOf l0 < b) = false := by simpa using h4
 have hbx := Aside0.mk (World.alloc_heap_new w (.cells #[.int .i64 a, .int .i64 b] 36))
 have HB := Aside0.mk ((Below.refl w.heap.size w).alloc (Nat.le_refl _) (.cells #[.int .i64 a, .int .i64 b] 36))
 clear hr0 hc0 ht h1 h2 h4
 by_cases hl : l0.length = 0
 ·have hl0 : l0.length ≤ 0 := by omega
  have hd : decide (0 < l0.length) = false := by rw [decide_eq_false_iff_not]; omega
  have b5 : decide (0 < b) = false := by simp only [endOf, if_pos hl] at b4; exact b4
  clear hl
  go_enter Try.func20, Try.ntmps20
  go_wp2_with (first | (go_at_call 15; refine (reel_Check.calls k _ _ l0 0 _ ?side1 HC0.out HT.out).mono ?_; (case side1 => exact Kd.C_below HR0.out HB.out); rintro e w1 ⟨rfl, hbw⟩; have HB1 := Aside0.mk (below_then HB.out HB.out.size hbw); have hb1 := Aside0.mk ((hbw.block _ (blk_lt hbx.out)).trans hbx.out); have hx0 := (blk_cell hb1.out 0); have hx1 := (blk_cell hb1.out 1); clear hbw))
  have hy0 : w1.cell? ⟨w.heap.size, 0, none⟩ = some (.int .i64 a) := hx0
  have hy1 : w1.cell? ⟨w.heap.size, 1, none⟩ = some (.int .i64 b) := hx1
  clear hx0 hx1
  go_loopw [8, 44] (fun v i wr => v = .slice none 0 0 ∧ i = .int .i64 0 ∧ Aside0 (Below w.heap.size w wr)) (fun _ _ _ => 0)
  case atStart => exact ⟨rfl, rfl, HB1⟩
  case round =>
   obtain ⟨rfl, rfl, HW⟩ := hrel
   have HE := Aside0.mk (show partsOf a b l0 = [] by have : l0 = [] := List.eq_nil_of_length_eq_zero (by omega); subst this; rfl)
   go_wp2
   go_ret2
   exact ⟨_, rfl, by rw [HE.out]; exact Kd.R_nil _ _ _ _ _, HW.out⟩
 ·have hd : decide (0 < l0.length) = true := by rw [decide_eq_true_iff]; omega
  have b5 : decide ((rd_T44 l0 (l0.length - 1 : Nat)).f1 < b) = false := by simp only [endOf, if_neg hl] at b4; exact b4
  have hl1 : 1 ≤ l0.length := by omega
  have hl2 : l0.length - 1 < l0.length := by omega
  clear hl
  go_enter Try.func20, Try.ntmps20
  go_wp2_with (first | (go_at_call 15; refine (reel_Check.calls k _ _ l0 0 _ ?side1 HC0.out HT.out).mono ?_; (case side1 => exact Kd.C_below HR0.out HB.out); rintro e w1 ⟨rfl, hbw⟩; have HB1 := Aside0.mk (below_then HB.out HB.out.size hbw); have hb1 := Aside0.mk ((hbw.block _ (blk_lt hbx.out)).trans hbx.out); have hx0 := (blk_cell hb1.out 0); have hx1 := (blk_cell hb1.out 1); clear hbw; obtain ⟨ad, rfl, hz0, hz1, hz2, hz3, hz4⟩ := at_T44 (Kd.C_below HR0.out HB1.out) ((l0.length - 1 : Nat) : Int) (by omega) (by omega); simp only [Int.toNat_natCast] at hz0 hz1 hz2 hz3 hz4))
  have hy0 : w1.cell? ⟨w.heap.size, 0, none⟩ = some (.int .i64 a) := hx0
  have hy1 : w1.cell? ⟨w.heap.size, 1, none⟩ = some (.int .i64 b) := hx1
  clear hx0 hx1
  have HP := Aside0.mk (show PartsIn w.heap.size w.heap.size a b (.slice none 0 0) (partsOf a b (l0.take 0)) w w1 from ⟨Kd.R_nil _ _ _ _ _, hb1.out, HB1.out⟩)
  clear hb1 HB1 hy0 hy1 hbx HB
  go_loopw [8, 44] (fun v i wr => ∃ kk : Nat, i = .int .i64 kk ∧ Aside0 (kk ≤ l0.length) ∧ Aside0 (PartsIn w.heap.size w.heap.size a b v (partsOf a b (l0.take kk)) w wr))
   (fun _ i _ => l0.length - (intOf i).toNat)
  case atStart => exact ⟨0, rfl, ⟨Nat.zero_le _⟩, HP⟩
  case round =>
   obtain ⟨kk, rfl, HK, HI⟩ := hrel
   by_cases hk : kk < l0.length
   ·have hk1 : (kk : Int) < (l0.length : Int) := by omega
    have hd0 : decide (kk < l0.length) = true := by simpa using hk
    obtain ⟨ad', e', hz0, hz1, hz2, hz3, hz4⟩ := at_T44 (Kd.C_below HR0.out HI.out.below) (kk : Int) (by omega) hk1
    cases e'
    simp only [Int.toNat_natCast] at hz0 hz1 hz2 hz3 hz4
    have hq0 : ∀ o, (wr.alloc o).cell? ⟨w.heap.size, 0, none⟩ = some (.int .i64 a) := fun o => blk_cell ((Below.heap_alloc wr o _ (blk_lt HI.out.bs)).trans HI.out.bs) 0
    have hq1 : ∀ o, (wr.alloc o).cell? ⟨w.heap.size, 1, none⟩ = some (.int .i64 b) := fun o => blk_cell ((Below.heap_alloc wr o _ (blk_lt HI.out.bs)).trans HI.out.bs) 1
    by_cases hc : (cutSec a b (rd_T44 l0 kk)).f0 < (cutSec a b (rd_T44 l0 kk)).f1
    ·have hcb : decide (wrap64 (mx (rd_T44 l0 kk).f0 a - a) < wrap64 (mn (rd_T44 l0 kk).f1 b - a)) = true := by simpa [cutSec] using hc
     have HC := Aside0.mk hc
     clear hc
     obtain ⟨j1, hj1⟩ : ∃ j, (if (rd_T44 l0 kk).f0 < a then a else (rd_T44 l0 kk).f0) = j := ⟨_, rfl⟩
     obtain ⟨j2, hj2⟩ : ∃ j, (if b < (rd_T44 l0 kk).f1 then b else (rd_T44 l0 kk).f1) = j := ⟨_, rfl⟩
     rw [show mx (rd_T44 l0 kk).f0 a = j1 from hj1, show mn (rd_T44 l0 kk).f1 b = j2 from hj2] at hcb
     have HJ := Aside0.mk (show cutSec a b (rd_T44 l0 kk) = ⟨wrap64 (j1 - a), wrap64 (j2 - a), (rd_T44 l0 kk).f2, (rd_T44 l0 kk).f3, (rd_T44 l0 kk).f4⟩ by rw [← hj1, ← hj2]; rfl)
     obtain ⟨A7, c7, e7⟩ := Kd.R_slice HI.out.r
     subst e7
     have HKK := Aside0.mk hk
     have hne := Aside0.mk (fun e : w.heap.size = wr.heap.size => by have := blk_lt HI.out.bs; omega)
     have HX := Aside0.mk (PartsX.start HI.out HI.out.below.size #[.int .i64 (rd_T44 l0 kk).f0, .int .i64 (rd_T44 l0 kk).f1, .int .i64 (rd_T44 l0 kk).f2, .int .i64 (rd_T44 l0 kk).f3, .int .i64 (rd_T44 l0 kk).f4])
     have hpl := partsOf_len a b (l0.take kk)
     have HPL := Aside0.mk (show (partsOf a b (l0.take kk)).length ≤ 512 by simp at hpl; omega)
     clear hpl
     have hsn := Aside0.mk (partsOf_snoc a b l0 kk hk)
     go_wp2
     clear hz0 hz1 hz2 hz3 hz4 hk hk1 hd0 hq0 hq1
     generalize hgb : wr.heap.size = gb at HX hne ⊢
     generalize wr.alloc _ = wz at HX ⊢
     have HNE := Aside0.mk HX.out.ne
     have HBZ := Aside0.mk HX.out.bx
     refine start_ (n := 20) (S := fun w' => w'.cell? ⟨gb, 1, none⟩ = some (.int .i64 (rd_T44 l0 kk).f1) ∧ w'.cell? ⟨w.heap.size, 0, none⟩ = some (.int .i64 a) ∧ w'.cell? ⟨w.heap.size, 1, none⟩ = some (.int .i64 b)) (ds := [19]) #[false, false, false, false, false, false, false, false, false, false, false, false, false, false, false, false, false, false, false, false] (by kernel_rfl) rfl rfl ⟨(blk_cell HBZ.out 1).trans rfl, (blk_cell HX.out.bs 0).trans rfl, (blk_cell HX.out.bs 1).trans rfl⟩ (fun hHeld => ?_)
     have hval2_ : wz.drew.cell? ⟨gb, 0, none⟩ = some (.int .i64 (rd_T44 l0 kk).f0) := (blk_cell HBZ.out 0).trans rfl
     generalize hwy : wz.drew = wy at hval2_ hHeld ⊢
     replace HX := Aside0.mk (hwy ▸ HX.out.drew)
     replace HBZ := Aside0.mk HX.out.bx
     clear hwy
     refine pure_ (i := 0) (N := some 48) (v := ?_) (a' := ?_) #[true, false, false, false, false, false, false, false, false, false, false, false, false, false, false, false, false, false, false, false] rfl rfl (by kernel_rfl) (fun _ _ _ h => h) (Or.inl ⟨by rfl, ?_⟩) ?_ ?_
     rotate_left
     ·intro w'
      go_simp
      with_reducible rfl
     rotate_left
     ·simp only [Act.put, List.setIfInBounds_toArray, List.set_cons_zero, List.set_cons_succ, i64_w, i32_w]
      rfl
     refine pure_ (i := 2) (N := some 50) (v := ?_) (a' := ?_) #[true, false, true, false, false, false, false, false, false, false, false, false, false, false, false, false, false, false, false, false] rfl rfl (by kernel_rfl) (fun _ _ _ h => h) (Or.inl ⟨by rfl, ?_⟩) ?_ ?_
     rotate_left
     ·intro w'
      go_simp
      with_reducible rfl
     rotate_left
     ·simp only [Act.put, List.setIfInBounds_toArray, List.set_cons_zero, List.set_cons_succ, i64_w, i32_w]
      rfl
     refine pure_ (i := 5) (N := some 53) (v := ?_) (a' := ?_) #[true, false, true, false, false, true, false, false, false, false, false, false, false, false, false, false, false, false, false, false] rfl rfl (by kernel_rfl) (fun _ _ _ h => h) (Or.inl ⟨by rfl, ?_⟩) ?_ ?_
     rotate_left
     ·intro w'
      go_simp
      with_reducible rfl
     rotate_left
     ·simp only [Act.put, List.setIfInBounds_toArray, List.set_cons_zero, List.set_cons_succ, i64_w, i32_w]
      rfl
     refine pure_ (i := 8) (N := some 56) (v := ?_) (a' := ?_) #[true, false, true, false, false, true, false, false, true, false, false, false, false, false, false, false, false, false, false, false] rfl rfl (by kernel_rfl) (fun _ _ _ h => h) (Or.inl ⟨by rfl, ?_⟩) ?_ ?_
     rotate_left
     ·intro w'
      go_simp
      with_reducible rfl
     rotate_left
     ·simp only [Act.put, List.setIfInBounds_toArray, List.set_cons_zero, List.set_cons_succ, i64_w, i32_w]
      rfl
     refine pure_ (i := 10) (N := some 58) (v := ?_) (a' := ?_) #[true, false, true, false, false, true, false, false, true, false, true, false, false, false, false, false, false, false, false, false] rfl rfl (by kernel_rfl) (fun _ _ _ h => h) (Or.inl ⟨by rfl, ?_⟩) ?_ ?_
     rotate_left
     ·intro w'
      go_simp
      with_reducible rfl
     rotate_left
     ·simp only [Act.put, List.setIfInBounds_toArray, List.set_cons_zero, List.set_cons_succ, i64_w, i32_w]
      rfl
     refine pure_ (i := 13) (N := some 61) (v := ?_) (a' := ?_) #[true, false, true, false, false, true, false, false, true, false, true, false, false, true, false, false, false, false, false, false] rfl rfl (by kernel_rfl) (fun _ _ _ h => h) (Or.inl ⟨by rfl, ?_⟩) ?_ ?_
     rotate_left
     ·intro w'
      go_simp
      with_reducible rfl
     rotate_left
     ·simp only [Act.put, List.setIfInBounds_toArray, List.set_cons_zero, List.set_cons_succ, i64_w, i32_w]
      rfl
     refine take_ (i := 3) (N := some 51) (v := ?_) (a' := ?_) #[true, false, true, true, false, true, false, false, true, false, true, false, false, true, false, false, false, false, false, false] rfl rfl (by kernel_rfl) (fun _ _ _ h => h) (Or.inl ⟨by rfl, ?_⟩) hHeld ?_ ?_
     rotate_left
     ·rintro w' ⟨s0, s1, s2⟩
      go_simp
      with_reducible rfl
     rotate_left
     ·simp only [Act.put, List.setIfInBounds_toArray, List.set_cons_zero, List.set_cons_succ, i64_w, i32_w]
      rfl
     refine take_ (i := 6) (N := some 54) (v := ?_) (a' := ?_) #[true, false, true, true, false, true, true, false, true, false, true, false, false, true, false, false, false, false, false, false] rfl rfl (by kernel_rfl) (fun _ _ _ h => h) (Or.inl ⟨by rfl, ?_⟩) hHeld ?_ ?_
     rotate_left
     ·rintro w' ⟨s0, s1, s2⟩
      go_simp
      with_reducible rfl
     rotate_left
     ·simp only [Act.put, List.setIfInBounds_toArray, List.set_cons_zero, List.set_cons_succ, i64_w, i32_w]
      rfl
     refine take_ (i := 9) (N := some 57) (v := ?_) (a' := ?_) #[true, false, true, true, false, true, true, false, true, true, true, false, false, true, false, false, false, false, false, false] rfl rfl (by kernel_rfl) (fun _ _ _ h => h) (Or.inl ⟨by rfl, ?_⟩) hHeld ?_ ?_
     rotate_left
     ·rintro w' ⟨s0, s1, s2⟩
      go_simp
      with_reducible rfl
     rotate_left
     ·simp only [Act.put, List.setIfInBounds_toArray, List.set_cons_zero, List.set_cons_succ, i64_w, i32_w]
      rfl
     refine take_ (i := 11) (N := some 59) (v := ?_) (a' := ?_) #[true, false, true, true, false, true, true, false, true, true, true, true, false, true, false, false, false, false, false, false] rfl rfl (by kernel_rfl) (fun _ _ _ h => h) (Or.inl ⟨by rfl, ?_⟩) hHeld ?_ ?_
     rotate_left
     ·rintro w' ⟨s0, s1, s2⟩
      go_simp
      with_reducible rfl
     rotate_left
     ·simp only [Act.put, List.setIfInBounds_toArray, List.set_cons_zero, List.set_cons_succ, i64_w, i32_w]
      rfl
     refine pure_ (i := 12) (N := some 60) (v := ?_) (a' := ?_) #[true, false, true, true, false, true, true, false, true, true, true, true, true, true, false, false, false, false, false, false] rfl rfl (by kernel_rfl) (fun _ _ _ h => h) (Or.inl ⟨by rfl, ?_⟩) ?_ ?_
     rotate_left
     ·intro w'
      go_simp
      with_reducible rfl
     rotate_left
     ·simp only [Act.put, List.setIfInBounds_toArray, List.set_cons_zero, List.set_cons_succ, i64_w, i32_w]
      rfl
     refine take_ (i := 14) (N := some 62) (v := ?_) (a' := ?_) #[true, false, true, true, false, true, true, false, true, true, true, true, true, true, true, false, false, false, false, false] rfl rfl (by kernel_rfl) (fun _ _ _ h => h) (Or.inl ⟨by rfl, ?_⟩) hHeld ?_ ?_
     rotate_left
     ·rintro w' ⟨s0, s1, s2⟩
      go_simp
      with_reducible rfl
     rotate_left
     ·simp only [Act.put, List.setIfInBounds_toArray, List.set_cons_zero, List.set_cons_succ, i64_w, i32_w]
      rfl
     refine pure_ (i := 15) (N := some 63) (v := ?_) (a' := ?_) #[true, false, true, true, false, true, true, false, true, true, true, true, true, true, true, true, false, false, false, false] rfl rfl (by kernel_rfl) (fun _ _ _ h => h) (Or.inl ⟨by rfl, ?_⟩) ?_ ?_
     rotate_left
     ·intro w'
      go_simp
      with_reducible rfl
     rotate_left
     ·simp only [Act.put, List.setIfInBounds_toArray, List.set_cons_zero, List.set_cons_succ, i64_w, i32_w]
      rfl
     refine one_ (i := 1) (N := some 49) #[true, true, true, true, false, true, true, false, true, true, true, true, true, true, true, true, false, false, false, false] rfl rfl (by kernel_rfl) (by decide) (fun K hK => ?_)
     refine value_ (w1 := ?_) (v := ?_) (by rfl) rfl ?_ ?_
     rotate_left 2
     ·go_simp
      constructor
      ·rfl
      ·rfl
     refine hK.out _ _ ⟨hHeld.1, hHeld.2.1, hHeld.2.2⟩ (fun hHeld => ?_)
     clear hK K
     refine norm_ (a' := ?_) ?_ ?_
     rotate_left
     ·show Act.put _ (some 49) _ = _
      simp only [Act.put, List.setIfInBounds_toArray, List.set_cons_zero, List.set_cons_succ, i64_w, i32_w]
      rfl
     refine pure_ (i := 4) (N := some 52) (v := ?_) (a' := ?_) #[true, true, true, true, true, true, true, false, true, true, true, true, true, true, true, true, false, false, false, false] rfl rfl (by kernel_rfl) (fun _ _ _ h => h) (Or.inl ⟨by rfl, ?_⟩) ?_ ?_
     rotate_left
     ·intro w'
      go_simp
      with_reducible rfl
     rotate_left
     ·simp only [Act.put, List.setIfInBounds_toArray, List.set_cons_zero, List.set_cons_succ, i64_w, i32_w]
      rfl
     refine pure_ (i := 7) (N := some 55) (v := ?_) (a' := ?_) #[true, true, true, true, true, true, true, true, true, true, true, true, true, true, true, true, false, false, false, false] rfl rfl (by kernel_rfl) (fun _ _ _ h => h) (Or.inl ⟨by rfl, ?_⟩) ?_ ?_
     rotate_left
     ·intro w'
      go_simp
      with_reducible rfl
     rotate_left
     ·simp only [Act.put, List.setIfInBounds_toArray, List.set_cons_zero, List.set_cons_succ, i64_w, i32_w]
      rfl
     refine pure_ (i := 16) (N := some 64) (v := ?_) (a' := ?_) #[true, true, true, true, true, true, true, true, true, true, true, true, true, true, true, true, true, false, false, false] rfl rfl (by kernel_rfl) (fun _ _ _ h => h) (Or.inl ⟨by rfl, ?_⟩) ?_ ?_
     rotate_left
     ·intro w'
      go_simp
      with_reducible rfl
     rotate_left
     ·simp only [Act.put, List.setIfInBounds_toArray, List.set_cons_zero, List.set_cons_succ, i64_w, i32_w]
      rfl
     refine one_ (i := 17) (N := none) #[true, true, true, true, true, true, true, true, true, true, true, true, true, true, true, true, true, true, false, false] rfl rfl (by kernel_rfl) (by decide) (fun K hK => ?_)
     have hs_ := (blk_cell HBZ.out 0)
     have hf_ := blk_frozen HBZ.out 0
     refine skip_ (w1 := ?_) (by rfl) rfl ?_ ?_
     rotate_left
     ·go_simp
      rfl
     refine hK.out _ _ ⟨((World.cell?_setCell_other _ _ _ _ (by simp)).trans hHeld.1), ((World.cell?_setCell_other _ _ _ _ (by intro e; cases e; exact HNE.out rfl)).trans hHeld.2.1), ((World.cell?_setCell_other _ _ _ _ (by intro e; cases e)).trans hHeld.2.2)⟩ (fun hHeld => ?_)
     clear hK K
     refine pure_ (i := 18) (N := some 65) (v := ?_) (a' := ?_) #[true, true, true, true, true, true, true, true, true, true, true, true, true, true, true, true, true, true, true, false] rfl rfl (by kernel_rfl) (fun _ _ _ h => h) (Or.inl ⟨by rfl, ?_⟩) ?_ ?_
     rotate_left
     ·intro w'
      go_simp
      with_reducible rfl
     rotate_left
     ·simp only [Act.put, List.setIfInBounds_toArray, List.set_cons_zero, List.set_cons_succ, i64_w, i32_w]
      rfl
     refine last_ (i := 19) (N := none) #[true, true, true, true, true, true, true, true, true, true, true, true, true, true, true, true, true, true, true, true] rfl rfl (by kernel_rfl) (by decide) (fun K hK => ?_)
     have hs_ := hHeld.1
     have hf_ : ∀ u, (wy.setCell ⟨gb, 0, none⟩ u).frozen? ⟨gb, 1, none⟩ = false := fun u => blk_frozen (blk_set HBZ.out 0 u) 1
     refine skip_ (w1 := ?_) (by rfl) rfl ?_ ?_
     rotate_left
     ·go_simp
      rfl
     refine hK.out _ _ ?_
     clear hK K
     refine done_ (by kernel_rfl) ?_
     have HX2 := Aside0.mk ((HX.out.set 0 (.int .i64 (wrap64 (j1 - a)))).set 1 (.int .i64 (wrap64 (j2 - a))))
     generalize hwq : (wy.setCell _ _).setCell _ _ = wq at HX2 ⊢
     have q0 : wq.cell? ⟨gb, 0, none⟩ = some (.int .i64 (wrap64 (j1 - a))) := (blk_cell HX2.out.bx 0).trans rfl
     have q1 : wq.cell? ⟨gb, 1, none⟩ = some (.int .i64 (wrap64 (j2 - a))) := (blk_cell HX2.out.bx 1).trans rfl
     have q2 : wq.cell? ⟨gb, 2, none⟩ = some (.int .i64 (rd_T44 l0 kk).f2) := (blk_cell HX2.out.bx 2).trans rfl
     have q3 : wq.cell? ⟨gb, 3, none⟩ = some (.int .i64 (rd_T44 l0 kk).f3) := (blk_cell HX2.out.bx 3).trans rfl
     have q4 : wq.cell? ⟨gb, 4, none⟩ = some (.int .i64 (rd_T44 l0 kk).f4) := (blk_cell HX2.out.bx 4).trans rfl
     have HI3 := Aside0.mk HX2.out.toIn
     clear HX HX2 HNE HBZ hne hwq hval2_ hHeld
     have hk := HKK.out
     go_wp2_with (at_builtin; refine Kd.R_append k44 (w0 := wq) w.heap.size rfl (.tmp 71) (.tmp 73) 22 44 (.agg #[.int .i64 0, .int .i64 0, .int .i64 0, .int .i64 0, .int .i64 0]) 40 rfl Try.underlying22 info44 (by decide) (by decide) (by decide) (.slice A7 (partsOf a b (l0.take kk)).length c7) (partsOf a b (l0.take kk)) ⟨wrap64 (j1 - a), wrap64 (j2 - a), (rd_T44 l0 kk).f2, (rd_T44 l0 kk).f3, (rd_T44 l0 kk).f4⟩ [.int .i64 (wrap64 (j1 - a)), .int .i64 (wrap64 (j2 - a)), .int .i64 (rd_T44 l0 kk).f2, .int .i64 (rd_T44 l0 kk).f3, .int .i64 (rd_T44 l0 kk).f4] (fun _ => True) (fun _ => False) rfl rfl (k44_mkM _ _ _ _) (fun _ h => h.elim) (fun _ _ => trivial) HI3.out.r (Below.refl _ _) HI3.out.below.size (by have := HPL.out; omega) ?_; intro v' w2 hr2 hb2 hg2 hat2; have HI2 := Aside0.mk (HI3.out.grow hr2 hb2 hg2); clear hr2 hb2 hg2 hat2)
     go_roundw
     case rel =>
      refine ⟨kk + 1, by go_num, ⟨by omega⟩, ⟨?_⟩⟩
      rw [hsn.out, if_pos HC.out, HJ.out]
      exact HI2.out
     case measure => simp [intOf]; omega
    ·have hcb : decide (wrap64 (mx (rd_T44 l0 kk).f0 a - a) < wrap64 (mn (rd_T44 l0 kk).f1 b - a)) = false := by simpa [cutSec] using hc
     have HC := Aside0.mk hc
     clear hc
     obtain ⟨j1, hj1⟩ : ∃ j, (if (rd_T44 l0 kk).f0 < a then a else (rd_T44 l0 kk).f0) = j := ⟨_, rfl⟩
     obtain ⟨j2, hj2⟩ : ∃ j, (if b < (rd_T44 l0 kk).f1 then b else (rd_T44 l0 kk).f1) = j := ⟨_, rfl⟩
     rw [show mx (rd_T44 l0 kk).f0 a = j1 from hj1, show mn (rd_T44 l0 kk).f1 b = j2 from hj2] at hcb
     have HKK := Aside0.mk hk
     have hne := Aside0.mk (fun e : w.heap.size = wr.heap.size => by have := blk_lt HI.out.bs; omega)
     have HX := Aside0.mk (PartsX.start HI.out HI.out.below.size #[.int .i64 (rd_T44 l0 kk).f0, .int .i64 (rd_T44 l0 kk).f1, .int .i64 (rd_T44 l0 kk).f2, .int .i64 (rd_T44 l0 kk).f3, .int .i64 (rd_T44 l0 kk).f4])
     have hsn := Aside0.mk (partsOf_snoc a b l0 kk hk)
     go_wp2
     clear hz0 hz1 hz2 hz3 hz4 hk hk1 hd0 hq0 hq1
     generalize hgb : wr.heap.size = gb at HX hne ⊢
     generalize wr.alloc _ = wz at HX ⊢
     have HNE := Aside0.mk HX.out.ne
     have HBZ := Aside0.mk HX.out.bx
     refine start_ (n := 20) (S := fun w' => w'.cell? ⟨gb, 1, none⟩ = some (.int .i64 (rd_T44 l0 kk).f1) ∧ w'.cell? ⟨w.heap.size, 0, none⟩ = some (.int .i64 a) ∧ w'.cell? ⟨w.heap.size, 1, none⟩ = some (.int .i64 b)) (ds := [19]) #[false, false, false, false, false, false, false, false, false, false, false, false, false, false, false, false, false, false, false, false] (by kernel_rfl) rfl rfl ⟨(blk_cell HBZ.out 1).trans rfl, (blk_cell HX.out.bs 0).trans rfl, (blk_cell HX.out.bs 1).trans rfl⟩ (fun hHeld => ?_)
     have hval2_ : wz.drew.cell? ⟨gb, 0, none⟩ = some (.int .i64 (rd_T44 l0 kk).f0) := (blk_cell HBZ.out 0).trans rfl
     generalize hwy : wz.drew = wy at hval2_ hHeld ⊢
     replace HX := Aside0.mk (hwy ▸ HX.out.drew)
     replace HBZ := Aside0.mk HX.out.bx
     clear hwy
     refine pure_ (i := 0) (N := some 48) (v := ?_) (a' := ?_) #[true, false, false, false, false, false, false, false, false, false, false, false, false, false, false, false, false, false, false, false] rfl rfl (by kernel_rfl) (fun _ _ _ h => h) (Or.inl ⟨by rfl, ?_⟩) ?_ ?_
     rotate_left
     ·intro w'
      go_simp
      with_reducible rfl
     rotate_left
     ·simp only [Act.put, List.setIfInBounds_toArray, List.set_cons_zero, List.set_cons_succ, i64_w, i32_w]
      rfl
     refine pure_ (i := 2) (N := some 50) (v := ?_) (a' := ?_) #[true, false, true, false, false, false, false, false, false, false, false, false, false, false, false, false, false, false, false, false] rfl rfl (by kernel_rfl) (fun _ _ _ h => h) (Or.inl ⟨by rfl, ?_⟩) ?_ ?_
     rotate_left
     ·intro w'
      go_simp
      with_reducible rfl
     rotate_left
     ·simp only [Act.put, List.setIfInBounds_toArray, List.set_cons_zero, List.set_cons_succ, i64_w, i32_w]
      rfl
     refine pure_ (i := 5) (N := some 53) (v := ?_) (a' := ?_) #[true, false, true, false, false, true, false, false, false, false, false, false, false, false, false, false, false, false, false, false] rfl rfl (by kernel_rfl) (fun _ _ _ h => h) (Or.inl ⟨by rfl, ?_⟩) ?_ ?_
     rotate_left
     ·intro w'
      go_simp
      with_reducible rfl
     rotate_left
     ·simp only [Act.put, List.setIfInBounds_toArray, List.set_cons_zero, List.set_cons_succ, i64_w, i32_w]
      rfl
     refine pure_ (i := 8) (N := some 56) (v := ?_) (a' := ?_) #[true, false, true, false, false, true, false, false, true, false, false, false, false, false, false, false, false, false, false, false] rfl rfl (by kernel_rfl) (fun _ _ _ h => h) (Or.inl ⟨by rfl, ?_⟩) ?_ ?_
     rotate_left
     ·intro w'
      go_simp
      with_reducible rfl
     rotate_left
     ·simp only [Act.put, List.setIfInBounds_toArray, List.set_cons_zero, List.set_cons_succ, i64_w, i32_w]
      rfl
     refine pure_ (i := 10) (N := some 58) (v := ?_) (a' := ?_) #[true, false, true, false, false, true, false, false, true, false, true, false, false, false, false, false, false, false, false, false] rfl rfl (by kernel_rfl) (fun _ _ _ h => h) (Or.inl ⟨by rfl, ?_⟩) ?_ ?_
     rotate_left
     ·intro w'
      go_simp
      with_reducible rfl
     rotate_left
     ·simp only [Act.put, List.setIfInBounds_toArray, List.set_cons_zero, List.set_cons_succ, i64_w, i32_w]
      rfl
     refine pure_ (i := 13) (N := some 61) (v := ?_) (a' := ?_) #[true, false, true, false, false, true, false, false, true, false, true, false, false, true, false, false, false, false, false, false] rfl rfl (by kernel_rfl) (fun _ _ _ h => h) (Or.inl ⟨by rfl, ?_⟩) ?_ ?_
     rotate_left
     ·intro w'
      go_simp
      with_reducible rfl
     rotate_left
     ·simp only [Act.put, List.setIfInBounds_toArray, List.set_cons_zero, List.set_cons_succ, i64_w, i32_w]
      rfl
     refine take_ (i := 3) (N := some 51) (v := ?_) (a' := ?_) #[true, false, true, true, false, true, false, false, true, false, true, false, false, true, false, false, false, false, false, false] rfl rfl (by kernel_rfl) (fun _ _ _ h => h) (Or.inl ⟨by rfl, ?_⟩) hHeld ?_ ?_
     rotate_left
     ·rintro w' ⟨s0, s1, s2⟩
      go_simp
      with_reducible rfl
     rotate_left
     ·simp only [Act.put, List.setIfInBounds_toArray, List.set_cons_zero, List.set_cons_succ, i64_w, i32_w]
      rfl
     refine take_ (i := 6) (N := some 54) (v := ?_) (a' := ?_) #[true, false, true, true, false, true, true, false, true, false, true, false, false, true, false, false, false, false, false, false] rfl rfl (by kernel_rfl) (fun _ _ _ h => h) (Or.inl ⟨by rfl, ?_⟩) hHeld ?_ ?_
     rotate_left
     ·rintro w' ⟨s0, s1, s2⟩
      go_simp
      with_reducible rfl
     rotate_left
     ·simp only [Act.put, List.setIfInBounds_toArray, List.set_cons_zero, List.set_cons_succ, i64_w, i32_w]
      rfl
     refine take_ (i := 9) (N := some 57) (v := ?_) (a' := ?_) #[true, false, true, true, false, true, true, false, true, true, true, false, false, true, false, false, false, false, false, false] rfl rfl (by kernel_rfl) (fun _ _ _ h => h) (Or.inl ⟨by rfl, ?_⟩) hHeld ?_ ?_
     rotate_left
     ·rintro w' ⟨s0, s1, s2⟩
      go_simp
      with_reducible rfl
     rotate_left
     ·simp only [Act.put, List.setIfInBounds_toArray, List.set_cons_zero, List.set_cons_succ, i64_w, i32_w]
      rfl
     refine take_ (i := 11) (N := some 59) (v := ?_) (a' := ?_) #[true, false, true, true, false, true, true, false, true, true, true, true, false, true, false, false, false, false, false, false] rfl rfl (by kernel_rfl) (fun _ _ _ h => h) (Or.inl ⟨by rfl, ?_⟩) hHeld ?_ ?_
     rotate_left
     ·rintro w' ⟨s0, s1, s2⟩
      go_simp
      with_reducible rfl
     rotate_left
     ·simp only [Act.put, List.setIfInBounds_toArray, List.set_cons_zero, List.set_cons_succ, i64_w, i32_w]
      rfl
     refine pure_ (i := 12) (N := some 60) (v := ?_) (a' := ?_) #[true, false, true, true, false, true, true, false, true, true, true, true, true, true, false, false, false, false, false, false] rfl rfl (by kernel_rfl) (fun _ _ _ h => h) (Or.inl ⟨by rfl, ?_⟩) ?_ ?_
     rotate_left
     ·intro w'
      go_simp
      with_reducible rfl
     rotate_left
     ·simp only [Act.put, List.setIfInBounds_toArray, List.set_cons_zero, List.set_cons_succ, i64_w, i32_w]
      rfl
     refine take_ (i := 14) (N := some 62) (v := ?_) (a' := ?_) #[true, false, true, true, false, true, true, false, true, true, true, true, true, true, true, false, false, false, false, false] rfl rfl (by kernel_rfl) (fun _ _ _ h => h) (Or.inl ⟨by rfl, ?_⟩) hHeld ?_ ?_
     rotate_left
     ·rintro w' ⟨s0, s1, s2⟩
      go_simp
      with_reducible rfl
     rotate_left
     ·simp only [Act.put, List.setIfInBounds_toArray, List.set_cons_zero, List.set_cons_succ, i64_w, i32_w]
      rfl
     refine pure_ (i := 15) (N := some 63) (v := ?_) (a' := ?_) #[true, false, true, true, false, true, true, false, true, true, true, true, true, true, true, true, false, false, false, false] rfl rfl (by kernel_rfl) (fun _ _ _ h => h) (Or.inl ⟨by rfl, ?_⟩) ?_ ?_
     rotate_left
     ·intro w'
      go_simp
      with_reducible rfl
     rotate_left
     ·simp only [Act.put, List.setIfInBounds_toArray, List.set_cons_zero, List.set_cons_succ, i64_w, i32_w]
      rfl
     refine one_ (i := 1) (N := some 49) #[true, true, true, true, false, true, true, false, true, true, true, true, true, true, true, true, false, false, false, false] rfl rfl (by kernel_rfl) (by decide) (fun K hK => ?_)
     refine value_ (w1 := ?_) (v := ?_) (by rfl) rfl ?_ ?_
     rotate_left 2
     ·go_simp
      constructor
      ·rfl
      ·rfl
     refine hK.out _ _ ⟨hHeld.1, hHeld.2.1, hHeld.2.2⟩ (fun hHeld => ?_)
     clear hK K
     refine norm_ (a' := ?_) ?_ ?_
     rotate_left
     ·show Act.put _ (some 49) _ = _
      simp only [Act.put, List.setIfInBounds_toArray, List.set_cons_zero, List.set_cons_succ, i64_w, i32_w]
      rfl
     refine pure_ (i := 4) (N := some 52) (v := ?_) (a' := ?_) #[true, true, true, true, true, true, true, false, true, true, true, true, true, true, true, true, false, false, false, false] rfl rfl (by kernel_rfl) (fun _ _ _ h => h) (Or.inl ⟨by rfl, ?_⟩) ?_ ?_
     rotate_left
     ·intro w'
      go_simp
      with_reducible rfl
     rotate_left
     ·simp only [Act.put, List.setIfInBounds_toArray, List.set_cons_zero, List.set_cons_succ, i64_w, i32_w]
      rfl
     refine pure_ (i := 7) (N := some 55) (v := ?_) (a' := ?_) #[true, true, true, true, true, true, true, true, true, true, true, true, true, true, true, true, false, false, false, false] rfl rfl (by kernel_rfl) (fun _ _ _ h => h) (Or.inl ⟨by rfl, ?_⟩) ?_ ?_
     rotate_left
     ·intro w'
      go_simp
      with_reducible rfl
     rotate_left
     ·simp only [Act.put, List.setIfInBounds_toArray, List.set_cons_zero, List.set_cons_succ, i64_w, i32_w]
      rfl
     refine pure_ (i := 16) (N := some 64) (v := ?_) (a' := ?_) #[true, true, true, true, true, true, true, true, true, true, true, true, true, true, true, true, true, false, false, false] rfl rfl (by kernel_rfl) (fun _ _ _ h => h) (Or.inl ⟨by rfl, ?_⟩) ?_ ?_
     rotate_left
     ·intro w'
      go_simp
      with_reducible rfl
     rotate_left
     ·simp only [Act.put, List.setIfInBounds_toArray, List.set_cons_zero, List.set_cons_succ, i64_w, i32_w]
      rfl
     refine one_ (i := 17) (N := none) #[true, true, true, true, true, true, true, true, true, true, true, true, true, true, true, true, true, true, false, false] rfl rfl (by kernel_rfl) (by decide) (fun K hK => ?_)
     have hs_ := (blk_cell HBZ.out 0)
     have hf_ := blk_frozen HBZ.out 0
     refine skip_ (w1 := ?_) (by rfl) rfl ?_ ?_
     rotate_left
     ·go_simp
      rfl
     refine hK.out _ _ ⟨((World.cell?_setCell_other _ _ _ _ (by simp)).trans hHeld.1), ((World.cell?_setCell_other _ _ _ _ (by intro e; cases e; exact HNE.out rfl)).trans hHeld.2.1), ((World.cell?_setCell_other _ _ _ _ (by intro e; cases e)).trans hHeld.2.2)⟩ (fun hHeld => ?_)
     clear hK K
     refine pure_ (i := 18) (N := some 65) (v := ?_) (a' := ?_) #[true, true, true, true, true, true, true, true, true, true, true, true, true, true, true, true, true, true, true, false] rfl rfl (by kernel_rfl) (fun _ _ _ h => h) (Or.inl ⟨by rfl, ?_⟩) ?_ ?_
     rotate_left
     ·intro w'
      go_simp
      with_reducible rfl
     rotate_left
     ·simp only [Act.put, List.setIfInBounds_toArray, List.set_cons_zero, List.set_cons_succ, i64_w, i32_w]
      rfl
     refine last_ (i := 19) (N := none) #[true, true, true, true, true, true, true, true, true, true, true, true, true, true, true, true, true, true, true, true] rfl rfl (by kernel_rfl) (by decide) (fun K hK => ?_)
     have hs_ := hHeld.1
     have hf_ : ∀ u, (wy.setCell ⟨gb, 0, none⟩ u).frozen? ⟨gb, 1, none⟩ = false := fun u => blk_frozen (blk_set HBZ.out 0 u) 1
     refine skip_ (w1 := ?_) (by rfl) rfl ?_ ?_
     rotate_left
     ·go_simp
      rfl
     refine hK.out _ _ ?_
     clear hK K
     refine done_ (by kernel_rfl) ?_
     have HX2 := Aside0.mk ((HX.out.set 0 (.int .i64 (wrap64 (j1 - a)))).set 1 (.int .i64 (wrap64 (j2 - a))))
     generalize hwq : (wy.setCell _ _).setCell _ _ = wq at HX2 ⊢
     have q0 : wq.cell? ⟨gb, 0, none⟩ = some (.int .i64 (wrap64 (j1 - a))) := (blk_cell HX2.out.bx 0).trans rfl
     have q1 : wq.cell? ⟨gb, 1, none⟩ = some (.int .i64 (wrap64 (j2 - a))) := (blk_cell HX2.out.bx 1).trans rfl
     have q2 : wq.cell? ⟨gb, 2, none⟩ = some (.int .i64 (rd_T44 l0 kk).f2) := (blk_cell HX2.out.bx 2).trans rfl
     have q3 : wq.cell? ⟨gb, 3, none⟩ = some (.int .i64 (rd_T44 l0 kk).f3) := (blk_cell HX2.out.bx 3).trans rfl
     have q4 : wq.cell? ⟨gb, 4, none⟩ = some (.int .i64 (rd_T44 l0 kk).f4) := (blk_cell HX2.out.bx 4).trans rfl
     have HI3 := Aside0.mk HX2.out.toIn
     clear HX HX2 HNE HBZ hne hwq hval2_ hHeld
     have hk := HKK.out
     go_wp2
     go_roundw
     case rel =>
      refine ⟨kk + 1, by go_num, ⟨by omega⟩, ⟨?_⟩⟩
      rw [hsn.out, if_neg (by have := HC.out; omega), List.append_nil]
      exact HI3.out
     case measure => simp [intOf]; omega
   ·have hd0 : decide (kk < l0.length) = false := by simpa using hk
    have HALL := Aside0.mk (show l0.take kk = l0 from List.take_of_length_le (by omega))
    go_wp2
    go_ret2
    exact ⟨_, rfl, by have := HI.out.r; rw [HALL.out] at this; exact this, HI.out.below⟩
theorem reel_len {k : Nat} {l : List S44} (h : reel_Check.f k l = some 0) : l.length ≤ 512 := by
 unfold reel_Check.f at h
 split at h
 ·simp at h
 ·omega
def reel_Parts.f (k : Nat) (l0 : List S44) (a : Int) (b : Int) : Option (List S44 × Int) :=
 (reel_Check.f k l0).bind fun t => if t = 0 then (if a < 0 ∨ a > b ∨ b > endOf l0 then some ([], 1) else some (partsOf a b l0, 0)) else some ([], t)
theorem reel_Parts.mono : ∀ a0 a1 a2 k, LeO (reel_Parts.f k a0 a1 a2) (reel_Parts.f (k + 1) a0 a1 a2) := by
 intro a0 a1 a2 k
 unfold reel_Parts.f
 repeat' first
   | (with_reducible exact reel_Check.mono _ _)
   | (with_reducible exact LeO.refl _)
   | (with_reducible refine LeO.ite ?_ ?_)
   | (with_reducible refine LeO.bind ?_ (fun _ => ?_))

set_option maxRecDepth 100000 in
set_option maxHeartbeats 8000000 in
theorem reel_Parts.calls (k : Nat) (A0 : Option Addr) (c0 : Nat) (l0 : List (S44)) (a : Int) (b : Int) (r1 : List (S44)) (r2 : Int) (w : World) (hr0 : Kd.C k44 w A0 l0.length l0) (hc0 : l0.length ≤ c0) (h : reel_Parts.f k l0 a b = some (r1, r2)) :
  Calls Try.prog 20 #[.slice A0 l0.length c0, .agg #[.int .i64 a, .int .i64 b]] w fun e w' => ∃ v0_ : Value, e = .returned (.tuple #[v0_, .int .i64 r2]) ∧ Kd.R k44 44 w' w.heap.size (fun _ => True) v0_ r1 ∧ Below w.heap.size w w' := by
 unfold reel_Parts.f at h
 obtain ⟨t, ht, h⟩ := Option.bind_eq_some_iff.mp h
 have HR0 := Aside0.mk hr0
 have HC0 := Aside0.mk hc0
 have HT := Aside0.mk ht
 have hbx := Aside0.mk (World.alloc_heap_new w (.cells #[.int .i64 a, .int .i64 b] 36))
 have HB := Aside0.mk ((Below.refl w.heap.size w).alloc (Nat.le_refl _) (.cells #[.int .i64 a, .int .i64 b] 36))
 by_cases e1 : t = 0
 ·subst e1
  rw [if_pos rfl] at h
  have hlen := reel_len ht
  by_cases g1 : a < 0
  ·rw [if_pos (.inl g1)] at h
   simp only [Option.some.injEq, Prod.mk.injEq] at h
   obtain ⟨rfl, rfl⟩ := h
   have b1 : decide (a < 0) = true := by simpa using g1
   by_cases hl : l0.length = 0
   ·have hl0 : l0.length ≤ 0 := by omega
    have hd : decide (0 < l0.length) = false := by rw [decide_eq_false_iff_not]; omega
    clear hr0 hc0 ht hl g1
    go_enter Try.func20, Try.ntmps20
    go_wp2_with (first | (go_at_call 15; refine (reel_Check.calls k _ _ l0 0 _ ?side1 HC0.out HT.out).mono ?_; (case side1 => exact Kd.C_below HR0.out HB.out); rintro e w1 ⟨rfl, hbw⟩; have HB1 := Aside0.mk (below_then HB.out HB.out.size hbw); have hb1 := Aside0.mk ((hbw.block _ (blk_lt hbx.out)).trans hbx.out); have hy0 := (show w1.cell? ⟨w.heap.size, 0, none⟩ = some (.int .i64 a) from blk_cell hb1.out 0); have hy1 := (show w1.cell? ⟨w.heap.size, 1, none⟩ = some (.int .i64 b) from blk_cell hb1.out 1); clear hbw))
    go_ret2
    exact ⟨_, rfl, Kd.R_nil _ _ _ _ _, HB1.out⟩
   ·have hd : decide (0 < l0.length) = true := by rw [decide_eq_true_iff]; omega
    have hl1 : 1 ≤ l0.length := by omega
    have hl2 : l0.length - 1 < l0.length := by omega
    clear hr0 hc0 ht hl g1
    go_enter Try.func20, Try.ntmps20
    go_wp2_with (first | (go_at_call 15; refine (reel_Check.calls k _ _ l0 0 _ ?side1 HC0.out HT.out).mono ?_; (case side1 => exact Kd.C_below HR0.out HB.out); rintro e w1 ⟨rfl, hbw⟩; have HB1 := Aside0.mk (below_then HB.out HB.out.size hbw); have hb1 := Aside0.mk ((hbw.block _ (blk_lt hbx.out)).trans hbx.out); have hy0 := (show w1.cell? ⟨w.heap.size, 0, none⟩ = some (.int .i64 a) from blk_cell hb1.out 0); have hy1 := (show w1.cell? ⟨w.heap.size, 1, none⟩ = some (.int .i64 b) from blk_cell hb1.out 1); clear hbw; obtain ⟨ad, rfl, hz0, hz1, hz2, hz3, hz4⟩ := at_T44 (Kd.C_below HR0.out HB1.out) ((l0.length - 1 : Nat) : Int) (by omega) (by omega); simp only [Int.toNat_natCast] at hz0 hz1 hz2 hz3 hz4))
    go_ret2
    exact ⟨_, rfl, Kd.R_nil _ _ _ _ _, HB1.out⟩
  have b1 : decide (a < 0) = false := by simpa using g1
  by_cases g2 : a > b
  ·rw [if_pos (.inr (.inl g2))] at h
   simp only [Option.some.injEq, Prod.mk.injEq] at h
   obtain ⟨rfl, rfl⟩ := h
   have b2 : decide (b < a) = true := by simpa using g2
   by_cases hl : l0.length = 0
   ·have hl0 : l0.length ≤ 0 := by omega
    have hd : decide (0 < l0.length) = false := by rw [decide_eq_false_iff_not]; omega
    clear hr0 hc0 ht hl g1 g2
    go_enter Try.func20, Try.ntmps20
    go_wp2_with (first | (go_at_call 15; refine (reel_Check.calls k _ _ l0 0 _ ?side1 HC0.out HT.out).mono ?_; (case side1 => exact Kd.C_below HR0.out HB.out); rintro e w1 ⟨rfl, hbw⟩; have HB1 := Aside0.mk (below_then HB.out HB.out.size hbw); have hb1 := Aside0.mk ((hbw.block _ (blk_lt hbx.out)).trans hbx.out); have hy0 := (show w1.cell? ⟨w.heap.size, 0, none⟩ = some (.int .i64 a) from blk_cell hb1.out 0); have hy1 := (show w1.cell? ⟨w.heap.size, 1, none⟩ = some (.int .i64 b) from blk_cell hb1.out 1); clear hbw))
    go_ret2
    exact ⟨_, rfl, Kd.R_nil _ _ _ _ _, HB1.out⟩
   ·have hd : decide (0 < l0.length) = true := by rw [decide_eq_true_iff]; omega
    have hl1 : 1 ≤ l0.length := by omega
    have hl2 : l0.length - 1 < l0.length := by omega
    clear hr0 hc0 ht hl g1 g2
    go_enter Try.func20, Try.ntmps20
    go_wp2_with (first | (go_at_call 15; refine (reel_Check.calls k _ _ l0 0 _ ?side1 HC0.out HT.out).mono ?_; (case side1 => exact Kd.C_below HR0.out HB.out); rintro e w1 ⟨rfl, hbw⟩; have HB1 := Aside0.mk (below_then HB.out HB.out.size hbw); have hb1 := Aside0.mk ((hbw.block _ (blk_lt hbx.out)).trans hbx.out); have hy0 := (show w1.cell? ⟨w.heap.size, 0, none⟩ = some (.int .i64 a) from blk_cell hb1.out 0); have hy1 := (show w1.cell? ⟨w.heap.size, 1, none⟩ = some (.int .i64 b) from blk_cell hb1.out 1); clear hbw; obtain ⟨ad, rfl, hz0, hz1, hz2, hz3, hz4⟩ := at_T44 (Kd.C_below HR0.out HB1.out) ((l0.length - 1 : Nat) : Int) (by omega) (by omega); simp only [Int.toNat_natCast] at hz0 hz1 hz2 hz3 hz4))
    go_ret2
    exact ⟨_, rfl, Kd.R_nil _ _ _ _ _, HB1.out⟩
  have b2 : decide (b < a) = false := by simpa using g2
  by_cases g4 : b > endOf l0
  ·rw [if_pos (.inr (.inr g4))] at h
   simp only [Option.some.injEq, Prod.mk.injEq] at h
   obtain ⟨rfl, rfl⟩ := h
   by_cases hl : l0.length = 0
   ·have hl0 : l0.length ≤ 0 := by omega
    have hd : decide (0 < l0.length) = false := by rw [decide_eq_false_iff_not]; omega
    have b5 : decide (0 < b) = true := by simp only [endOf, if_pos hl] at g4; simpa using g4
    clear hr0 hc0 ht hl g1 g2 g4
    go_enter Try.func20, Try.ntmps20
    go_wp2_with (first | (go_at_call 15; refine (reel_Check.calls k _ _ l0 0 _ ?side1 HC0.out HT.out).mono ?_; (case side1 => exact Kd.C_below HR0.out HB.out); rintro e w1 ⟨rfl, hbw⟩; have HB1 := Aside0.mk (below_then HB.out HB.out.size hbw); have hb1 := Aside0.mk ((hbw.block _ (blk_lt hbx.out)).trans hbx.out); have hy0 := (show w1.cell? ⟨w.heap.size, 0, none⟩ = some (.int .i64 a) from blk_cell hb1.out 0); have hy1 := (show w1.cell? ⟨w.heap.size, 1, none⟩ = some (.int .i64 b) from blk_cell hb1.out 1); clear hbw))
    go_ret2
    exact ⟨_, rfl, Kd.R_nil _ _ _ _ _, HB1.out⟩
   ·have hd : decide (0 < l0.length) = true := by rw [decide_eq_true_iff]; omega
    have b5 : decide ((rd_T44 l0 (l0.length - 1 : Nat)).f1 < b) = true := by simp only [endOf, if_neg hl] at g4; simpa using g4
    have hl1 : 1 ≤ l0.length := by omega
    have hl2 : l0.length - 1 < l0.length := by omega
    clear hr0 hc0 ht hl g1 g2 g4
    go_enter Try.func20, Try.ntmps20
    go_wp2_with (first | (go_at_call 15; refine (reel_Check.calls k _ _ l0 0 _ ?side1 HC0.out HT.out).mono ?_; (case side1 => exact Kd.C_below HR0.out HB.out); rintro e w1 ⟨rfl, hbw⟩; have HB1 := Aside0.mk (below_then HB.out HB.out.size hbw); have hb1 := Aside0.mk ((hbw.block _ (blk_lt hbx.out)).trans hbx.out); have hy0 := (show w1.cell? ⟨w.heap.size, 0, none⟩ = some (.int .i64 a) from blk_cell hb1.out 0); have hy1 := (show w1.cell? ⟨w.heap.size, 1, none⟩ = some (.int .i64 b) from blk_cell hb1.out 1); clear hbw; obtain ⟨ad, rfl, hz0, hz1, hz2, hz3, hz4⟩ := at_T44 (Kd.C_below HR0.out HB1.out) ((l0.length - 1 : Nat) : Int) (by omega) (by omega); simp only [Int.toNat_natCast] at hz0 hz1 hz2 hz3 hz4))
    go_ret2
    exact ⟨_, rfl, Kd.R_nil _ _ _ _ _, HB1.out⟩
  rw [if_neg (by omega)] at h
  simp only [Option.some.injEq, Prod.mk.injEq] at h
  obtain ⟨rfl, rfl⟩ := h
  exact reel_parts_main k A0 c0 l0 a b w hr0 hc0 ht (by omega) (by omega) (by omega) hlen
 ·rw [if_neg e1] at h
  simp only [Option.some.injEq, Prod.mk.injEq] at h
  obtain ⟨rfl, rfl⟩ := h
  have e1b : (t != 0) = true := by simpa using e1
  clear hr0 hc0 ht e1
  go_enter Try.func20, Try.ntmps20
  go_wp2_with (first | (go_at_call 15; refine (reel_Check.calls k _ _ l0 _ _ ?side1 HC0.out HT.out).mono ?_; (case side1 => exact Kd.C_below HR0.out HB.out); rintro e w1 ⟨rfl, hbw⟩; have HB1 := Aside0.mk (below_then HB.out HB.out.size hbw); clear hbw))
  go_ret2
  exact ⟨_, rfl, Kd.R_nil _ _ _ _ _, HB1.out⟩

end Go.Proofs.Ytfdfpdiemeomiaa.G

namespace Go.Proofs.Ytfdfpdiemeomiaa.G
open Go.RowKit Go.Proofs.YtfdfpdiemeomiaaW.PrintWords Go.Proofs.YtfdfpdiemeomiaaW.PrintLast Go.Proofs.YtfdfpdiemeomiaaW.PrintMore
attribute [local go_sem] max2_int min2_int max_two min_two max_three min_three max_four min_four   -- for this text's walks alone
set_option linter.unusedVariables false
set_option linter.unusedSimpArgs false

def gradeStep (g0 : Int) (st : Int × Bool) (x : S44) : Int × Bool := (if x.f3 = g0 then st.1 else -1, st.2 && (x.f2 == 1))
def gradeOf (p : List S44) : Int × Bool := p.foldl (gradeStep (rd_T44 p 0).f3) ((rd_T44 p 0).f3, true)
theorem grade_snoc (g0 : Int) (st : Int × Bool) (p : List S44) (k : Nat) (h : k < p.length) : (p.take (k + 1)).foldl (gradeStep g0) st = gradeStep g0 ((p.take k).foldl (gradeStep g0) st) (rd_T44 p k) := by
 rw [List.take_succ_eq_append_getElem h, List.foldl_append]
 simp [rd_T44, List.getD_eq_getElem?_getD, List.getElem?_eq_getElem h]
def reel_Grade.f (k : Nat) (l0 : List S44) (a : Int) (b : Int) : Option (Int × Bool × Int) :=
 (reel_Parts.f k l0 a b).bind fun r => if r.2 = 0 then (if r.1.length = 0 then some (-1, false, 0) else some ((gradeOf r.1).1, (gradeOf r.1).2, 0)) else some (0, false, r.2)
theorem reel_Grade.mono : ∀ a0 a1 a2 k, LeO (reel_Grade.f k a0 a1 a2) (reel_Grade.f (k + 1) a0 a1 a2) := by
 intro a0 a1 a2 k
 unfold reel_Grade.f
 repeat' first
   | (with_reducible exact reel_Parts.mono _ _ _ _)
   | (with_reducible exact LeO.refl _)
   | (with_reducible refine LeO.ite ?_ ?_)
   | (with_reducible refine LeO.bind ?_ (fun _ => ?_))

theorem parts_len {k : Nat} {l : List S44} {a b : Int} {p : List S44} {e : Int} (h : reel_Parts.f k l a b = some (p, e)) : p.length ≤ 512 := by
 unfold reel_Parts.f at h
 obtain ⟨t, ht, h⟩ := Option.bind_eq_some_iff.mp h
 split at h
 ·subst t
  have h1 := reel_len ht
  split at h
  ·simp only [Option.some.injEq, Prod.mk.injEq] at h; obtain ⟨rfl, _⟩ := h; simp
  ·simp only [Option.some.injEq, Prod.mk.injEq] at h; obtain ⟨rfl, _⟩ := h; exact Nat.le_trans (partsOf_len _ _ _) h1
 ·simp only [Option.some.injEq, Prod.mk.injEq] at h; obtain ⟨rfl, _⟩ := h; simp

set_option maxRecDepth 100000 in
set_option maxHeartbeats 8000000 in
theorem reel_Grade.calls (k : Nat) (A0 : Option Addr) (c0 : Nat) (l0 : List (S44)) (a : Int) (b : Int) (r1 : Int) (r2 : Bool) (r3 : Int) (w : World) (hr0 : Kd.C k44 w A0 l0.length l0) (hc0 : l0.length ≤ c0) (h : reel_Grade.f k l0 a b = some (r1, r2, r3)) :
  Calls Try.prog 22 #[.slice A0 l0.length c0, .agg #[.int .i64 a, .int .i64 b]] w fun e w' => e = .returned (.tuple #[.int .i64 r1, .bool r2, .int .i64 r3]) ∧ Below w.heap.size w w' := by
 unfold reel_Grade.f at h
 obtain ⟨⟨p, t⟩, hp, h⟩ := Option.bind_eq_some_iff.mp h
 simp only at h
 have hlen := parts_len hp
 have hbx := Aside0.mk (World.alloc_heap_new w (.cells #[.int .i64 a, .int .i64 b] 36))
 have HB := Aside0.mk ((Below.refl w.heap.size w).alloc (Nat.le_refl _) (.cells #[.int .i64 a, .int .i64 b] 36))
 have hx0 : (w.alloc (.cells #[.int .i64 a, .int .i64 b] 36)).cell? ⟨w.heap.size, 0, none⟩ = some (.int .i64 a) := blk_cell hbx.out 0
 have hx1 : (w.alloc (.cells #[.int .i64 a, .int .i64 b] 36)).cell? ⟨w.heap.size, 1, none⟩ = some (.int .i64 b) := blk_cell hbx.out 1
 have HR0 := Aside0.mk hr0
 have HC0 := Aside0.mk hc0
 have HP := Aside0.mk hp
 clear hr0 hc0 hp
 by_cases e1 : t = 0
 ·subst e1
  rw [if_pos rfl] at h
  by_cases e2 : p.length = 0
  ·rw [if_pos e2] at h
   obtain rfl := List.eq_nil_of_length_eq_zero e2
   simp only [Option.some.injEq, Prod.mk.injEq] at h
   obtain ⟨rfl, rfl, rfl⟩ := h
   clear e2
   go_enter Try.func22, Try.ntmps22
   go_wp2_with (go_at_call 20; refine (reel_Parts.calls k _ _ l0 a b _ _ _ (Kd.C_below HR0.out HB.out) HC0.out HP.out).mono ?_; rintro e w1 ⟨v, rfl, hr, hb⟩; have HB1 := Aside0.mk (below_then HB.out HB.out.size hb); obtain ⟨A1, c1, e1, hc1, hC1⟩ := Kd.R_reads hr; subst e1; clear hr hb hc1 hC1)
   go_ret3
   exact ⟨rfl, HB1.out⟩
  ·rw [if_neg e2] at h
   simp only [Option.some.injEq, Prod.mk.injEq] at h
   obtain ⟨rfl, rfl, rfl⟩ := h
   have hne : ((p.length : Int) == 0) = false := by rw [beq_eq_false_iff_ne]; omega
   have hne2 : (p.length == 0) = false := by rw [beq_eq_false_iff_ne]; omega
   have hne3 : p ≠ [] := by rintro rfl; exact e2 rfl
   have hpos : 0 < p.length := by omega
   have hpos1 : decide (0 < p.length) = true := by simpa using hpos
   clear e2
   go_enter Try.func22, Try.ntmps22
   go_wp2_with (go_at_call 20; refine (reel_Parts.calls k _ _ l0 a b _ _ _ (Kd.C_below HR0.out HB.out) HC0.out HP.out).mono ?_; rintro e w1 ⟨v, rfl, hr, hb⟩; have HB1 := Aside0.mk (below_then HB.out HB.out.size hb); obtain ⟨A1, c1, e1, hc1, hC1⟩ := Kd.R_reads hr; subst e1; have HCP := Aside0.mk hC1; obtain ⟨ad, rfl, hz0, hz1, hz2, hz3, hz4⟩ := at_T44 hC1 0 (by omega) (by omega); simp only [Int.toNat_zero, Nat.zero_mul, Addr.add_zero'] at hz0 hz1 hz2 hz3 hz4; clear hr hb hc1 hC1)
   go_loopw [9, 10, 31] (fun g q i wr => ∃ kk : Nat, ∃ gg : Int, ∃ qq : Bool, g = .int .i64 gg ∧ q = .bool qq ∧ i = .int .i64 kk ∧ Aside0 (kk ≤ p.length) ∧ Aside0 ((p.take kk).foldl (gradeStep (rd_T44 p 0).f3) ((rd_T44 p 0).f3, true) = (gg, qq)) ∧ Aside0 (Below w.heap.size w wr ∧ Below w1.heap.size w1 wr))
    (fun _ _ i _ => p.length - (intOf i).toNat)
   case atStart => exact ⟨0, _, _, rfl, rfl, rfl, ⟨Nat.zero_le _⟩, ⟨rfl⟩, ⟨HB1.out, Below.refl _ _⟩⟩
   case round =>
    obtain ⟨kk, gg, qq, rfl, rfl, rfl, HK, HF, HW⟩ := hrel
    by_cases hk : kk < p.length
    ·have hk1 : (kk : Int) < (p.length : Int) := by omega
     have hd0 : decide (kk < p.length) = true := by simpa using hk
     have hC2 := Kd.C_below HCP.out HW.out.2
     obtain ⟨ad', e', hy0, hy1, hy2, hy3, hy4⟩ := at_T44 hC2 (kk : Int) (by omega) hk1
     cases e'
     simp only [Int.toNat_natCast] at hy0 hy1 hy2 hy3 hy4
     have HS := Aside0.mk (grade_snoc (rd_T44 p 0).f3 ((rd_T44 p 0).f3, true) p kk hk)
     have hq3 : ∀ o, (wr.alloc o).cell? ⟨ad.block, ad.off + 3, none⟩ = some (.int .i64 (rd_T44 p 0).f3) := fun o => by
      obtain ⟨ad', e', hq0, hq1, hq2, hq3, hq4⟩ := at_T44 (Kd.C_alloc hC2 o) 0 (by omega) (by omega)
      cases e'
      simpa only [Int.toNat_zero, Nat.zero_mul, Addr.add_zero'] using hq3
     clear hC2
     by_cases e3 : (rd_T44 p kk).f3 = (rd_T44 p 0).f3
     ·have H3 := Aside0.mk e3
      have e3b : ((rd_T44 p kk).f3 != (rd_T44 p 0).f3) = false := by simpa using e3
      clear e3
      cases qq with
      | false =>
       go_wp2
       go_quiet (fail)
       go_wp2
       go_roundw
       case rel => exact ⟨kk + 1, _, _, rfl, rfl, by go_num, ⟨by omega⟩, ⟨by rw [HS.out, HF.out]; simp only [gradeStep]; rw [if_pos H3.out]; rfl⟩, ⟨pw_below_drewN (HW.out.1.alloc HW.out.1.size _) _, pw_below_drewN (below_alloc HW.out.2 _) _⟩⟩
       case measure => simp [intOf]; omega
      | true =>
       cases hk2 : (rd_T44 p kk).f2 == 1 with
       | true =>
        have H2 := Aside0.mk hk2
        go_wp2
        go_quiet (fail)
        go_wp2
        go_roundw
        case rel => exact ⟨kk + 1, _, _, rfl, rfl, by go_num, ⟨by omega⟩, ⟨by rw [HS.out, HF.out]; simp only [gradeStep]; rw [if_pos H3.out, H2.out]; rfl⟩, ⟨pw_below_drewN (HW.out.1.alloc HW.out.1.size _) _, pw_below_drewN (below_alloc HW.out.2 _) _⟩⟩
        case measure => simp [intOf]; omega
       | false =>
        have H2 := Aside0.mk hk2
        go_wp2
        go_quiet (fail)
        go_wp2
        go_roundw
        case rel => exact ⟨kk + 1, _, _, rfl, rfl, by go_num, ⟨by omega⟩, ⟨by rw [HS.out, HF.out]; simp only [gradeStep]; rw [if_pos H3.out, H2.out]; rfl⟩, ⟨pw_below_drewN (HW.out.1.alloc HW.out.1.size _) _, pw_below_drewN (below_alloc HW.out.2 _) _⟩⟩
        case measure => simp [intOf]; omega
     ·have H3 := Aside0.mk e3
      have e3b : ((rd_T44 p kk).f3 != (rd_T44 p 0).f3) = true := by simpa using e3
      clear e3
      cases qq with
      | false =>
       go_wp2
       go_quiet (fail)
       go_wp2
       go_roundw
       case rel => exact ⟨kk + 1, _, _, rfl, rfl, by go_num, ⟨by omega⟩, ⟨by rw [HS.out, HF.out]; simp only [gradeStep]; rw [if_neg H3.out]; rfl⟩, ⟨pw_below_drewN (HW.out.1.alloc HW.out.1.size _) _, pw_below_drewN (below_alloc HW.out.2 _) _⟩⟩
       case measure => simp [intOf]; omega
      | true =>
       cases hk2 : (rd_T44 p kk).f2 == 1 with
       | true =>
        have H2 := Aside0.mk hk2
        go_wp2
        go_quiet (fail)
        go_wp2
        go_roundw
        case rel => exact ⟨kk + 1, _, _, rfl, rfl, by go_num, ⟨by omega⟩, ⟨by rw [HS.out, HF.out]; simp only [gradeStep]; rw [if_neg H3.out, H2.out]; rfl⟩, ⟨pw_below_drewN (HW.out.1.alloc HW.out.1.size _) _, pw_below_drewN (below_alloc HW.out.2 _) _⟩⟩
        case measure => simp [intOf]; omega
       | false =>
        have H2 := Aside0.mk hk2
        go_wp2
        go_quiet (fail)
        go_wp2
        go_roundw
        case rel => exact ⟨kk + 1, _, _, rfl, rfl, by go_num, ⟨by omega⟩, ⟨by rw [HS.out, HF.out]; simp only [gradeStep]; rw [if_neg H3.out, H2.out]; rfl⟩, ⟨pw_below_drewN (HW.out.1.alloc HW.out.1.size _) _, pw_below_drewN (below_alloc HW.out.2 _) _⟩⟩
        case measure => simp [intOf]; omega
    ·have hd0 : decide (kk < p.length) = false := by simpa using hk
     have HALL := Aside0.mk (show gradeOf p = (gg, qq) by have := HF.out; rw [List.take_of_length_le (by omega)] at this; exact this)
     go_wp2
     go_ret3
     exact ⟨by rw [HALL.out]; rfl, HW.out.1⟩
 ·rw [if_neg e1] at h
  simp only [Option.some.injEq, Prod.mk.injEq] at h
  obtain ⟨rfl, rfl, rfl⟩ := h
  have e1b : (t != 0) = true := by simpa using e1
  clear e1
  go_enter Try.func22, Try.ntmps22
  go_wp2_with (go_at_call 20; refine (reel_Parts.calls k _ _ l0 a b _ _ _ (Kd.C_below HR0.out HB.out) HC0.out HP.out).mono ?_; rintro e w1 ⟨v, rfl, hr, hb⟩; have HB1 := Aside0.mk (below_then HB.out HB.out.size hb); obtain ⟨A1, c1, e1, hc1, hC1⟩ := Kd.R_reads hr; subst e1; clear hr hb hc1 hC1)
  go_ret3
  exact ⟨rfl, HB1.out⟩

end Go.Proofs.Ytfdfpdiemeomiaa.G

namespace Go.Proofs.Ytfdfpdiemeomiaa.G
open Go.RowKit Go.Proofs.YtfdfpdiemeomiaaW.PrintWords Go.Proofs.YtfdfpdiemeomiaaW.PrintLast Go.Proofs.YtfdfpdiemeomiaaW.PrintMore
attribute [local go_sem] max2_int min2_int max_two min_two max_three min_three max_four min_four   -- for this text's walks alone
set_option linter.unusedVariables false
set_option linter.unusedSimpArgs false

theorem ex_cut : reel_Cut.f 60 ([⟨0, 100, 1, 0, 0⟩] : List (S44)) ([40, 95] : List (Int)) 10 = some (([⟨0, 40⟩, ⟨40, 95⟩] : List (S36)), ([⟨95, 100⟩] : List (S36)), 0) := by
 unfold reel_Cut.f
 rw [show reel_Check.f 60 ([⟨0, 100, 1, 0, 0⟩] : List (S44)) = some 0 from by kernel_rfl, show reel_checkTurns.f 60 ([40, 95] : List (Int)) = some 0 from by kernel_rfl]
 simp [reel_Cut.strs, reel_Cut.all, reel_Cut.one, reel_Cut.at, reel_Cut.piece, wrap64]
def papermilllaw34_awake.f : Option Bool := some true
set_option maxHeartbeats 8000000 in
set_option maxRecDepth 100000 in
theorem papermilllaw34_awake.calls (r : Bool) (w : World) (h : papermilllaw34_awake.f = some r) : Calls Try.prog 12 #[] w fun e w' => e = .returned (.bool r) ∧ Below w.heap.size w w' := by
 obtain rfl := Option.some.inj h
 have HB := Aside0.mk (Below.refl w.heap.size w)
 go_enter Try.func12, Try.ntmps12
 go_wp2_with fail
 have qL1 : ((w.alloc (.cells #[.int .i64 0, .int .i64 100, .int .i64 1, .int .i64 0, .int .i64 0] 44)).alloc (.cells #[.int .i64 40, .int .i64 95] 3)).heap[w.heap.size]? = some (.cells #[.int .i64 0, .int .i64 100, .int .i64 1, .int .i64 0, .int .i64 0] 44 (0, 0)) := by exact blk_alloc (by have h_ := World.alloc_heap_new w (.cells #[.int .i64 0, .int .i64 100, .int .i64 1, .int .i64 0, .int .i64 0] 44); exact h_) _
 have qL2 : ((w.alloc (.cells #[.int .i64 0, .int .i64 100, .int .i64 1, .int .i64 0, .int .i64 0] 44)).alloc (.cells #[.int .i64 40, .int .i64 95] 3)).heap[w.heap.size + 1]? = some (.cells #[.int .i64 40, .int .i64 95] 3 (0, 0)) := by have h_ := World.alloc_heap_new (w.alloc (.cells #[.int .i64 0, .int .i64 100, .int .i64 1, .int .i64 0, .int .i64 0] 44)) (.cells #[.int .i64 40, .int .i64 95] 3); (simp only [World.size_alloc] at h_); exact h_
 replace HB := Aside0.mk (below_alloc (below_alloc HB.out (.cells #[.int .i64 0, .int .i64 100, .int .i64 1, .int .i64 0, .int .i64 0] 44)) (.cells #[.int .i64 40, .int .i64 95] 3))
 generalize hw_ : ((w.alloc (.cells #[.int .i64 0, .int .i64 100, .int .i64 1, .int .i64 0, .int .i64 0] 44)).alloc (.cells #[.int .i64 40, .int .i64 95] 3)) = w3 at qL1 qL2 HB ⊢
 have L1 := Aside0.mk (C44_block ([⟨0, 100, 1, 0, 0⟩] : List (S44)) qL1 rfl (by decide))
 have L2 := Aside0.mk (CI_block ([40, 95] : List (Int)) qL2 rfl (by decide))
 clear hw_ qL1 qL2
 refine (reel_Cut.calls 60 _ _ ([⟨0, 100, 1, 0, 0⟩] : List (S44)) _ _ ([40, 95] : List (Int)) 10 ([⟨0, 40⟩, ⟨40, 95⟩] : List (S36)) ([⟨95, 100⟩] : List (S36)) 0 _ L1.out (by decide) L2.out (by decide) (show reel_Cut.f 60 ([⟨0, 100, 1, 0, 0⟩] : List (S44)) ([40, 95] : List (Int)) 10 = some (([⟨0, 40⟩, ⟨40, 95⟩] : List (S36)), ([⟨95, 100⟩] : List (S36)), 0) from ex_cut)).mono ?_
 rintro e w4 ⟨v4_0, v4_1, rfl, h4_0, h4_1, hb⟩
 obtain ⟨A4_0, c4_0, e_, hc_L4_0, hr_L4_0⟩ := Kd.R_reads h4_0
 subst e_
 have L4_0 := Aside0.mk hr_L4_0
 have HCL4_0 := Aside0.mk hc_L4_0
 clear hr_L4_0 hc_L4_0 h4_0
 obtain ⟨A4_1, c4_1, e_, hc_L4_1, hr_L4_1⟩ := Kd.R_reads h4_1
 subst e_
 have L4_1 := Aside0.mk hr_L4_1
 have HCL4_1 := Aside0.mk hc_L4_1
 clear hr_L4_1 hc_L4_1 h4_1
 replace L1 := Aside0.mk (Kd.C_below L1.out hb)
 replace L2 := Aside0.mk (Kd.C_below L2.out hb)
 replace HB := Aside0.mk (below_then HB.out HB.out.size hb)
 clear hb
 clear L1
 clear L2
 go_wp2_with fail
 have qL5 : (w4.alloc (.cells #[.int .i64 0, .int .i64 10, .int .i64 1, .int .i64 2, .int .i64 0, .int .i64 10, .int .i64 20, .int .i64 2, .int .i64 2, .int .i64 0] 44)).heap[w4.heap.size]? = some (.cells #[.int .i64 0, .int .i64 10, .int .i64 1, .int .i64 2, .int .i64 0, .int .i64 10, .int .i64 20, .int .i64 2, .int .i64 2, .int .i64 0] 44 (0, 0)) := by have h_ := World.alloc_heap_new w4 (.cells #[.int .i64 0, .int .i64 10, .int .i64 1, .int .i64 2, .int .i64 0, .int .i64 10, .int .i64 20, .int .i64 2, .int .i64 2, .int .i64 0] 44); exact h_
 replace L4_0 := Aside0.mk (Kd.C_alloc L4_0.out (.cells #[.int .i64 0, .int .i64 10, .int .i64 1, .int .i64 2, .int .i64 0, .int .i64 10, .int .i64 20, .int .i64 2, .int .i64 2, .int .i64 0] 44))
 replace L4_1 := Aside0.mk (Kd.C_alloc L4_1.out (.cells #[.int .i64 0, .int .i64 10, .int .i64 1, .int .i64 2, .int .i64 0, .int .i64 10, .int .i64 20, .int .i64 2, .int .i64 2, .int .i64 0] 44))
 replace HB := Aside0.mk (below_alloc HB.out (.cells #[.int .i64 0, .int .i64 10, .int .i64 1, .int .i64 2, .int .i64 0, .int .i64 10, .int .i64 20, .int .i64 2, .int .i64 2, .int .i64 0] 44))
 generalize hw_ : (w4.alloc (.cells #[.int .i64 0, .int .i64 10, .int .i64 1, .int .i64 2, .int .i64 0, .int .i64 10, .int .i64 20, .int .i64 2, .int .i64 2, .int .i64 0] 44)) = w6 at qL5 L4_0 L4_1 HB ⊢
 have L5 := Aside0.mk (C44_block ([⟨0, 10, 1, 2, 0⟩, ⟨10, 20, 2, 2, 0⟩] : List (S44)) qL5 rfl (by decide))
 clear hw_ qL5
 refine (reel_Grade.calls 60 _ _ ([⟨0, 10, 1, 2, 0⟩, ⟨10, 20, 2, 2, 0⟩] : List (S44)) 5 15 2 false 0 _ L5.out (by decide) (show reel_Grade.f 60 ([⟨0, 10, 1, 2, 0⟩, ⟨10, 20, 2, 2, 0⟩] : List (S44)) 5 15 = some (2, false, 0) from (by kernel_rfl))).mono ?_
 rintro e w7 ⟨rfl, hb⟩
 replace L4_0 := Aside0.mk (Kd.C_below L4_0.out hb)
 replace L4_1 := Aside0.mk (Kd.C_below L4_1.out hb)
 replace L5 := Aside0.mk (Kd.C_below L5.out hb)
 replace HB := Aside0.mk (below_then HB.out HB.out.size hb)
 clear hb
 go_wp2_with fail
 refine (reel_Parts.calls 60 _ _ ([⟨0, 10, 1, 2, 0⟩, ⟨10, 20, 2, 2, 0⟩] : List (S44)) 5 15 ([⟨0, 5, 1, 2, 0⟩, ⟨5, 10, 2, 2, 0⟩] : List (S44)) 0 _ L5.out (by decide) (show reel_Parts.f 60 ([⟨0, 10, 1, 2, 0⟩, ⟨10, 20, 2, 2, 0⟩] : List (S44)) 5 15 = some (([⟨0, 5, 1, 2, 0⟩, ⟨5, 10, 2, 2, 0⟩] : List (S44)), 0) from (by kernel_rfl))).mono ?_
 rintro e w8 ⟨v8_0, rfl, h8_0, hb⟩
 obtain ⟨A8_0, c8_0, e_, hc_L8_0, hr_L8_0⟩ := Kd.R_reads h8_0
 subst e_
 have L8_0 := Aside0.mk hr_L8_0
 have HCL8_0 := Aside0.mk hc_L8_0
 clear hr_L8_0 hc_L8_0 h8_0
 replace L4_0 := Aside0.mk (Kd.C_below L4_0.out hb)
 replace L4_1 := Aside0.mk (Kd.C_below L4_1.out hb)
 replace L5 := Aside0.mk (Kd.C_below L5.out hb)
 replace HB := Aside0.mk (below_then HB.out HB.out.size hb)
 clear hb
 go_wp2_with fail
 refine (reel_Grade.calls 60 _ _ ([⟨0, 10, 1, 2, 0⟩, ⟨10, 20, 2, 2, 0⟩] : List (S44)) 5 5 (-1) false 0 _ L5.out (by decide) (show reel_Grade.f 60 ([⟨0, 10, 1, 2, 0⟩, ⟨10, 20, 2, 2, 0⟩] : List (S44)) 5 5 = some ((-1), false, 0) from (by kernel_rfl))).mono ?_
 rintro e w9 ⟨rfl, hb⟩
 replace L4_0 := Aside0.mk (Kd.C_below L4_0.out hb)
 replace L4_1 := Aside0.mk (Kd.C_below L4_1.out hb)
 replace L5 := Aside0.mk (Kd.C_below L5.out hb)
 replace L8_0 := Aside0.mk (Kd.C_below L8_0.out hb)
 replace HB := Aside0.mk (below_then HB.out HB.out.size hb)
 clear hb
 clear L5
 go_wp2_with fail
 have qL10 : (w9.alloc (.cells #[.int .i64 0, .int .i64 10, .int .i64 3, .int .i64 (-1), .int .i64 0, .int .i64 10, .int .i64 20, .int .i64 3, .int .i64 0, .int .i64 1, .int .i64 20, .int .i64 30, .int .i64 1, .int .i64 0, .int .i64 1] 44)).heap[w9.heap.size]? = some (.cells #[.int .i64 0, .int .i64 10, .int .i64 3, .int .i64 (-1), .int .i64 0, .int .i64 10, .int .i64 20, .int .i64 3, .int .i64 0, .int .i64 1, .int .i64 20, .int .i64 30, .int .i64 1, .int .i64 0, .int .i64 1] 44 (0, 0)) := by have h_ := World.alloc_heap_new w9 (.cells #[.int .i64 0, .int .i64 10, .int .i64 3, .int .i64 (-1), .int .i64 0, .int .i64 10, .int .i64 20, .int .i64 3, .int .i64 0, .int .i64 1, .int .i64 20, .int .i64 30, .int .i64 1, .int .i64 0, .int .i64 1] 44); exact h_
 replace L4_0 := Aside0.mk (Kd.C_alloc L4_0.out (.cells #[.int .i64 0, .int .i64 10, .int .i64 3, .int .i64 (-1), .int .i64 0, .int .i64 10, .int .i64 20, .int .i64 3, .int .i64 0, .int .i64 1, .int .i64 20, .int .i64 30, .int .i64 1, .int .i64 0, .int .i64 1] 44))
 replace L4_1 := Aside0.mk (Kd.C_alloc L4_1.out (.cells #[.int .i64 0, .int .i64 10, .int .i64 3, .int .i64 (-1), .int .i64 0, .int .i64 10, .int .i64 20, .int .i64 3, .int .i64 0, .int .i64 1, .int .i64 20, .int .i64 30, .int .i64 1, .int .i64 0, .int .i64 1] 44))
 replace L8_0 := Aside0.mk (Kd.C_alloc L8_0.out (.cells #[.int .i64 0, .int .i64 10, .int .i64 3, .int .i64 (-1), .int .i64 0, .int .i64 10, .int .i64 20, .int .i64 3, .int .i64 0, .int .i64 1, .int .i64 20, .int .i64 30, .int .i64 1, .int .i64 0, .int .i64 1] 44))
 replace HB := Aside0.mk (below_alloc HB.out (.cells #[.int .i64 0, .int .i64 10, .int .i64 3, .int .i64 (-1), .int .i64 0, .int .i64 10, .int .i64 20, .int .i64 3, .int .i64 0, .int .i64 1, .int .i64 20, .int .i64 30, .int .i64 1, .int .i64 0, .int .i64 1] 44))
 generalize hw_ : (w9.alloc (.cells #[.int .i64 0, .int .i64 10, .int .i64 3, .int .i64 (-1), .int .i64 0, .int .i64 10, .int .i64 20, .int .i64 3, .int .i64 0, .int .i64 1, .int .i64 20, .int .i64 30, .int .i64 1, .int .i64 0, .int .i64 1] 44)) = w11 at qL10 L4_0 L4_1 L8_0 HB ⊢
 have L10 := Aside0.mk (C44_block ([⟨0, 10, 3, (-1), 0⟩, ⟨10, 20, 3, 0, 1⟩, ⟨20, 30, 1, 0, 1⟩] : List (S44)) qL10 rfl (by decide))
 clear hw_ qL10
 refine (reel_Lost.calls 60 _ _ ([⟨0, 10, 3, (-1), 0⟩, ⟨10, 20, 3, 0, 1⟩, ⟨20, 30, 1, 0, 1⟩] : List (S44)) ([⟨0, 20⟩] : List (S36)) 0 _ L10.out (by decide) (show reel_Lost.f 60 ([⟨0, 10, 3, (-1), 0⟩, ⟨10, 20, 3, 0, 1⟩, ⟨20, 30, 1, 0, 1⟩] : List (S44)) = some (([⟨0, 20⟩] : List (S36)), 0) from (by kernel_rfl))).mono ?_
 rintro e w12 ⟨v12_0, rfl, h12_0, hb⟩
 obtain ⟨A12_0, c12_0, e_, hc_L12_0, hr_L12_0⟩ := Kd.R_reads h12_0
 subst e_
 have L12_0 := Aside0.mk hr_L12_0
 have HCL12_0 := Aside0.mk hc_L12_0
 clear hr_L12_0 hc_L12_0 h12_0
 replace L4_0 := Aside0.mk (Kd.C_below L4_0.out hb)
 replace L4_1 := Aside0.mk (Kd.C_below L4_1.out hb)
 replace L8_0 := Aside0.mk (Kd.C_below L8_0.out hb)
 replace L10 := Aside0.mk (Kd.C_below L10.out hb)
 replace HB := Aside0.mk (below_then HB.out HB.out.size hb)
 clear hb
 clear L10
 go_wp2_with fail
 have qL13 : (w12.alloc (.cells #[.int .i64 0, .int .i64 40, .int .i64 40, .int .i64 95] 36)).heap[w12.heap.size]? = some (.cells #[.int .i64 0, .int .i64 40, .int .i64 40, .int .i64 95] 36 (0, 0)) := by have h_ := World.alloc_heap_new w12 (.cells #[.int .i64 0, .int .i64 40, .int .i64 40, .int .i64 95] 36); exact h_
 replace L4_0 := Aside0.mk (Kd.C_alloc L4_0.out (.cells #[.int .i64 0, .int .i64 40, .int .i64 40, .int .i64 95] 36))
 replace L4_1 := Aside0.mk (Kd.C_alloc L4_1.out (.cells #[.int .i64 0, .int .i64 40, .int .i64 40, .int .i64 95] 36))
 replace L8_0 := Aside0.mk (Kd.C_alloc L8_0.out (.cells #[.int .i64 0, .int .i64 40, .int .i64 40, .int .i64 95] 36))
 replace L12_0 := Aside0.mk (Kd.C_alloc L12_0.out (.cells #[.int .i64 0, .int .i64 40, .int .i64 40, .int .i64 95] 36))
 replace HB := Aside0.mk (below_alloc HB.out (.cells #[.int .i64 0, .int .i64 40, .int .i64 40, .int .i64 95] 36))
 generalize hw_ : (w12.alloc (.cells #[.int .i64 0, .int .i64 40, .int .i64 40, .int .i64 95] 36)) = w14 at qL13 L4_0 L4_1 L8_0 L12_0 HB ⊢
 have L13 := Aside0.mk (C36_block ([⟨0, 40⟩, ⟨40, 95⟩] : List (S36)) qL13 rfl (by decide))
 clear hw_ qL13
 refine (papermillref04_Same.calls 60 _ _ ([⟨0, 40⟩, ⟨40, 95⟩] : List (S36)) _ _ ([⟨0, 40⟩, ⟨40, 95⟩] : List (S36)) true _ L4_0.out HCL4_0.out L13.out (by decide) (show papermillref04_Same.f 60 ([⟨0, 40⟩, ⟨40, 95⟩] : List (S36)) ([⟨0, 40⟩, ⟨40, 95⟩] : List (S36)) = some true from (by kernel_rfl))).mono ?_
 rintro e w15 ⟨rfl, hd⟩
 replace L4_0 := Aside0.mk (Kd.C_below L4_0.out hd.below)
 replace L4_1 := Aside0.mk (Kd.C_below L4_1.out hd.below)
 replace L8_0 := Aside0.mk (Kd.C_below L8_0.out hd.below)
 replace L12_0 := Aside0.mk (Kd.C_below L12_0.out hd.below)
 replace L13 := Aside0.mk (Kd.C_below L13.out hd.below)
 replace HB := Aside0.mk (below_then HB.out HB.out.size hd.below)
 clear hd
 clear L4_0 HCL4_0
 clear L13
 go_wp2_with fail
 have qL16 : (w15.alloc (.cells #[.int .i64 95, .int .i64 100] 36)).heap[w15.heap.size]? = some (.cells #[.int .i64 95, .int .i64 100] 36 (0, 0)) := by have h_ := World.alloc_heap_new w15 (.cells #[.int .i64 95, .int .i64 100] 36); exact h_
 replace L4_1 := Aside0.mk (Kd.C_alloc L4_1.out (.cells #[.int .i64 95, .int .i64 100] 36))
 replace L8_0 := Aside0.mk (Kd.C_alloc L8_0.out (.cells #[.int .i64 95, .int .i64 100] 36))
 replace L12_0 := Aside0.mk (Kd.C_alloc L12_0.out (.cells #[.int .i64 95, .int .i64 100] 36))
 replace HB := Aside0.mk (below_alloc HB.out (.cells #[.int .i64 95, .int .i64 100] 36))
 generalize hw_ : (w15.alloc (.cells #[.int .i64 95, .int .i64 100] 36)) = w17 at qL16 L4_1 L8_0 L12_0 HB ⊢
 have L16 := Aside0.mk (C36_block ([⟨95, 100⟩] : List (S36)) qL16 rfl (by decide))
 clear hw_ qL16
 refine (papermillref04_Same.calls 60 _ _ ([⟨95, 100⟩] : List (S36)) _ _ ([⟨95, 100⟩] : List (S36)) true _ L4_1.out HCL4_1.out L16.out (by decide) (show papermillref04_Same.f 60 ([⟨95, 100⟩] : List (S36)) ([⟨95, 100⟩] : List (S36)) = some true from (by kernel_rfl))).mono ?_
 rintro e w18 ⟨rfl, hd⟩
 replace L4_1 := Aside0.mk (Kd.C_below L4_1.out hd.below)
 replace L8_0 := Aside0.mk (Kd.C_below L8_0.out hd.below)
 replace L12_0 := Aside0.mk (Kd.C_below L12_0.out hd.below)
 replace L16 := Aside0.mk (Kd.C_below L16.out hd.below)
 replace HB := Aside0.mk (below_then HB.out HB.out.size hd.below)
 clear hd
 clear L4_1 HCL4_1
 clear L16
 go_wp2_with fail
 have qL19 : (w18.alloc (.cells #[.int .i64 0, .int .i64 5, .int .i64 1, .int .i64 2, .int .i64 0, .int .i64 5, .int .i64 10, .int .i64 2, .int .i64 2, .int .i64 0] 44)).heap[w18.heap.size]? = some (.cells #[.int .i64 0, .int .i64 5, .int .i64 1, .int .i64 2, .int .i64 0, .int .i64 5, .int .i64 10, .int .i64 2, .int .i64 2, .int .i64 0] 44 (0, 0)) := by have h_ := World.alloc_heap_new w18 (.cells #[.int .i64 0, .int .i64 5, .int .i64 1, .int .i64 2, .int .i64 0, .int .i64 5, .int .i64 10, .int .i64 2, .int .i64 2, .int .i64 0] 44); exact h_
 replace L8_0 := Aside0.mk (Kd.C_alloc L8_0.out (.cells #[.int .i64 0, .int .i64 5, .int .i64 1, .int .i64 2, .int .i64 0, .int .i64 5, .int .i64 10, .int .i64 2, .int .i64 2, .int .i64 0] 44))
 replace L12_0 := Aside0.mk (Kd.C_alloc L12_0.out (.cells #[.int .i64 0, .int .i64 5, .int .i64 1, .int .i64 2, .int .i64 0, .int .i64 5, .int .i64 10, .int .i64 2, .int .i64 2, .int .i64 0] 44))
 replace HB := Aside0.mk (below_alloc HB.out (.cells #[.int .i64 0, .int .i64 5, .int .i64 1, .int .i64 2, .int .i64 0, .int .i64 5, .int .i64 10, .int .i64 2, .int .i64 2, .int .i64 0] 44))
 generalize hw_ : (w18.alloc (.cells #[.int .i64 0, .int .i64 5, .int .i64 1, .int .i64 2, .int .i64 0, .int .i64 5, .int .i64 10, .int .i64 2, .int .i64 2, .int .i64 0] 44)) = w20 at qL19 L8_0 L12_0 HB ⊢
 have L19 := Aside0.mk (C44_block ([⟨0, 5, 1, 2, 0⟩, ⟨5, 10, 2, 2, 0⟩] : List (S44)) qL19 rfl (by decide))
 clear hw_ qL19
 refine (papermillref34_Same.calls 60 _ _ ([⟨0, 5, 1, 2, 0⟩, ⟨5, 10, 2, 2, 0⟩] : List (S44)) _ _ ([⟨0, 5, 1, 2, 0⟩, ⟨5, 10, 2, 2, 0⟩] : List (S44)) true _ L8_0.out HCL8_0.out L19.out (by decide) (show papermillref34_Same.f 60 ([⟨0, 5, 1, 2, 0⟩, ⟨5, 10, 2, 2, 0⟩] : List (S44)) ([⟨0, 5, 1, 2, 0⟩, ⟨5, 10, 2, 2, 0⟩] : List (S44)) = some true from (by kernel_rfl))).mono ?_
 rintro e w21 ⟨rfl, hd⟩
 replace L8_0 := Aside0.mk (Kd.C_below L8_0.out hd.below)
 replace L12_0 := Aside0.mk (Kd.C_below L12_0.out hd.below)
 replace L19 := Aside0.mk (Kd.C_below L19.out hd.below)
 replace HB := Aside0.mk (below_then HB.out HB.out.size hd.below)
 clear hd
 clear L8_0 HCL8_0
 clear L19
 go_wp2_with fail
 have qL22 : (w21.alloc (.cells #[.int .i64 0, .int .i64 20] 36)).heap[w21.heap.size]? = some (.cells #[.int .i64 0, .int .i64 20] 36 (0, 0)) := by have h_ := World.alloc_heap_new w21 (.cells #[.int .i64 0, .int .i64 20] 36); exact h_
 replace L12_0 := Aside0.mk (Kd.C_alloc L12_0.out (.cells #[.int .i64 0, .int .i64 20] 36))
 replace HB := Aside0.mk (below_alloc HB.out (.cells #[.int .i64 0, .int .i64 20] 36))
 generalize hw_ : (w21.alloc (.cells #[.int .i64 0, .int .i64 20] 36)) = w23 at qL22 L12_0 HB ⊢
 have L22 := Aside0.mk (C36_block ([⟨0, 20⟩] : List (S36)) qL22 rfl (by decide))
 clear hw_ qL22
 refine (papermillref04_Same.calls 60 _ _ ([⟨0, 20⟩] : List (S36)) _ _ ([⟨0, 20⟩] : List (S36)) true _ L12_0.out HCL12_0.out L22.out (by decide) (show papermillref04_Same.f 60 ([⟨0, 20⟩] : List (S36)) ([⟨0, 20⟩] : List (S36)) = some true from (by kernel_rfl))).mono ?_
 rintro e w24 ⟨rfl, hd⟩
 replace L12_0 := Aside0.mk (Kd.C_below L12_0.out hd.below)
 replace L22 := Aside0.mk (Kd.C_below L22.out hd.below)
 replace HB := Aside0.mk (below_then HB.out HB.out.size hd.below)
 clear hd
 clear L12_0 HCL12_0
 clear L22
 go_wp2
 go_ret
 exact ⟨rfl, HB.out⟩

end Go.Proofs.Ytfdfpdiemeomiaa.G

namespace Go.Proofs.Ytfdfpdiemeomiaa.G
open Go.RowKit Go.Proofs.YtfdfpdiemeomiaaW.PrintWords Go.Proofs.YtfdfpdiemeomiaaW.PrintLast Go.Proofs.YtfdfpdiemeomiaaW.PrintMore
attribute [local go_sem] max2_int min2_int max_two min_two max_three min_three max_four min_four   -- for this text's walks alone
set_option linter.unusedVariables false
set_option linter.unusedSimpArgs false

mutual
def papermilllaw34_ReelLost.j0 : Nat → List (S36) → List (S44) → Int → Bool → Int → Bool → Int → Int → Option (Bool)
 | 0, _, _, _, _, _, _, _, _ => none
 | k + 1, x5, x7, x8, x10, x11, x43, x11002000, x11002001 => if x43 = true then (if x11 = x8 then ((papermilllaw34_awake.f).bind fun t11014 => (some t11014)) else none) else (papermilllaw34_ReelLost.l0 k x5 x7 x10 x11 false 0 x11002000 x11002001)
def papermilllaw34_ReelLost.l0 : Nat → List (S36) → List (S44) → Bool → Int → Bool → Int → Int → Int → Option (Bool)
 | 0, _, _, _, _, _, _, _, _ => none
 | k + 1, x5, x7, x10, x11, x12, x13, x11002000, x11002001 => if x13 < (x7.length : Int) then (if x12 = true then (papermilllaw34_ReelLost.l0 k x5 x7 x10 x11 true (wrap64 (x13 + 1)) x11002000 x11002001) else (if 0 ≤ x13 then (papermilllaw34_ReelLost.l0 k x5 x7 x10 x11 (((rd_T44 x7 x13).f2) == 3) (wrap64 (x13 + 1)) x11002000 x11002001) else (none))) else ((span_Common.f k x5 (([(⟨x11002000, x11002001⟩ : S36)] : List (S36)))).bind fun bt11019 => (if x11 = 0 then (if bt11019.2 = 0 then (if (x12 == (decide ((bt11019.1.length : Int) > 0))) = true then (if x10 = true then (if x12 = true then none else ((papermilllaw34_awake.f).bind fun t11023 => (some t11023))) else ((papermilllaw34_awake.f).bind fun t11024 => (some t11024))) else none) else none) else none))
end
def papermilllaw34_ReelLost.f (k : Nat) (l0 : List (S44)) (a1_0 : Int) (a1_1 : Int) : Option (Bool) := if (l0.length : Int) > 300 then ((papermilllaw34_awake.f).bind fun t11002 => (some t11002)) else ((reel_Lost.f k l0).bind fun bt11003 => ((reel_Parts.f k l0 a1_0 a1_1).bind fun bt11007 => ((reel_Grade.f k l0 a1_0 a1_1).bind fun bt11011 => (if bt11003.2 = 0 then (papermilllaw34_ReelLost.j0 k bt11003.1 bt11007.1 bt11007.2 bt11011.2.1 bt11011.2.2 (bt11007.2 != 0) a1_0 a1_1) else (papermilllaw34_ReelLost.j0 k bt11003.1 bt11007.1 bt11007.2 bt11011.2.1 bt11011.2.2 true a1_0 a1_1)))))
set_option maxHeartbeats 8000000 in
set_option maxRecDepth 100000 in
theorem papermilllaw34_ReelLost.calls (k : Nat) (A0 : Option Addr) (c0 : Nat) (l0 : List (S44)) (a1_0 : Int) (a1_1 : Int) (r : Bool) (w : World) (hr0 : Kd.C k44 w A0 l0.length l0) (hc0 : l0.length ≤ c0) (h : papermilllaw34_ReelLost.f k l0 a1_0 a1_1 = some r) :
  Calls Try.prog 10 #[.slice A0 l0.length c0, .agg #[.int .i64 a1_0, .int .i64 a1_1]] w fun e w' => e = .returned (.bool r) ∧ Below w.heap.size w w' := by
 have hu36 := Try.underlying36
 have HR0 := Aside0.mk hr0
 have HC0 := Aside0.mk hc0
 clear hr0 hc0
 have HB := Aside0.mk (Below.refl w.heap.size w)
 have H : (if (l0.length : Int) > 300 then ((papermilllaw34_awake.f).bind fun t11002 => (some t11002)) else ((reel_Lost.f k l0).bind fun bt11003 => ((reel_Parts.f k l0 a1_0 a1_1).bind fun bt11007 => ((reel_Grade.f k l0 a1_0 a1_1).bind fun bt11011 => (if bt11003.2 = 0 then (papermilllaw34_ReelLost.j0 k bt11003.1 bt11007.1 bt11007.2 bt11011.2.1 bt11011.2.2 (bt11007.2 != 0) a1_0 a1_1) else (papermilllaw34_ReelLost.j0 k bt11003.1 bt11007.1 bt11007.2 bt11011.2.1 bt11011.2.2 true a1_0 a1_1)))))) = some r := h
 clear h
 by_cases c3 : (l0.length : Int) > 300
 ·rw [if_pos c3] at H
  have c3b0 : decide (300 < (l0.length : Int)) = true := decide_eq_true c3
  have c3b1 : decide (300 < l0.length) = true := decide_eq_true (by omega)
  clear c3
  replace H := Option.bind_eq_some_iff.mp H
  obtain ⟨t11002, A40, H⟩ := H
  replace H : (some t11002) = some r := H
  have A4 := Aside0.mk A40
  clear A40
  obtain rfl := Option.some.inj H
  go_enter Try.func10, Try.ntmps10
  go_wp2_with (first | ((with_reducible refine gate_dst (N := 3) rfl ?_); (try (refine gate_guard (by rfl) ?_; dsimp only)); refine box_event ?hg (N := 3) ?hd (cs := #[.int .i64 a1_0, .int .i64 a1_1]) (t := 36) ?hr ?_; (case hd => rfl); (case hg => rfl); (case hr => first | (go_simp; done) | (go_simp; rfl)); intro gb11001 hg w5 hbox hb; have n0_ := Aside0.mk (below_step (by repeat (first | (with_reducible first | exact HB.out | apply below_alloc | apply pw_below_drewN | apply below_drew1) | exact HB.out)) hb); have n1_ := Aside0.mk (hbox); have n2_ := Aside0.mk ((by rw [hg]; exact (below_size (by repeat (first | (with_reducible first | exact HB.out | apply below_alloc | apply pw_below_drewN | apply below_drew1) | exact HB.out))) : w.heap.size ≤ gb11001)); have n3_ := Aside0.mk ((by rw [hg]; exact (below_size (by repeat (first | (with_reducible first | exact HB.out | apply below_alloc | apply pw_below_drewN | apply below_drew1) | exact HB.out))) : w.heap.size ≤ gb11001)); clear HB; have HB := n0_; have BK11001 := n1_; have GW11001 := n2_; have GE11001 := n3_; clear n0_ n1_ n2_ n3_; clear hb hbox hg) | ((with_reducible refine gate_callee (f := 12) rfl ?_); refine goesL_ (some 19) rfl rfl Try.func12 (by kernel_rfl) rfl #[] rfl (by (try simp only [List.map_toArray, List.map_cons, List.map_nil]); first | done | rfl | (simp only [List.length_drop, List.length_take]; rfl)) ?_; (with_reducible refine (papermilllaw34_awake.calls  t11002 _ A4.out).mono ?_); rintro e w6 ⟨rfl, hb⟩; refine ⟨_, rfl, ?_⟩; have n0_ := Aside0.mk (blk_below (g := gb11001) (o := .cells #[.int .i64 a1_0, .int .i64 a1_1] 36 (0, 0)) (by (with_reducible repeat (first | refine blk_drewN ?_ _ | refine blk_drew ?_ | refine blk_alloc ?_ _)); exact BK11001.out) hb); have n1_ := Aside0.mk (below_step (by repeat (first | (with_reducible first | exact HB.out | apply below_alloc | apply pw_below_drewN | apply below_drew1 | refine below_set ?_ GE11001.out) | exact HB.out)) hb); clear BK11001; clear HB; have BK11001 := n0_; have HB := n1_; clear n0_ n1_; (try clear hb); (try clear hb2); (try clear hk); (try clear hi)))
  go_ret
  exact ⟨by first | rfl | (simp [errW_none, errW_some] <;> rfl) | (simp [*, errW_none, errW_some] <;> rfl), by repeat (first | (with_reducible first | exact HB.out | apply below_alloc | apply pw_below_drewN | apply below_drew1 | refine below_set ?_ GE11001.out) | exact HB.out)⟩
 ·rw [if_neg c3] at H
  have c3b0 : decide (300 < (l0.length : Int)) = false := decide_eq_false c3
  have c3b1 : decide (300 < l0.length) = false := decide_eq_false (by omega)
  clear c3
  replace H := Option.bind_eq_some_iff.mp H
  obtain ⟨⟨t11003, t11004⟩, A70, H⟩ := H
  replace H : ((reel_Parts.f k l0 a1_0 a1_1).bind fun bt11007 => ((reel_Grade.f k l0 a1_0 a1_1).bind fun bt11011 => (if t11004 = 0 then (papermilllaw34_ReelLost.j0 k t11003 bt11007.1 bt11007.2 bt11011.2.1 bt11011.2.2 (bt11007.2 != 0) a1_0 a1_1) else (papermilllaw34_ReelLost.j0 k t11003 bt11007.1 bt11007.2 bt11011.2.1 bt11011.2.2 true a1_0 a1_1)))) = some r := H
  have A7 := Aside0.mk A70
  clear A70
  replace H := Option.bind_eq_some_iff.mp H
  obtain ⟨⟨t11007, t11010⟩, A80, H⟩ := H
  replace H : ((reel_Grade.f k l0 a1_0 a1_1).bind fun bt11011 => (if t11004 = 0 then (papermilllaw34_ReelLost.j0 k t11003 t11007 t11010 bt11011.2.1 bt11011.2.2 (t11010 != 0) a1_0 a1_1) else (papermilllaw34_ReelLost.j0 k t11003 t11007 t11010 bt11011.2.1 bt11011.2.2 true a1_0 a1_1))) = some r := H
  have A8 := Aside0.mk A80
  clear A80
  replace H := Option.bind_eq_some_iff.mp H
  obtain ⟨⟨t11011, t11012, t11013⟩, A90, H⟩ := H
  replace H : (if t11004 = 0 then (papermilllaw34_ReelLost.j0 k t11003 t11007 t11010 t11012 t11013 (t11010 != 0) a1_0 a1_1) else (papermilllaw34_ReelLost.j0 k t11003 t11007 t11010 t11012 t11013 true a1_0 a1_1)) = some r := H
  have A9 := Aside0.mk A90
  clear A90
  have HC10 := Aside0.mk H
  clear H
  go_enter Try.func10, Try.ntmps10
  go_upto_region 6 with (first | ((with_reducible refine gate_dst (N := 3) rfl ?_); (try (refine gate_guard (by rfl) ?_; dsimp only)); refine box_event ?hg (N := 3) ?hd (cs := #[.int .i64 a1_0, .int .i64 a1_1]) (t := 36) ?hr ?_; (case hd => rfl); (case hg => rfl); (case hr => first | (go_simp; done) | (go_simp; rfl)); intro gb11001 hg w11 hbox hb; have n0_ := Aside0.mk (below_step (by repeat (first | (with_reducible first | exact HB.out | apply below_alloc | apply pw_below_drewN | apply below_drew1) | exact HB.out)) hb); have n1_ := Aside0.mk (hbox); have n2_ := Aside0.mk ((by rw [hg]; exact (below_size (by repeat (first | (with_reducible first | exact HB.out | apply below_alloc | apply pw_below_drewN | apply below_drew1) | exact HB.out))) : w.heap.size ≤ gb11001)); have n3_ := Aside0.mk ((by rw [hg]; exact (below_size (by repeat (first | (with_reducible first | exact HB.out | apply below_alloc | apply pw_below_drewN | apply below_drew1) | exact HB.out))) : w.heap.size ≤ gb11001)); clear HB; have HB := n0_; have BK11001 := n1_; have GW11001 := n2_; have GE11001 := n3_; clear n0_ n1_ n2_ n3_; clear hb hbox hg) | ((with_reducible refine gate_callee (f := 13) rfl ?_); refine goesL_ (some 22) rfl rfl Try.func13 (by kernel_rfl) rfl #[.slice A0 l0.length c0] rfl (by (try simp only [List.map_toArray, List.map_cons, List.map_nil]); first | done | rfl | (simp only [List.length_drop, List.length_take]; rfl)) ?_; (with_reducible refine (reel_Lost.calls k _ _ l0 t11003 t11004 _ ?side1 ?side2 A7.out).mono ?_); (case side1 => repeat (first | exact (Kd.C_below HR0.out HB.out) | (with_reducible refine Kd.C_alloc ?_ _) | (with_reducible refine Kd.C_drewN ?_ _) | (with_reducible refine Kd.C_drew ?_))); (case side2 => exact HC0.out); rintro e w12 ⟨v11005, rfl, ho0, hb⟩; refine ⟨_, rfl, ?_⟩; have n0_ := Aside0.mk (Kd.R_lower (Kd.R_newB ho0 (g := gb11001) (o := .cells #[.int .i64 a1_0, .int .i64 a1_1] 36 (0, 0)) (by (with_reducible repeat (first | refine blk_drewN ?_ _ | refine blk_drew ?_ | refine blk_alloc ?_ _)); exact BK11001.out)) (below_size (by repeat (first | (with_reducible first | exact HB.out | apply below_alloc | apply pw_below_drewN | apply below_drew1 | refine below_set ?_ GE11001.out) | exact HB.out)))); have n1_ := Aside0.mk (blk_below (g := gb11001) (o := .cells #[.int .i64 a1_0, .int .i64 a1_1] 36 (0, 0)) (by (with_reducible repeat (first | refine blk_drewN ?_ _ | refine blk_drew ?_ | refine blk_alloc ?_ _)); exact BK11001.out) hb); have n2_ := Aside0.mk (below_step (by repeat (first | (with_reducible first | exact HB.out | apply below_alloc | apply pw_below_drewN | apply below_drew1 | refine below_set ?_ GE11001.out) | exact HB.out)) hb); clear BK11001; clear HB; have HO11006 := n0_; have BK11001 := n1_; have HB := n2_; clear n0_ n1_ n2_; (try clear hb); (try clear hb2); (try clear hk); (try clear hi); (try clear ho0); have hcz13_0 : w12.cell? ⟨gb11001, 0, none⟩ = some (.int .i64 a1_0) := (blk_cell BK11001.out 0).trans rfl; have hcz13_1 : w12.cell? ⟨gb11001, 1, none⟩ = some (.int .i64 a1_1) := (blk_cell BK11001.out 1).trans rfl; have hfz13_0 := blk_frozen BK11001.out 0; have hfz13_1 := blk_frozen BK11001.out 1) | ((with_reducible refine gate_callee (f := 20) rfl ?_); refine goesL_ (some 28) rfl rfl Try.func20 (by kernel_rfl) rfl #[.slice A0 l0.length c0, .agg #[.int .i64 a1_0, .int .i64 a1_1]] rfl (by (try simp only [List.map_toArray, List.map_cons, List.map_nil]); first | done | rfl | (simp only [List.length_drop, List.length_take]; rfl)) ?_; (with_reducible refine (reel_Parts.calls k _ _ l0 a1_0 a1_1 t11007 t11010 _ ?side1 ?side2 A8.out).mono ?_); (case side1 => repeat (first | exact (Kd.C_below HR0.out HB.out) | (with_reducible refine Kd.C_alloc ?_ _) | (with_reducible refine Kd.C_drewN ?_ _) | (with_reducible refine Kd.C_drew ?_))); (case side2 => exact HC0.out); rintro e w14 ⟨v11008, rfl, ho0, hb⟩; refine ⟨_, rfl, ?_⟩; have n0_ := Aside0.mk (Kd.R_below (by (with_reducible repeat (first | apply Kd.R_alloc | apply Kd.R_drewN | apply Kd.R_drew)); exact HO11006.out) hb); have n1_ := Aside0.mk (Kd.R_lower ho0 (below_size (by repeat (first | (with_reducible first | exact HB.out | apply below_alloc | apply pw_below_drewN | apply below_drew1 | refine below_set ?_ GE11001.out) | exact HB.out)))); have n2_ := Aside0.mk (blk_below (g := gb11001) (o := .cells #[.int .i64 a1_0, .int .i64 a1_1] 36 (0, 0)) (by (with_reducible repeat (first | refine blk_drewN ?_ _ | refine blk_drew ?_ | refine blk_alloc ?_ _)); exact BK11001.out) hb); have n3_ := Aside0.mk (below_step (by repeat (first | (with_reducible first | exact HB.out | apply below_alloc | apply pw_below_drewN | apply below_drew1 | refine below_set ?_ GE11001.out) | exact HB.out)) hb); clear HO11006; clear BK11001; clear HB; have HO11006 := n0_; have HO11009 := n1_; have BK11001 := n2_; have HB := n3_; clear n0_ n1_ n2_ n3_; (try clear hb); (try clear hb2); (try clear hk); (try clear hi); (try clear ho0); have hcz15_0 : w14.cell? ⟨gb11001, 0, none⟩ = some (.int .i64 a1_0) := (blk_cell BK11001.out 0).trans rfl; have hcz15_1 : w14.cell? ⟨gb11001, 1, none⟩ = some (.int .i64 a1_1) := (blk_cell BK11001.out 1).trans rfl; have hfz15_0 := blk_frozen BK11001.out 0; have hfz15_1 := blk_frozen BK11001.out 1) | ((with_reducible refine gate_callee (f := 22) rfl ?_); refine goesL_ (some 34) rfl rfl Try.func22 (by kernel_rfl) rfl #[.slice A0 l0.length c0, .agg #[.int .i64 a1_0, .int .i64 a1_1]] rfl (by (try simp only [List.map_toArray, List.map_cons, List.map_nil]); first | done | rfl | (simp only [List.length_drop, List.length_take]; rfl)) ?_; (with_reducible refine (reel_Grade.calls k _ _ l0 a1_0 a1_1 t11011 t11012 t11013 _ ?side1 ?side2 A9.out).mono ?_); (case side1 => repeat (first | exact (Kd.C_below HR0.out HB.out) | (with_reducible refine Kd.C_alloc ?_ _) | (with_reducible refine Kd.C_drewN ?_ _) | (with_reducible refine Kd.C_drew ?_))); (case side2 => exact HC0.out); rintro e w16 ⟨rfl, hb⟩; refine ⟨_, rfl, ?_⟩; have n0_ := Aside0.mk (Kd.R_below (by (with_reducible repeat (first | apply Kd.R_alloc | apply Kd.R_drewN | apply Kd.R_drew)); exact HO11006.out) hb); have n1_ := Aside0.mk (Kd.R_below (by (with_reducible repeat (first | apply Kd.R_alloc | apply Kd.R_drewN | apply Kd.R_drew)); exact HO11009.out) hb); have n2_ := Aside0.mk (blk_below (g := gb11001) (o := .cells #[.int .i64 a1_0, .int .i64 a1_1] 36 (0, 0)) (by (with_reducible repeat (first | refine blk_drewN ?_ _ | refine blk_drew ?_ | refine blk_alloc ?_ _)); exact BK11001.out) hb); have n3_ := Aside0.mk (below_step (by repeat (first | (with_reducible first | exact HB.out | apply below_alloc | apply pw_below_drewN | apply below_drew1 | refine below_set ?_ GE11001.out) | exact HB.out)) hb); clear HO11006; clear HO11009; clear BK11001; clear HB; have HO11006 := n0_; have HO11009 := n1_; have BK11001 := n2_; have HB := n3_; clear n0_ n1_ n2_ n3_; (try clear hb); (try clear hb2); (try clear hk); (try clear hi)))
  (try simp only [Act.put, List.setIfInBounds_toArray, List.set_cons_zero, List.set_cons_succ])
  go_cut [43] (fun v43 wc => ∃ (kq : Nat) (x43_9 : Bool), v43 = .bool x43_9 ∧ Aside0 (papermilllaw34_ReelLost.j0 kq t11003 t11007 t11010 t11012 t11013 x43_9 a1_0 a1_1 = some r) ∧ Aside0 (kq ≤ k) ∧ Aside0 (Kd.R k36 36 wc w.heap.size (fun k_ => k_ ≠ gb11001) v11005 t11003) ∧ Aside0 (Kd.R k44 44 wc w.heap.size (fun _ => True) v11008 t11007) ∧ Aside0 (wc.heap[gb11001]? = some (.cells #[.int .i64 a1_0, .int .i64 a1_1] 36 (0, 0))) ∧ Aside0 (Below w.heap.size w wc))
  case first =>
   have H := HC10.out
   clear HC10
   by_cases c17 : t11004 = 0
   ·rw [if_pos c17] at H
    have c17b0 : (t11004 == 0) = true := beq_iff_eq.mpr c17
    have c17b1 : (t11004 != 0) = false := bne_eq_false_iff_eq.mpr c17
    clear c17
    (first | rw [c17b0] | (simp only [i64_w, i32_w]; rw [c17b0]) | skip)
    have H' := Aside0.mk H
    clear H
    go_wp2
    go_meet
    case rel => exact ⟨_, ((t11010 != 0)), (by first | rfl | (simp; done) | (simp [*]; done)), H', ⟨by first | omega | exact Nat.le_refl _⟩, ⟨by (with_reducible repeat (first | apply Kd.R_alloc | apply Kd.R_drewN | apply Kd.R_drew)); exact Kd.R_mono HO11006.out (fun _ hk => hk.2)⟩, ⟨by (with_reducible repeat (first | apply Kd.R_alloc | apply Kd.R_drewN | apply Kd.R_drew)); exact HO11009.out⟩, ⟨by (with_reducible repeat (first | refine blk_drewN ?_ _ | refine blk_drew ?_ | refine blk_alloc ?_ _)); exact BK11001.out⟩, ⟨by repeat (first | (with_reducible first | exact HB.out | apply below_alloc | apply pw_below_drewN | apply below_drew1 | refine below_set ?_ GE11001.out) | exact HB.out)⟩⟩
   ·rw [if_neg c17] at H
    have c17b0 : (t11004 == 0) = false := beq_eq_false_iff_ne.mpr c17
    have c17b1 : (t11004 != 0) = true := bne_iff_ne.mpr c17
    (first | rw [c17b0] | (simp only [i64_w, i32_w]; rw [c17b0]) | skip)
    have H' := Aside0.mk H
    clear H
    go_wp2
    go_meet
    case rel => exact ⟨_, (true), (by first | rfl | (simp; done) | (simp [*]; done)), H', ⟨by first | omega | exact Nat.le_refl _⟩, ⟨by (with_reducible repeat (first | apply Kd.R_alloc | apply Kd.R_drewN | apply Kd.R_drew)); exact Kd.R_mono HO11006.out (fun _ hk => hk.2)⟩, ⟨by (with_reducible repeat (first | apply Kd.R_alloc | apply Kd.R_drewN | apply Kd.R_drew)); exact HO11009.out⟩, ⟨by (with_reducible repeat (first | refine blk_drewN ?_ _ | refine blk_drew ?_ | refine blk_alloc ?_ _)); exact BK11001.out⟩, ⟨by repeat (first | (with_reducible first | exact HB.out | apply below_alloc | apply pw_below_drewN | apply below_drew1 | refine below_set ?_ GE11001.out) | exact HB.out)⟩⟩
  case rest =>
   clear HC10
   try clear c1
   try clear c2
   try clear p2
   try clear c3
   try clear c3b0
   try clear c3b1
   try clear c10
   try clear c12
   try clear c13
   try clear c17
   try clear c17b0
   try clear c17b1
   try clear hcz13_0
   try clear hcz13_1
   try clear hcz15_0
   try clear hcz15_1
   try clear hfz13_0
   try clear hfz13_1
   try clear hfz15_0
   try clear hfz15_1
   obtain ⟨kq, x43_9, rfl, HA, HJ9, HO_5, HO_7, BK11001, HB⟩ := hcut
   cases kq with
   | zero => exact absurd HA.out (by simp [papermilllaw34_ReelLost.j0])
   | succ kj9 =>
    have H := HA.out
    clear HA
    simp only [papermilllaw34_ReelLost.j0] at H
    by_cases c18 : x43_9 = true
    ·subst c18
     have H1 : (if t11013 = t11010 then ((papermilllaw34_awake.f).bind fun t11014 => (some t11014)) else none) = some r := by rw [if_pos rfl] at H; exact H
     clear H
     have H := H1
     clear H1
     by_cases c19 : t11013 = t11010
     ·rw [if_pos c19] at H
      have c19b0 : (t11013 == t11010) = true := beq_iff_eq.mpr c19
      have c19b1 : (t11013 != t11010) = false := bne_eq_false_iff_eq.mpr c19
      clear c19
      replace H := Option.bind_eq_some_iff.mp H
      obtain ⟨t11014, A200, H⟩ := H
      replace H : (some t11014) = some r := H
      have A20 := Aside0.mk A200
      clear A200
      obtain rfl := Option.some.inj H
      go_wp2_with (first | (go_at_call 12; (with_reducible refine (papermilllaw34_awake.calls  t11014 _ A20.out).mono ?_); rintro e w21 ⟨rfl, hb⟩; have n0_ := Aside0.mk (Kd.R_below (by (with_reducible repeat (first | apply Kd.R_alloc | apply Kd.R_drewN | apply Kd.R_drew)); exact HO_5.out) hb); have n1_ := Aside0.mk (Kd.R_below (by (with_reducible repeat (first | apply Kd.R_alloc | apply Kd.R_drewN | apply Kd.R_drew)); exact HO_7.out) hb); have n2_ := Aside0.mk (blk_below (g := gb11001) (o := .cells #[.int .i64 a1_0, .int .i64 a1_1] 36 (0, 0)) (by (with_reducible repeat (first | refine blk_drewN ?_ _ | refine blk_drew ?_ | refine blk_alloc ?_ _)); exact BK11001.out) hb); have n3_ := Aside0.mk (below_step (by repeat (first | (with_reducible first | exact HB.out | apply below_alloc | apply pw_below_drewN | apply below_drew1 | refine below_set ?_ GE11001.out) | exact HB.out)) hb); clear HO_5; clear HO_7; clear BK11001; clear HB; have HO_5 := n0_; have HO_7 := n1_; have BK11001 := n2_; have HB := n3_; clear n0_ n1_ n2_ n3_; (try clear hb); (try clear hb2); (try clear hk); (try clear hi)))
      go_ret
      exact ⟨by first | rfl | (simp [errW_none, errW_some] <;> rfl) | (simp [*, errW_none, errW_some] <;> rfl), by repeat (first | (with_reducible first | exact HB.out | apply below_alloc | apply pw_below_drewN | apply below_drew1 | refine below_set ?_ GE11001.out) | exact HB.out)⟩
     ·rw [if_neg c19] at H
      have c19b0 : (t11013 == t11010) = false := beq_eq_false_iff_ne.mpr c19
      have c19b1 : (t11013 != t11010) = true := bne_iff_ne.mpr c19
      cases H
    ·replace c18 := Bool.eq_false_iff.mpr c18
     subst c18
     have H1 : (papermilllaw34_ReelLost.l0 kj9 t11003 t11007 t11012 t11013 false 0 a1_0 a1_1) = some r := by rw [if_neg (show ¬ (false = true) by decide)] at H; first | exact H | simpa using H
     clear H
     have H := H1
     clear H1
     have H' := Aside0.mk H
     clear H
     go_wp2
     go_loopg [12, 13] kj9 (fun kq v12 v13 w' => ∃ (x12_2 : Bool) (x13_2 : Int), v12 = .bool x12_2 ∧ v13 = .int .i64 x13_2 ∧ Aside0 (papermilllaw34_ReelLost.l0 kq t11003 t11007 t11012 t11013 x12_2 x13_2 a1_0 a1_1 = some r) ∧ Aside0 (kq ≤ kj9) ∧ Aside0 (Kd.R k36 36 w' w.heap.size (fun k_ => k_ ≠ gb11001) v11005 t11003) ∧ Aside0 (Kd.R k44 44 w' w.heap.size (fun _ => True) v11008 t11007) ∧ Aside0 (w'.heap[gb11001]? = some (.cells #[.int .i64 a1_0, .int .i64 a1_1] 36 (0, 0))) ∧ Aside0 (Below w.heap.size w w'))
     case atStart => exact ⟨(false), (0), (by first | rfl | (simp; done) | (simp [*]; done)), (by first | rfl | (simp; done) | (simp [*]; done)), H', ⟨Nat.le_refl _⟩, ⟨by (with_reducible repeat (first | apply Kd.R_alloc | apply Kd.R_drewN | apply Kd.R_drew)); exact HO_5.out⟩, ⟨by (with_reducible repeat (first | apply Kd.R_alloc | apply Kd.R_drewN | apply Kd.R_drew)); exact HO_7.out⟩, ⟨by (with_reducible repeat (first | refine blk_drewN ?_ _ | refine blk_drew ?_ | refine blk_alloc ?_ _)); exact BK11001.out⟩, ⟨by repeat (first | (with_reducible first | exact HB.out | apply below_alloc | apply pw_below_drewN | apply below_drew1 | refine below_set ?_ GE11001.out) | exact HB.out)⟩⟩
     case round =>
      clear H'
      try clear c1
      try clear c2
      try clear p2
      try clear c3
      try clear c3b0
      try clear c3b1
      try clear c10
      try clear c12
      try clear c13
      try clear c17
      try clear c17b0
      try clear c17b1
      try clear c18
      try clear c19
      try clear c19b0
      try clear c19b1
      try clear c20
      try clear hcz13_0
      try clear hcz13_1
      try clear hcz15_0
      try clear hcz15_1
      try clear hfz13_0
      try clear hfz13_1
      try clear hfz15_0
      try clear hfz15_1
      try clear p2
      obtain ⟨x12_2, x13_2, rfl, rfl, HA, HK2, HO_5, HO_7, BK11001, HB⟩ := hrel
      cases gk with
      | zero => exact absurd HA.out (by simp [papermilllaw34_ReelLost.l0])
      | succ k2 =>
       have H := HA.out
       clear HA
       simp only [papermilllaw34_ReelLost.l0] at H
       by_cases c22 : x13_2 < (t11007.length : Int)
       ·rw [if_pos c22] at H
        have c22b0 : decide (x13_2 < (t11007.length : Int)) = true := decide_eq_true c22
        clear c22
        by_cases c23 : x12_2 = true
        ·subst c23
         have H1 : (papermilllaw34_ReelLost.l0 k2 t11003 t11007 t11012 t11013 true (wrap64 (x13_2 + 1)) a1_0 a1_1) = some r := by rw [if_pos rfl] at H; exact H
         clear H
         have H := H1
         clear H1
         have H' := Aside0.mk H
         clear H
         obtain ⟨Ao24, co24, eo24⟩ := Kd.R_slice HO_7.out
         subst eo24
         go_wp2
         go_roundg k2
         case measure => have := HJ9.out; have := HK2.out; omega
         case rel => exact ⟨(true), (wrap64 (x13_2 + 1)), (by first | rfl | (simp; done) | (simp [*]; done)), (by first | rfl | (simp; done) | (simp [*]; done)), H', ⟨by have := HJ9.out; have := HK2.out; omega⟩, ⟨by (with_reducible repeat (first | apply Kd.R_alloc | apply Kd.R_drewN | apply Kd.R_drew)); exact HO_5.out⟩, ⟨by (with_reducible repeat (first | apply Kd.R_alloc | apply Kd.R_drewN | apply Kd.R_drew)); exact HO_7.out⟩, ⟨by (with_reducible repeat (first | refine blk_drewN ?_ _ | refine blk_drew ?_ | refine blk_alloc ?_ _)); exact BK11001.out⟩, ⟨by repeat (first | (with_reducible first | exact HB.out | apply below_alloc | apply pw_below_drewN | apply below_drew1 | refine below_set ?_ GE11001.out) | exact HB.out)⟩⟩
        ·replace c23 := Bool.eq_false_iff.mpr c23
         subst c23
         have H1 : (if 0 ≤ x13_2 then (papermilllaw34_ReelLost.l0 k2 t11003 t11007 t11012 t11013 (((rd_T44 t11007 x13_2).f2) == 3) (wrap64 (x13_2 + 1)) a1_0 a1_1) else (none)) = some r := by rw [if_neg (show ¬ (false = true) by decide)] at H; first | exact H | simpa using H
         clear H
         have H := H1
         clear H1
         by_cases c25 : 0 ≤ x13_2
         ·rw [if_pos c25] at H
          have c25b0 : decide (0 ≤ x13_2) = true := decide_eq_true c25
          clear c25
          have H' := Aside0.mk H
          clear H
          obtain ⟨Ao26, co26, eo26⟩ := Kd.R_slice HO_7.out
          subst eo26
          have p11015 : 0 ≤ (x13_2 : Int) := of_decide_eq_true (by first | (with_reducible assumption) | assumption)
          have q11015 : x13_2 < (t11007.length : Int) := of_decide_eq_true (by first | (with_reducible assumption) | assumption)
          obtain ⟨ad11015, e11015, hx11015_0, hx11015_1, hx11015_2, hx11015_3, hx11015_4⟩ := at_T44 (Kd.R_reads' HO_7.out).2.2 x13_2 p11015 q11015
          cases e11015
          replace p11015 := eq_true p11015
          replace q11015 := eq_true q11015
          go_wp2
          go_roundg k2
          case measure => have := HJ9.out; have := HK2.out; omega
          case rel => exact ⟨((((rd_T44 t11007 x13_2).f2) == 3)), (wrap64 (x13_2 + 1)), (by first | rfl | (simp; done) | (simp [*]; done)), (by first | rfl | (simp; done) | (simp [*]; done)), H', ⟨by have := HJ9.out; have := HK2.out; omega⟩, ⟨by (with_reducible repeat (first | apply Kd.R_alloc | apply Kd.R_drewN | apply Kd.R_drew)); exact HO_5.out⟩, ⟨by (with_reducible repeat (first | apply Kd.R_alloc | apply Kd.R_drewN | apply Kd.R_drew)); exact HO_7.out⟩, ⟨by (with_reducible repeat (first | refine blk_drewN ?_ _ | refine blk_drew ?_ | refine blk_alloc ?_ _)); exact BK11001.out⟩, ⟨by repeat (first | (with_reducible first | exact HB.out | apply below_alloc | apply pw_below_drewN | apply below_drew1 | refine below_set ?_ GE11001.out) | exact HB.out)⟩⟩
         ·rw [if_neg c25] at H
          exact absurd H (by simp)
       ·rw [if_neg c22] at H
        have c22b0 : decide (x13_2 < (t11007.length : Int)) = false := decide_eq_false c22
        clear c22
        obtain ⟨y11016, hy11016⟩ : ∃ y_ : List (S36), y_ = (([(⟨a1_0, a1_1⟩ : S36)] : List (S36))) := ⟨_, rfl⟩
        replace H : ((span_Common.f k2 t11003 y11016).bind fun bt11019 => (if t11013 = 0 then (if bt11019.2 = 0 then (if (x12_2 == (decide ((bt11019.1.length : Int) > 0))) = true then (if t11012 = true then (if x12_2 = true then none else ((papermilllaw34_awake.f).bind fun t11023 => (some t11023))) else ((papermilllaw34_awake.f).bind fun t11024 => (some t11024))) else none) else none) else none)) = some r := by first | (rw [hy11016]; with_reducible exact H) | (have H2_ := (Option.bind_some _ _).symm.trans H; rw [hy11016]; with_reducible exact H2_) | (have H2_ := (Option.bind_some _ _).symm.trans H; with_reducible exact H2_) | with_reducible exact H | (rw [hy11016]; exact H) | exact H
        have Ny11016 := Aside0.mk hy11016
        clear hy11016
        replace H := Option.bind_eq_some_iff.mp H
        obtain ⟨⟨t11019, t11020⟩, A270, H⟩ := H
        replace H : (if t11013 = 0 then (if t11020 = 0 then (if (x12_2 == (decide ((t11019.length : Int) > 0))) = true then (if t11012 = true then (if x12_2 = true then none else ((papermilllaw34_awake.f).bind fun t11023 => (some t11023))) else ((papermilllaw34_awake.f).bind fun t11024 => (some t11024))) else none) else none) else none) = some r := H
        have A27 := Aside0.mk A270
        clear A270
        by_cases c28 : t11013 = 0
        ·rw [if_pos c28] at H
         have c28b0 : (t11013 == 0) = true := beq_iff_eq.mpr c28
         have c28b1 : (t11013 != 0) = false := bne_eq_false_iff_eq.mpr c28
         clear c28
         by_cases c29 : t11020 = 0
         ·rw [if_pos c29] at H
          have c29b0 : (t11020 == 0) = true := beq_iff_eq.mpr c29
          have c29b1 : (t11020 != 0) = false := bne_eq_false_iff_eq.mpr c29
          clear c29
          by_cases c30 : (x12_2 == (decide ((t11019.length : Int) > 0))) = true
          ·rw [if_pos c30] at H
           have c30b0 : (x12_2 == (decide ((t11019.length : Int) > 0))) = true := c30
           (try (have c30b1 : decide (x12_2 = (decide ((t11019.length : Int) > 0))) = true := by simpa using c30))
           (try (have c30b2 : (x12_2 == (decide ((t11019.length : Int) > 0))) = true := by simpa using c30))
           clear c30
           by_cases c31 : t11012 = true
           ·subst c31
            have H1 : (if x12_2 = true then none else ((papermilllaw34_awake.f).bind fun t11023 => (some t11023))) = some r := by rw [if_pos rfl] at H; exact H
            clear H
            have H := H1
            clear H1
            by_cases c32 : x12_2 = true
            ·subst c32
             have H1 : none = some r := by rw [if_pos rfl] at H; exact H
             clear H
             have H := H1
             clear H1
             cases H
            ·replace c32 := Bool.eq_false_iff.mpr c32
             subst c32
             have c30b4 : t11019 = [] := by simpa using c30b0
             have H1 : ((papermilllaw34_awake.f).bind fun t11023 => (some t11023)) = some r := by rw [if_neg (show ¬ (false = true) by decide)] at H; first | exact H | simpa using H
             clear H
             have H := H1
             clear H1
             replace H := Option.bind_eq_some_iff.mp H
             obtain ⟨t11023, A410, H⟩ := H
             replace H : (some t11023) = some r := H
             have A41 := Aside0.mk A410
             clear A410
             obtain rfl := Option.some.inj H
             obtain ⟨Ao42, co42, eo42⟩ := Kd.R_slice HO_7.out
             subst eo42
             have hcz43_0 : wr.cell? ⟨gb11001, 0, none⟩ = some (.int .i64 a1_0) := (blk_cell BK11001.out 0).trans rfl
             have hcz43_1 : wr.cell? ⟨gb11001, 1, none⟩ = some (.int .i64 a1_1) := (blk_cell BK11001.out 1).trans rfl
             have hfz43_0 := blk_frozen BK11001.out 0
             have hfz43_1 := blk_frozen BK11001.out 1
             go_wp2_with (first | ((with_reducible refine gate_dst (N := 68) rfl ?_); (try (refine gate_guard (by rfl) ?_; dsimp only)); refine Kd.R_lit k36 _ 36 ?hg (N := 68) ?hd (xs := ([(⟨a1_0, a1_1⟩ : S36)] : List (S36))) (inner := [.int .i64 a1_0, .int .i64 a1_1]) (ok := fun _ => True) (okp := fun _ => True) ?hr ?hp (fun _ hk => hk) trivial (Below.refl _ _) (Nat.le_refl _) (by simp) ?_; (case hd => rfl); (case hg => rfl); (case hr => first | (go_simp; done) | (go_simp; rfl)); (case hp => exact (Reps.c2 (show Kd.M k36 _ _ _ (⟨a1_0, a1_1⟩ : S36) [.int .i64 a1_0, .int .i64 a1_1] from (k36_mkM _ _ _ (⟨a1_0, a1_1⟩ : S36) )) (Reps.none _ _))); intro v11017 w44 ho45 hb hg_ hnew_; clear hg_ hnew_; (first | rw [← Ny11016.out] at ho45 | (simp only [Int.reduceToNat] at ho45; rw [← Ny11016.out] at ho45)); have n0_ := Aside0.mk (Kd.R_elder' (by (with_reducible repeat (first | apply Kd.R_alloc | apply Kd.R_drewN | apply Kd.R_drew)); exact HO_5.out) (Kd.R_base ho45) hb); have n1_ := Aside0.mk (Kd.R_below (by (with_reducible repeat (first | apply Kd.R_alloc | apply Kd.R_drewN | apply Kd.R_drew)); exact HO_7.out) hb); have n2_ := Aside0.mk (Kd.R_lower (Kd.R_newB (Kd.R_new' ho45 (Kd.R_lt (by (with_reducible repeat (first | apply Kd.R_alloc | apply Kd.R_drewN | apply Kd.R_drew)); exact HO_5.out))) (g := gb11001) (o := .cells #[.int .i64 a1_0, .int .i64 a1_1] 36 (0, 0)) (by (with_reducible repeat (first | refine blk_drewN ?_ _ | refine blk_drew ?_ | refine blk_alloc ?_ _)); exact BK11001.out)) (below_size (by repeat (first | (with_reducible first | exact HB.out | apply below_alloc | apply pw_below_drewN | apply below_drew1 | refine below_set ?_ GE11001.out) | exact HB.out)))); have n3_ := Aside0.mk (blk_below (g := gb11001) (o := .cells #[.int .i64 a1_0, .int .i64 a1_1] 36 (0, 0)) (by (with_reducible repeat (first | refine blk_drewN ?_ _ | refine blk_drew ?_ | refine blk_alloc ?_ _)); exact BK11001.out) hb); have n4_ := Aside0.mk (below_step (by repeat (first | (with_reducible first | exact HB.out | apply below_alloc | apply pw_below_drewN | apply below_drew1 | refine below_set ?_ GE11001.out) | exact HB.out)) hb); clear HO_5; clear HO_7; clear BK11001; clear HB; have HO_5 := n0_; have HO_7 := n1_; have HO11018 := n2_; have BK11001 := n3_; have HB := n4_; clear n0_ n1_ n2_ n3_ n4_; clear hb ho45; obtain ⟨Ao46, co46, eo46⟩ := Kd.R_slice HO_5.out; subst eo46; obtain ⟨Ao47, co47, eo47⟩ := Kd.R_slice HO11018.out; subst eo47) | ((with_reducible refine gate_callee (f := 25) rfl ?_); refine goesL_ (some 69) rfl rfl Try.func25 (by kernel_rfl) rfl #[.slice Ao46 t11003.length co46, .slice Ao47 y11016.length co47] rfl (by (try simp only [List.map_toArray, List.map_cons, List.map_nil]); first | done | rfl | (simp only [List.length_drop, List.length_take]; rfl)) ?_; (with_reducible refine (span_Common.calls k2 _ _ t11003 _ _ y11016 t11019 t11020 _ ?side1 ?side2 ?side3 ?side4 A27.out).mono ?_); (case side1 => repeat (first | exact (Kd.R_reads' HO_5.out).2.2 | (with_reducible refine Kd.C_alloc ?_ _) | (with_reducible refine Kd.C_drewN ?_ _) | (with_reducible refine Kd.C_drew ?_))); (case side2 => exact (Kd.R_reads' HO_5.out).2.1); (case side3 => repeat (first | exact (Kd.R_reads' HO11018.out).2.2 | (with_reducible refine Kd.C_alloc ?_ _) | (with_reducible refine Kd.C_drewN ?_ _) | (with_reducible refine Kd.C_drew ?_))); (case side4 => exact (Kd.R_reads' HO11018.out).2.1); rintro e w48 ⟨v11021, rfl, ho0, hb⟩; refine ⟨_, rfl, ?_⟩; have n0_ := Aside0.mk (Kd.R_elder' (by (with_reducible repeat (first | apply Kd.R_alloc | apply Kd.R_drewN | apply Kd.R_drew)); exact HO_5.out) (Kd.R_base ho0) hb); have n1_ := Aside0.mk (Kd.R_below (by (with_reducible repeat (first | apply Kd.R_alloc | apply Kd.R_drewN | apply Kd.R_drew)); exact HO_7.out) hb); have n2_ := Aside0.mk (Kd.R_elder' (by (with_reducible repeat (first | apply Kd.R_alloc | apply Kd.R_drewN | apply Kd.R_drew)); exact HO11018.out) (Kd.R_base ho0) hb); have n3_ := Aside0.mk (Kd.R_lower (Kd.R_newB (Kd.R_new' (Kd.R_new' ho0 (Kd.R_lt (by (with_reducible repeat (first | apply Kd.R_alloc | apply Kd.R_drewN | apply Kd.R_drew)); exact HO_5.out))) (Kd.R_lt (by (with_reducible repeat (first | apply Kd.R_alloc | apply Kd.R_drewN | apply Kd.R_drew)); exact HO11018.out))) (g := gb11001) (o := .cells #[.int .i64 a1_0, .int .i64 a1_1] 36 (0, 0)) (by (with_reducible repeat (first | refine blk_drewN ?_ _ | refine blk_drew ?_ | refine blk_alloc ?_ _)); exact BK11001.out)) (below_size (by repeat (first | (with_reducible first | exact HB.out | apply below_alloc | apply pw_below_drewN | apply below_drew1 | refine below_set ?_ GE11001.out) | exact HB.out)))); have n4_ := Aside0.mk (blk_below (g := gb11001) (o := .cells #[.int .i64 a1_0, .int .i64 a1_1] 36 (0, 0)) (by (with_reducible repeat (first | refine blk_drewN ?_ _ | refine blk_drew ?_ | refine blk_alloc ?_ _)); exact BK11001.out) hb); have n5_ := Aside0.mk (below_step (by repeat (first | (with_reducible first | exact HB.out | apply below_alloc | apply pw_below_drewN | apply below_drew1 | refine below_set ?_ GE11001.out) | exact HB.out)) hb); clear HO_5; clear HO_7; clear HO11018; clear BK11001; clear HB; have HO_5 := n0_; have HO_7 := n1_; have HO11018 := n2_; have HO11022 := n3_; have BK11001 := n4_; have HB := n5_; clear n0_ n1_ n2_ n3_ n4_ n5_; (try clear hb); (try clear hb2); (try clear hk); (try clear hi); (try clear ho0); obtain ⟨Ao49, co49, eo49⟩ := Kd.R_slice HO11022.out; subst eo49) | (go_at_call 12; (with_reducible refine (papermilllaw34_awake.calls  t11023 _ A41.out).mono ?_); rintro e w50 ⟨rfl, hb⟩; have n0_ := Aside0.mk (Kd.R_below (by (with_reducible repeat (first | apply Kd.R_alloc | apply Kd.R_drewN | apply Kd.R_drew)); exact HO_5.out) hb); have n1_ := Aside0.mk (Kd.R_below (by (with_reducible repeat (first | apply Kd.R_alloc | apply Kd.R_drewN | apply Kd.R_drew)); exact HO_7.out) hb); have n2_ := Aside0.mk (Kd.R_below (by (with_reducible repeat (first | apply Kd.R_alloc | apply Kd.R_drewN | apply Kd.R_drew)); exact HO11018.out) hb); have n3_ := Aside0.mk (Kd.R_below (by (with_reducible repeat (first | apply Kd.R_alloc | apply Kd.R_drewN | apply Kd.R_drew)); exact HO11022.out) hb); have n4_ := Aside0.mk (blk_below (g := gb11001) (o := .cells #[.int .i64 a1_0, .int .i64 a1_1] 36 (0, 0)) (by (with_reducible repeat (first | refine blk_drewN ?_ _ | refine blk_drew ?_ | refine blk_alloc ?_ _)); exact BK11001.out) hb); have n5_ := Aside0.mk (below_step (by repeat (first | (with_reducible first | exact HB.out | apply below_alloc | apply pw_below_drewN | apply below_drew1 | refine below_set ?_ GE11001.out) | exact HB.out)) hb); clear HO_5; clear HO_7; clear HO11018; clear HO11022; clear BK11001; clear HB; have HO_5 := n0_; have HO_7 := n1_; have HO11018 := n2_; have HO11022 := n3_; have BK11001 := n4_; have HB := n5_; clear n0_ n1_ n2_ n3_ n4_ n5_; (try clear hb); (try clear hb2); (try clear hk); (try clear hi)))
             go_ret
             exact ⟨by first | rfl | (simp [errW_none, errW_some] <;> rfl) | (simp [*, errW_none, errW_some] <;> rfl), by repeat (first | (with_reducible first | exact HB.out | apply below_alloc | apply pw_below_drewN | apply below_drew1 | refine below_set ?_ GE11001.out) | exact HB.out)⟩
           ·replace c31 := Bool.eq_false_iff.mpr c31
            subst c31
            have c30b3 : x12_2 = decide (0 < t11019.length) := by simpa using c30b0
            have H1 : ((papermilllaw34_awake.f).bind fun t11024 => (some t11024)) = some r := by rw [if_neg (show ¬ (false = true) by decide)] at H; first | exact H | simpa using H
            clear H
            have H := H1
            clear H1
            replace H := Option.bind_eq_some_iff.mp H
            obtain ⟨t11024, A510, H⟩ := H
            replace H : (some t11024) = some r := H
            have A51 := Aside0.mk A510
            clear A510
            obtain rfl := Option.some.inj H
            obtain ⟨Ao52, co52, eo52⟩ := Kd.R_slice HO_7.out
            subst eo52
            have hcz53_0 : wr.cell? ⟨gb11001, 0, none⟩ = some (.int .i64 a1_0) := (blk_cell BK11001.out 0).trans rfl
            have hcz53_1 : wr.cell? ⟨gb11001, 1, none⟩ = some (.int .i64 a1_1) := (blk_cell BK11001.out 1).trans rfl
            have hfz53_0 := blk_frozen BK11001.out 0
            have hfz53_1 := blk_frozen BK11001.out 1
            go_wp2_with (first | ((with_reducible refine gate_dst (N := 68) rfl ?_); (try (refine gate_guard (by rfl) ?_; dsimp only)); refine Kd.R_lit k36 _ 36 ?hg (N := 68) ?hd (xs := ([(⟨a1_0, a1_1⟩ : S36)] : List (S36))) (inner := [.int .i64 a1_0, .int .i64 a1_1]) (ok := fun _ => True) (okp := fun _ => True) ?hr ?hp (fun _ hk => hk) trivial (Below.refl _ _) (Nat.le_refl _) (by simp) ?_; (case hd => rfl); (case hg => rfl); (case hr => first | (go_simp; done) | (go_simp; rfl)); (case hp => exact (Reps.c2 (show Kd.M k36 _ _ _ (⟨a1_0, a1_1⟩ : S36) [.int .i64 a1_0, .int .i64 a1_1] from (k36_mkM _ _ _ (⟨a1_0, a1_1⟩ : S36) )) (Reps.none _ _))); intro v11017 w54 ho55 hb hg_ hnew_; clear hg_ hnew_; (first | rw [← Ny11016.out] at ho55 | (simp only [Int.reduceToNat] at ho55; rw [← Ny11016.out] at ho55)); have n0_ := Aside0.mk (Kd.R_elder' (by (with_reducible repeat (first | apply Kd.R_alloc | apply Kd.R_drewN | apply Kd.R_drew)); exact HO_5.out) (Kd.R_base ho55) hb); have n1_ := Aside0.mk (Kd.R_below (by (with_reducible repeat (first | apply Kd.R_alloc | apply Kd.R_drewN | apply Kd.R_drew)); exact HO_7.out) hb); have n2_ := Aside0.mk (Kd.R_lower (Kd.R_newB (Kd.R_new' ho55 (Kd.R_lt (by (with_reducible repeat (first | apply Kd.R_alloc | apply Kd.R_drewN | apply Kd.R_drew)); exact HO_5.out))) (g := gb11001) (o := .cells #[.int .i64 a1_0, .int .i64 a1_1] 36 (0, 0)) (by (with_reducible repeat (first | refine blk_drewN ?_ _ | refine blk_drew ?_ | refine blk_alloc ?_ _)); exact BK11001.out)) (below_size (by repeat (first | (with_reducible first | exact HB.out | apply below_alloc | apply pw_below_drewN | apply below_drew1 | refine below_set ?_ GE11001.out) | exact HB.out)))); have n3_ := Aside0.mk (blk_below (g := gb11001) (o := .cells #[.int .i64 a1_0, .int .i64 a1_1] 36 (0, 0)) (by (with_reducible repeat (first | refine blk_drewN ?_ _ | refine blk_drew ?_ | refine blk_alloc ?_ _)); exact BK11001.out) hb); have n4_ := Aside0.mk (below_step (by repeat (first | (with_reducible first | exact HB.out | apply below_alloc | apply pw_below_drewN | apply below_drew1 | refine below_set ?_ GE11001.out) | exact HB.out)) hb); clear HO_5; clear HO_7; clear BK11001; clear HB; have HO_5 := n0_; have HO_7 := n1_; have HO11018 := n2_; have BK11001 := n3_; have HB := n4_; clear n0_ n1_ n2_ n3_ n4_; clear hb ho55; obtain ⟨Ao56, co56, eo56⟩ := Kd.R_slice HO_5.out; subst eo56; obtain ⟨Ao57, co57, eo57⟩ := Kd.R_slice HO11018.out; subst eo57) | ((with_reducible refine gate_callee (f := 25) rfl ?_); refine goesL_ (some 69) rfl rfl Try.func25 (by kernel_rfl) rfl #[.slice Ao56 t11003.length co56, .slice Ao57 y11016.length co57] rfl (by (try simp only [List.map_toArray, List.map_cons, List.map_nil]); first | done | rfl | (simp only [List.length_drop, List.length_take]; rfl)) ?_; (with_reducible refine (span_Common.calls k2 _ _ t11003 _ _ y11016 t11019 t11020 _ ?side1 ?side2 ?side3 ?side4 A27.out).mono ?_); (case side1 => repeat (first | exact (Kd.R_reads' HO_5.out).2.2 | (with_reducible refine Kd.C_alloc ?_ _) | (with_reducible refine Kd.C_drewN ?_ _) | (with_reducible refine Kd.C_drew ?_))); (case side2 => exact (Kd.R_reads' HO_5.out).2.1); (case side3 => repeat (first | exact (Kd.R_reads' HO11018.out).2.2 | (with_reducible refine Kd.C_alloc ?_ _) | (with_reducible refine Kd.C_drewN ?_ _) | (with_reducible refine Kd.C_drew ?_))); (case side4 => exact (Kd.R_reads' HO11018.out).2.1); rintro e w58 ⟨v11021, rfl, ho0, hb⟩; refine ⟨_, rfl, ?_⟩; have n0_ := Aside0.mk (Kd.R_elder' (by (with_reducible repeat (first | apply Kd.R_alloc | apply Kd.R_drewN | apply Kd.R_drew)); exact HO_5.out) (Kd.R_base ho0) hb); have n1_ := Aside0.mk (Kd.R_below (by (with_reducible repeat (first | apply Kd.R_alloc | apply Kd.R_drewN | apply Kd.R_drew)); exact HO_7.out) hb); have n2_ := Aside0.mk (Kd.R_elder' (by (with_reducible repeat (first | apply Kd.R_alloc | apply Kd.R_drewN | apply Kd.R_drew)); exact HO11018.out) (Kd.R_base ho0) hb); have n3_ := Aside0.mk (Kd.R_lower (Kd.R_newB (Kd.R_new' (Kd.R_new' ho0 (Kd.R_lt (by (with_reducible repeat (first | apply Kd.R_alloc | apply Kd.R_drewN | apply Kd.R_drew)); exact HO_5.out))) (Kd.R_lt (by (with_reducible repeat (first | apply Kd.R_alloc | apply Kd.R_drewN | apply Kd.R_drew)); exact HO11018.out))) (g := gb11001) (o := .cells #[.int .i64 a1_0, .int .i64 a1_1] 36 (0, 0)) (by (with_reducible repeat (first | refine blk_drewN ?_ _ | refine blk_drew ?_ | refine blk_alloc ?_ _)); exact BK11001.out)) (below_size (by repeat (first | (with_reducible first | exact HB.out | apply below_alloc | apply pw_below_drewN | apply below_drew1 | refine below_set ?_ GE11001.out) | exact HB.out)))); have n4_ := Aside0.mk (blk_below (g := gb11001) (o := .cells #[.int .i64 a1_0, .int .i64 a1_1] 36 (0, 0)) (by (with_reducible repeat (first | refine blk_drewN ?_ _ | refine blk_drew ?_ | refine blk_alloc ?_ _)); exact BK11001.out) hb); have n5_ := Aside0.mk (below_step (by repeat (first | (with_reducible first | exact HB.out | apply below_alloc | apply pw_below_drewN | apply below_drew1 | refine below_set ?_ GE11001.out) | exact HB.out)) hb); clear HO_5; clear HO_7; clear HO11018; clear BK11001; clear HB; have HO_5 := n0_; have HO_7 := n1_; have HO11018 := n2_; have HO11022 := n3_; have BK11001 := n4_; have HB := n5_; clear n0_ n1_ n2_ n3_ n4_ n5_; (try clear hb); (try clear hb2); (try clear hk); (try clear hi); (try clear ho0); obtain ⟨Ao59, co59, eo59⟩ := Kd.R_slice HO11022.out; subst eo59) | (go_at_call 12; (with_reducible refine (papermilllaw34_awake.calls  t11024 _ A51.out).mono ?_); rintro e w60 ⟨rfl, hb⟩; have n0_ := Aside0.mk (Kd.R_below (by (with_reducible repeat (first | apply Kd.R_alloc | apply Kd.R_drewN | apply Kd.R_drew)); exact HO_5.out) hb); have n1_ := Aside0.mk (Kd.R_below (by (with_reducible repeat (first | apply Kd.R_alloc | apply Kd.R_drewN | apply Kd.R_drew)); exact HO_7.out) hb); have n2_ := Aside0.mk (Kd.R_below (by (with_reducible repeat (first | apply Kd.R_alloc | apply Kd.R_drewN | apply Kd.R_drew)); exact HO11018.out) hb); have n3_ := Aside0.mk (Kd.R_below (by (with_reducible repeat (first | apply Kd.R_alloc | apply Kd.R_drewN | apply Kd.R_drew)); exact HO11022.out) hb); have n4_ := Aside0.mk (blk_below (g := gb11001) (o := .cells #[.int .i64 a1_0, .int .i64 a1_1] 36 (0, 0)) (by (with_reducible repeat (first | refine blk_drewN ?_ _ | refine blk_drew ?_ | refine blk_alloc ?_ _)); exact BK11001.out) hb); have n5_ := Aside0.mk (below_step (by repeat (first | (with_reducible first | exact HB.out | apply below_alloc | apply pw_below_drewN | apply below_drew1 | refine below_set ?_ GE11001.out) | exact HB.out)) hb); clear HO_5; clear HO_7; clear HO11018; clear HO11022; clear BK11001; clear HB; have HO_5 := n0_; have HO_7 := n1_; have HO11018 := n2_; have HO11022 := n3_; have BK11001 := n4_; have HB := n5_; clear n0_ n1_ n2_ n3_ n4_ n5_; (try clear hb); (try clear hb2); (try clear hk); (try clear hi)))
            go_ret
            exact ⟨by first | rfl | (simp [errW_none, errW_some] <;> rfl) | (simp [*, errW_none, errW_some] <;> rfl), by repeat (first | (with_reducible first | exact HB.out | apply below_alloc | apply pw_below_drewN | apply below_drew1 | refine below_set ?_ GE11001.out) | exact HB.out)⟩
          ·rw [if_neg c30] at H
           have c30b0 : (x12_2 == (decide ((t11019.length : Int) > 0))) = false := by simpa using c30
           (try (have c30b1 : decide (x12_2 = (decide ((t11019.length : Int) > 0))) = false := by simpa using c30))
           (try (have c30b2 : (x12_2 == (decide ((t11019.length : Int) > 0))) = false := by simpa using c30))
           (try (have c30b3 : ¬ (x12_2 = (decide ((t11019.length : Int) > 0))) := by simpa using c30))
           clear c30
           cases H
         ·rw [if_neg c29] at H
          have c29b0 : (t11020 == 0) = false := beq_eq_false_iff_ne.mpr c29
          have c29b1 : (t11020 != 0) = true := bne_iff_ne.mpr c29
          cases H
        ·rw [if_neg c28] at H
         have c28b0 : (t11013 == 0) = false := beq_eq_false_iff_ne.mpr c28
         have c28b1 : (t11013 != 0) = true := bne_iff_ne.mpr c28
         cases H

end Go.Proofs.Ytfdfpdiemeomiaa.G

namespace Go.Proofs.Ytfdfpdiemeomiaa.G
open Go.RowKit Go.Proofs.YtfdfpdiemeomiaaW.PrintWords Go.Proofs.YtfdfpdiemeomiaaW.PrintLast Go.Proofs.YtfdfpdiemeomiaaW.PrintMore
open Go.ChangeShapes Go.WideShapes Go.Deep
set_option linter.unusedVariables false
set_option linter.unusedSimpArgs false

theorem pick_list {α : Type} {Q : Nat → α → Prop} : ∀ (n : Nat), (∀ i, i < n → ∃ v, Q i v) → ∃ l : List α, l.length = n ∧ ∀ i v, l[i]? = some v → Q i v
 | 0, _ => ⟨[], rfl, fun i v h => by simp at h⟩
 | n + 1, h => by
  obtain ⟨l, hl, hv⟩ := pick_list n (fun i hi => h i (by omega))
  obtain ⟨v, hv1⟩ := h n (by omega)
  refine ⟨l ++ [v], by simp [hl], fun i u hu => ?_⟩
  rcases Nat.lt_or_ge i l.length with h1 | h1
  ·rw [List.getElem?_append_left h1] at hu; exact hv i u hu
  ·have e : i = l.length := by
    have := (List.getElem?_eq_some_iff.1 hu).1; simp at this; omega
   subst e
   have : v = u := by simpa using hu
   subst this
   rw [hl]; exact hv1
def Opens {α : Type} (P : Program) (d : Kd α) (t : TypeId) (Wf : α → Prop) : Prop :=
 ∀ {H : Type} (enc : TypeId × Value → H) (W : World) (fuel : Nat) (cs : List Value) (x : DataW H × List MemPlace), DataW.trod enc P W 0 (fun _ => true) true fuel t cs = some x → ∃ v : α, d.K W v cs ∧ Wf v
theorem Opens.int {P : Program} {t : TypeId} {k : IntKind} (ht : P.underlying t = some (.int k)) : Opens P (Kd.int k) t (fun n => (Lit.int k n).wf = true) :=
 fun enc W fuel cs x h => by obtain ⟨n, rfl, _, hw⟩ := DataW.trod_int ht h; exact ⟨n, rfl, hw⟩
theorem Opens.bool {P : Program} {t : TypeId} (ht : P.underlying t = some .bool) : Opens P Kd.bool t (fun _ => True) :=
 fun enc W fuel cs x h => by obtain ⟨n, rfl, _⟩ := DataW.trod_bool ht h; exact ⟨n, rfl, trivial⟩
theorem Opens.slice {α : Type} {P : Program} {t e : TypeId} {d : Kd α} {Wf : α → Prop} (ht : P.underlying t = some (.slice e)) (hC : P.cellsOf e = d.sz) (h : Opens P d e Wf) :
  Opens P (Kd.slice e d) t (fun l => l.length ≤ maxLen ∧ ∀ x ∈ l, Wf x) := by
 intro H enc W fuel cs x hx
 rcases open_slice ht hx with ⟨rfl, _⟩ | ⟨a, len, cap, m, n, D, Pl, rfl, _, hl, hm, hmm, _, hi⟩
 ·exact ⟨[], ⟨none, 0, rfl, Nat.le_refl _, rfl, by simp, fun h => absurd h (by simp)⟩, by simp, fun x h => by simp at h⟩
 ·have hml : len ≤ m := by rw [hmm]; simp only [if_true]; exact hl
  have key : ∀ i, i < len → ∃ v : α, (∃ c, c.length = d.sz ∧ d.K W v c ∧ ∀ q u, c[q]? = some u → W.cell? (a.add (i * d.sz + q)) = some u) ∧ Wf v := by
   intro i hil
   obtain ⟨cs', hc, ht'⟩ := hi i (by omega)
   rw [hC] at hc
   obtain ⟨_, hcl, hat⟩ := World.cells?_some hc
   obtain ⟨v, hK, hw⟩ := h enc W n cs' _ ht'
   refine ⟨v, ⟨cs', d.K_len hK, hK, fun q u hq => ?_⟩, hw⟩
   have hql : q < d.sz := by rw [← d.K_len hK]; exact (List.getElem?_eq_some_iff.1 hq).1
   have := hat q hql
   rw [← Go.Deep.add_add, this]; exact hq
  obtain ⟨l, rfl, hv⟩ := pick_list len key
  refine ⟨l, ⟨some a, cap, rfl, hl, rfl, by unfold maxLen at hm; omega, fun _ => ⟨a, rfl, fun j p hj => (hv j p hj).1⟩⟩, Nat.le_trans hl hm, fun x hx => ?_⟩
  obtain ⟨i, hi', rfl⟩ := List.getElem_of_mem hx
  exact (hv i _ (List.getElem?_eq_getElem hi')).2

def wf_44 (s : S44) : Prop := (Lit.int .i64 s.f0).wf = true ∧ (Lit.int .i64 s.f1).wf = true ∧ (Lit.int .i64 s.f2).wf = true ∧ (Lit.int .i64 s.f3).wf = true ∧ (Lit.int .i64 s.f4).wf = true
theorem cells_44 : Try.prog.cellsOf 44 = 5 := by kernel_rfl
theorem cells1_3 : Try.prog.cellsOf 3 = 1 := by kernel_rfl
set_option maxRecDepth 100000 in
theorem opens_44 : Opens Try.prog k44 44 wf_44 := by
 intro H enc W fuel cs x h
 obtain ⟨xs, n, rfl, rfl, hlen, hxl, hf⟩ := DataW.trod_struct Try.underlying44 h
 rw [cells_44] at hlen
 match cs, hlen with
 | [c0, c1, c2, c3, c4], _ =>
  match xs, hxl with
  | [y0, y1, y2, y3, y4], _ =>
   have e0 : DataW.trod enc Try.prog W 0 (fun _ => true) true n 3 (([c0, c1, c2, c3, c4].drop 0).take (Try.prog.cellsOf 3)) = some y0 := hf 0 _ rfl
   rw [cells1_3] at e0
   have e1 : DataW.trod enc Try.prog W 0 (fun _ => true) true n 3 (([c0, c1, c2, c3, c4].drop 1).take (Try.prog.cellsOf 3)) = some y1 := hf 1 _ rfl
   rw [cells1_3] at e1
   have e2 : DataW.trod enc Try.prog W 0 (fun _ => true) true n 3 (([c0, c1, c2, c3, c4].drop 2).take (Try.prog.cellsOf 3)) = some y2 := hf 2 _ rfl
   rw [cells1_3] at e2
   have e3 : DataW.trod enc Try.prog W 0 (fun _ => true) true n 3 (([c0, c1, c2, c3, c4].drop 3).take (Try.prog.cellsOf 3)) = some y3 := hf 3 _ rfl
   rw [cells1_3] at e3
   have e4 : DataW.trod enc Try.prog W 0 (fun _ => true) true n 3 (([c0, c1, c2, c3, c4].drop 4).take (Try.prog.cellsOf 3)) = some y4 := hf 4 _ rfl
   rw [cells1_3] at e4
   obtain ⟨v0, q0, w0⟩ := (Opens.int Try.underlying3) enc W n [c0] y0 e0
   cases q0
   obtain ⟨v1, q1, w1⟩ := (Opens.int Try.underlying3) enc W n [c1] y1 e1
   cases q1
   obtain ⟨v2, q2, w2⟩ := (Opens.int Try.underlying3) enc W n [c2] y2 e2
   cases q2
   obtain ⟨v3, q3, w3⟩ := (Opens.int Try.underlying3) enc W n [c3] y3 e3
   cases q3
   obtain ⟨v4, q4, w4⟩ := (Opens.int Try.underlying3) enc W n [c4] y4 e4
   cases q4
   exact ⟨⟨v0, v1, v2, v3, v4⟩, k44_mk _ _, w0, w1, w2, w3, w4⟩
def wf_36 (s : S36) : Prop := (Lit.int .i64 s.f0).wf = true ∧ (Lit.int .i64 s.f1).wf = true
theorem cells_36 : Try.prog.cellsOf 36 = 2 := by kernel_rfl
set_option maxRecDepth 100000 in
theorem opens_36 : Opens Try.prog k36 36 wf_36 := by
 intro H enc W fuel cs x h
 obtain ⟨xs, n, rfl, rfl, hlen, hxl, hf⟩ := DataW.trod_struct Try.underlying36 h
 rw [cells_36] at hlen
 match cs, hlen with
 | [c0, c1], _ =>
  match xs, hxl with
  | [y0, y1], _ =>
   have e0 : DataW.trod enc Try.prog W 0 (fun _ => true) true n 3 (([c0, c1].drop 0).take (Try.prog.cellsOf 3)) = some y0 := hf 0 _ rfl
   rw [cells1_3] at e0
   have e1 : DataW.trod enc Try.prog W 0 (fun _ => true) true n 3 (([c0, c1].drop 1).take (Try.prog.cellsOf 3)) = some y1 := hf 1 _ rfl
   rw [cells1_3] at e1
   obtain ⟨v0, q0, w0⟩ := (Opens.int Try.underlying3) enc W n [c0] y0 e0
   cases q0
   obtain ⟨v1, q1, w1⟩ := (Opens.int Try.underlying3) enc W n [c1] y1 e1
   cases q1
   exact ⟨⟨v0, v1⟩, k36_mk _ _, w0, w1⟩
end Go.Proofs.Ytfdfpdiemeomiaa.G

namespace Go.Proofs.Ytfdfpdiemeomiaa.G
open Go.RowKit Go.Proofs.YtfdfpdiemeomiaaW.PrintWords Go.Proofs.YtfdfpdiemeomiaaW.PrintLast Go.Proofs.YtfdfpdiemeomiaaW.PrintMore
set_option linter.unusedVariables false
set_option linter.unusedSimpArgs false
def Ends {α : Type} (g : Nat → Option α) (r : α) : Prop := ∃ n, ∀ k, n ≤ k → g k = some r
theorem Ends.const {α : Type} {a : Option α} {r : α} (h : a = some r) : Ends (fun _ => a) r := ⟨0, fun _ _ => h⟩
theorem Ends.ret {α : Type} (r : α) : Ends (fun _ => some r) r := ⟨0, fun _ _ => rfl⟩
theorem Ends.bind {α β : Type} {g : Nat → Option α} {f : Nat → α → Option β} {r : α} {q : β} (h : Ends g r) (k : Ends (fun k => f k r) q) : Ends (fun k => (g k).bind (f k)) q := by
 obtain ⟨n, h⟩ := h
 obtain ⟨m, k⟩ := k
 exact ⟨n + m, fun j hj => by show (g j).bind (f j) = _; rw [h j (by omega)]; exact k j (by omega)⟩
theorem Ends.pos {α : Type} {c : Prop} [Decidable c] {a b : Nat → Option α} {r : α} (hc : c) (h : Ends a r) : Ends (fun k => if c then a k else b k) r := by simpa only [if_pos hc] using h
theorem Ends.neg {α : Type} {c : Prop} [Decidable c] {a b : Nat → Option α} {r : α} (hc : ¬ c) (h : Ends b r) : Ends (fun k => if c then a k else b k) r := by simpa only [if_neg hc] using h
theorem Ends.succ {α : Type} {g : Nat → Option α} {r : α} (h : Ends (fun k => g (k + 1)) r) : Ends g r := by
 obtain ⟨n, h⟩ := h
 exact ⟨n + 1, fun k hk => by obtain ⟨j, rfl⟩ : ∃ j, k = j + 1 := ⟨k - 1, by omega⟩; exact h j (by omega)⟩
theorem Ends.get {α : Type} {g : Nat → Option α} {r : α} (h : Ends g r) : ∃ k, g k = some r := by obtain ⟨n, h⟩ := h; exact ⟨n, h n (Nat.le_refl _)⟩
theorem wrap_nat (i : Nat) (h : i < 4000000000000000000) : wrap64 ((i : Int) + 1) = ((i + 1 : Nat) : Int) := by unfold wrap64; omega
theorem wrap_pred (i : Nat) (h : i < 4000000000000000000) (h1 : 1 ≤ i) : wrap64 ((i : Int) - 1) = ((i - 1 : Nat) : Int) := by unfold wrap64; omega
theorem rdI (l : List Int) (i : Nat) (h : i < l.length) : rd l i = l[i] := by simp [rd, List.getD_eq_getElem?_getD, List.getElem?_eq_getElem h]
theorem Ends.at_ {α : Type} {g : Nat → Option α} {r : α} {k : Nat} (hg : ∀ k, LeO (g k) (g (k + 1))) (h : g k = some r) : Ends g r := ⟨k, fun j hj => at_rounds hg hj h⟩
theorem Ends.uniq {α : Type} {g : Nat → Option α} {r q : α} (h : Ends g r) (h2 : Ends g q) : r = q := by
 obtain ⟨n, h⟩ := h
 obtain ⟨m, h2⟩ := h2
 have e1 := h (n + m) (by omega)
 have e2 := h2 (n + m) (by omega)
 exact Option.some.inj (e1.symm.trans e2)
theorem Ends.congr {α : Type} {g : Nat → Option α} {r q : α} (h : Ends g r) (e : r = q) : Ends g q := e ▸ h
end Go.Proofs.Ytfdfpdiemeomiaa.G

namespace Go.Proofs.Ytfdfpdiemeomiaa.G
open Go.RowKit Go.Proofs.YtfdfpdiemeomiaaW.PrintWords Go.Proofs.YtfdfpdiemeomiaaW.PrintLast Go.Proofs.YtfdfpdiemeomiaaW.PrintMore
set_option linter.unusedVariables false
set_option linter.unusedSimpArgs false
theorem rd36 (l : List S36) (i : Nat) (h : i < l.length) : rd_T36 l i = l[i] := by simp [rd_T36, List.getD_eq_getElem?_getD, List.getElem?_eq_getElem h]
theorem drop36 (l : List S36) (i : Nat) (h : i < l.length) : l.drop i = rd_T36 l i :: l.drop (i + 1) := by rw [rd36 l i h]; exact List.drop_eq_getElem_cons h
theorem dropI (l : List Int) (i : Nat) (h : i < l.length) : l.drop i = rd l i :: l.drop (i + 1) := by rw [rdI l i h]; exact List.drop_eq_getElem_cons h

def badS (s : S36) : Prop := s.f0 < 0 ∨ s.f0 > s.f1 ∨ s.f1 > 17179869184
instance (s : S36) : Decidable (badS s) := by unfold badS; infer_instance
def check04 (l : List S36) : Int := if l.length > 256 then 8 else if ∃ s ∈ l, badS s then 1 else 0
theorem check04_zero {l : List S36} (h : check04 l = 0) : l.length ≤ 256 ∧ ∀ s ∈ l, ¬ badS s := by
 unfold check04 at h
 split at h
 ·cases h
 ·split at h
  ·cases h
  ·rename_i h1 h2; exact ⟨by omega, fun s hs k => h2 ⟨s, hs, k⟩⟩
def bothOf (a b : List S36) (w : Int) : List S36 × Int := if check04 a = 0 then (if check04 b = 0 then (if (combOf a b w).length > 256 then ([], 8) else (combOf a b w, 0)) else ([], check04 b)) else ([], check04 a)
theorem getLast_rd (out : List S36) (h : out.length ≠ 0) : out.getLast? = some (rd_T36 out ((out.length - 1 : Nat) : Int)) := by
 rw [List.getLast?_eq_getElem?, rd36 _ _ (by omega), List.getElem?_eq_getElem (by omega)]
theorem dropLast_set (out : List S36) (h : out.length ≠ 0) (y : S36) : out.set (out.length - 1) y = out.dropLast ++ [y] := by
 obtain ⟨d, x, rfl⟩ : ∃ d x, out = d ++ [x] := ⟨out.dropLast, out.getLast (fun e => h (by rw [e]; rfl)), (List.dropLast_concat_getLast _).symm⟩
 rw [List.dropLast_concat, List.length_append]
 simp
end Go.Proofs.Ytfdfpdiemeomiaa.G

namespace Go.Proofs.Ytfdfpdiemeomiaa.G
open Go.RowKit Go.Proofs.YtfdfpdiemeomiaaW.PrintWords Go.Proofs.YtfdfpdiemeomiaaW.PrintLast Go.Proofs.YtfdfpdiemeomiaaW.PrintMore
set_option linter.unusedVariables false
set_option linter.unusedSimpArgs false
theorem scheck_l0 (l : List S36) (hl : l.length ≤ 256) : ∀ (d i : Nat), l.length - i = d → i ≤ l.length → Ends (fun k => span_Check.l0 k l (l.length : Int) (i : Int)) (if ∃ s ∈ l.drop i, badS s then 1 else 0) := by
 intro d
 induction d with
 | zero =>
  intro i hd hi
  refine Ends.succ ?_
  simp only [span_Check.l0]
  refine Ends.neg (by omega) ?_
  rw [List.drop_of_length_le (by omega), if_neg (by simp)]
  exact Ends.ret _
 | succ d ih =>
  intro i hd hi
  refine Ends.succ ?_
  simp only [span_Check.l0, wrap_nat i (by omega)]
  refine Ends.pos (by omega) (Ends.pos (by omega) (Ends.pos (by omega) ?_))
  rw [drop36 l i (by omega)]
  generalize rd_T36 l (i : Int) = x
  by_cases h : badS x
  ·rw [if_pos ⟨x, by simp, h⟩]
   unfold badS at h
   by_cases h1 : x.f0 < 0
   ·exact Ends.pos h1 (Ends.ret _)
   ·refine Ends.neg h1 ?_
    by_cases h2 : x.f0 > x.f1
    ·exact Ends.pos h2 (Ends.ret _)
    ·exact Ends.neg h2 (Ends.pos (by omega) (Ends.ret _))
  ·have e : (∃ s ∈ x :: l.drop (i + 1), badS s) ↔ ∃ s ∈ l.drop (i + 1), badS s := by simp [h]
   simp only [e]
   unfold badS at h
   exact Ends.neg (by omega) (Ends.neg (by omega) (Ends.neg (by omega) (ih (i + 1) (by omega) (by omega))))
theorem scheck_ends (l : List S36) : Ends (fun k => span_Check.f k l) (check04 l) := by
 unfold span_Check.f check04
 by_cases h : l.length > 256
 ·rw [if_pos h]
  exact Ends.pos (by omega) (Ends.ret _)
 ·rw [if_neg h]
  exact Ends.neg (by omega) (scheck_l0 l (by omega) _ 0 rfl (by omega))
def idx (a : List S36) (x : Int) : Nat := (a.takeWhile fun s => decide (s.f1 ≤ x)).length
theorem idx_le (a : List S36) (x : Int) : idx a x ≤ a.length := by unfold idx; exact (List.takeWhile_sublist _).length_le
theorem idx_cons (s : S36) (a : List S36) (x : Int) : idx (s :: a) x = if s.f1 ≤ x then idx a x + 1 else 0 := by
 unfold idx
 by_cases h : s.f1 ≤ x <;> simp [List.takeWhile_cons, h]
theorem idx_lt : ∀ (a : List S36) (x : Int) (i : Nat), i < idx a x → (rd_T36 a (i : Int)).f1 ≤ x
 | [], x, i, h => by simp [idx] at h
 | s :: a, x, i, h => by
  rw [idx_cons] at h
  split at h
  ·cases i with
   | zero => simpa [rd_T36]
   | succ i => have := idx_lt a x i (by omega); simpa [rd_T36] using this
  ·omega
theorem idx_at : ∀ (a : List S36) (x : Int), idx a x < a.length → x < (rd_T36 a (idx a x : Int)).f1
 | [], x, h => by simp at h
 | s :: a, x, h => by
  rw [idx_cons] at h ⊢
  split at h
  ·rename_i h1
   rw [if_pos h1]
   have := idx_at a x (by simp at h; omega)
   simpa [rd_T36] using this
  ·rename_i h1
   rw [if_neg h1]
   simp [rd_T36]; omega
theorem idx_mono (x y : Int) (h : x ≤ y) : ∀ (a : List S36), idx a x ≤ idx a y
 | [] => Nat.le_refl _
 | s :: a => by
  rw [idx_cons, idx_cons]
  have := idx_mono x y h a
  split
  ·rw [if_pos (by omega)]; omega
  ·omega
theorem hasOf_cons (s : S36) (a : List S36) (x : Int) : hasOf (s :: a) x = (decide (s.f0 ≤ x ∧ x < s.f1) || hasOf a x) := rfl
theorem sep_has {a : List S36} {e x : Int} (h : sep e a) (hx : x ≤ e) : hasOf a x = false := by
 cases hh : hasOf a x with
 | false => rfl
 | true => have := sep_mem h ((hasOf_iff a x).1 hh); omega
theorem has_idx : ∀ (a : List S36) (e x : Int), sep e a → hasOf a x = (decide (idx a x < a.length) && decide ((rd_T36 a (idx a x : Int)).f0 ≤ x))
 | [], e, x, _ => by simp [hasOf]
 | s :: a, e, x, h => by
  rw [hasOf_cons, idx_cons]
  by_cases h1 : s.f1 ≤ x
  ·rw [if_pos h1, has_idx a s.f1 x h.2.2]
   have e1 : decide (s.f0 ≤ x ∧ x < s.f1) = false := by simp; omega
   rw [e1]
   simp [rd_T36]
  ·rw [if_neg h1, sep_has h.2.2 (by omega)]
   have e1 : (s.f0 ≤ x ∧ x < s.f1) ↔ s.f0 ≤ x := by omega
   simp [e1, rd_T36]
section
variable (kf : Bool → Bool → Option Bool) (kp : Bool → Bool → Bool) (hk : ∀ p q, kf p q = some (kp p q))
variable (a b : List S36) (E : List Int)
theorem sets_l2 (out : List S36) (j x n : Int) (r : List S36 × Int) (ha : a.length < 1000000) (h : Ends (fun k => span_sets.j3 kf k a b E out (idx a x) j n x E (E.length : Int) n) r) :
  ∀ (d i : Nat), idx a x - i = d → i ≤ idx a x → Ends (fun k => span_sets.l2 kf k a b E out (i : Int) j n x E (E.length : Int) n) r := by
 have hle := idx_le a x
 intro d
 induction d with
 | zero =>
  intro i hd hi
  obtain rfl : i = idx a x := by omega
  refine Ends.succ ?_
  simp only [span_sets.l2, wrap_nat (idx a x) (by omega)]
  by_cases h1 : idx a x < a.length
  ·exact Ends.pos (by omega) (Ends.pos (by omega) (Ends.neg (by have := idx_at a x h1; omega) h))
  ·exact Ends.neg (by omega) h
 | succ d ih =>
  intro i hd hi
  refine Ends.succ ?_
  simp only [span_sets.l2, wrap_nat i (by omega)]
  exact Ends.pos (by omega) (Ends.pos (by omega) (Ends.pos (idx_lt a x i (by omega)) (ih (i + 1) (by omega) (by omega))))
theorem sets_l3 (out : List S36) (i x n : Int) (r : List S36 × Int) (hb : b.length < 1000000) (h : Ends (fun k => span_sets.j5 kf k a b E out i (idx b x) n x E (E.length : Int) n) r) :
  ∀ (d j : Nat), idx b x - j = d → j ≤ idx b x → Ends (fun k => span_sets.l3 kf k a b E out i (j : Int) n x E (E.length : Int) n) r := by
 have hle := idx_le b x
 intro d
 induction d with
 | zero =>
  intro j hd hj
  obtain rfl : j = idx b x := by omega
  refine Ends.succ ?_
  simp only [span_sets.l3, wrap_nat (idx b x) (by omega)]
  by_cases h1 : idx b x < b.length
  ·exact Ends.pos (by omega) (Ends.pos (by omega) (Ends.neg (by have := idx_at b x h1; omega) h))
  ·exact Ends.neg (by omega) h
 | succ d ih =>
  intro j hd hj
  refine Ends.succ ?_
  simp only [span_sets.l3, wrap_nat j (by omega)]
  exact Ends.pos (by omega) (Ends.pos (by omega) (Ends.pos (idx_lt b x j (by omega)) (ih (j + 1) (by omega) (by omega))))
def setsFin (o : List S36) : List S36 × Int := if (joinOf o).length > 256 then ([], 8) else (joinOf o, 0)
include hk in
theorem sets_j6 (ea eb : Int) (sa : sep ea a) (sb : sep eb b) (out : List S36) (n : Nat) (x : Int) (hn : n + 1 < E.length) (hE : E.length < 1000000) (ho : out.length < 1000000) (r : List S36 × Int)
  (h : Ends (fun k => span_sets.l1 kf k a b E (out ++ if kp (hasOf a x) (hasOf b x) = true then [⟨x, rd E ((n + 1 : Nat) : Int)⟩] else []) (idx a x) (idx b x) E (E.length : Int) ((n + 1 : Nat) : Int)) r) :
  Ends (fun k => span_sets.j6 kf k a b E out (idx a x) (idx b x) (n : Int) x E (E.length : Int) (n : Int) false) r := by
 refine Ends.succ ?_
 simp only [span_sets.j6, wrap_nat n (by omega), hk, Option.bind_some]
 have ga := has_idx a ea x sa
 have gb := has_idx b eb x sb
 have fin : ∀ c : Bool, c = kp (hasOf a x) (hasOf b x) → Ends (fun k => if c = true then (if 0 ≤ ((n + 1 : Nat) : Int) then (if ((n + 1 : Nat) : Int) < (E.length : Int) then (if out.length < 8796093022208 then (span_sets.l1 kf k a b E (out ++ [(⟨x, rd E ((n + 1 : Nat) : Int)⟩ : S36)]) (idx a x) (idx b x) E (E.length : Int) ((n + 1 : Nat) : Int)) else none) else none) else none) else (span_sets.l1 kf k a b E out (idx a x) (idx b x) E (E.length : Int) ((n + 1 : Nat) : Int))) r := by
  intro c hc
  subst hc
  cases hkp : kp (hasOf a x) (hasOf b x) with
  | true => rw [hkp] at h; exact Ends.pos rfl (Ends.pos (by omega) (Ends.pos (by omega) (Ends.pos (by omega) (by simpa using h))))
  | false => rw [hkp] at h; exact Ends.neg (by simp) (by simpa using h)
 refine Ends.neg (by simp) ?_
 by_cases h1 : idx a x < a.length
 ·have ea1 : hasOf a x = decide ((rd_T36 a (idx a x : Int)).f0 ≤ x) := by rw [ga]; simp [h1]
  refine Ends.pos (by omega) (Ends.pos (by omega) ?_)
  by_cases h2 : idx b x < b.length
  ·have eb1 : hasOf b x = decide ((rd_T36 b (idx b x : Int)).f0 ≤ x) := by rw [gb]; simp [h2]
   exact Ends.pos (by omega) (Ends.pos (by omega) (fin _ (by rw [ea1, eb1])))
  ·have eb1 : hasOf b x = false := by rw [gb]; simp [h2]
   exact Ends.neg (by omega) (fin _ (by rw [ea1, eb1]))
 ·have ea1 : hasOf a x = false := by rw [ga]; simp [h1]
  refine Ends.neg (by omega) ?_
  by_cases h2 : idx b x < b.length
  ·have eb1 : hasOf b x = decide ((rd_T36 b (idx b x : Int)).f0 ≤ x) := by rw [gb]; simp [h2]
   exact Ends.pos (by omega) (Ends.pos (by omega) (fin _ (by rw [ea1, eb1])))
  ·have eb1 : hasOf b x = false := by rw [gb]; simp [h2]
   exact Ends.neg (by omega) (fin _ (by rw [ea1, eb1]))
theorem sweep_in : ∀ (L : List Int), L.Pairwise (· ≤ ·) → ∀ s ∈ sweep kp a b L, s.f0 ∈ L ∧ s.f1 ∈ L ∧ s.f0 ≤ s.f1
 | [], _, s, h => by simp [sweep] at h
 | [c], _, s, h => by simp [sweep] at h
 | c :: d :: r, hp, s, h => by
  rw [List.pairwise_cons] at hp
  rw [sweep, List.mem_append] at h
  rcases h with h | h
  ·split at h
   ·obtain rfl := List.mem_singleton.1 h
    exact ⟨by simp, by simp, hp.1 d (by simp)⟩
   ·simp at h
  ·obtain ⟨h1, h2, h3⟩ := sweep_in (d :: r) hp.2 s h
   exact ⟨List.mem_cons_of_mem _ h1, List.mem_cons_of_mem _ h2, h3⟩
theorem sorted_rd (hE : E.Pairwise (· ≤ ·)) (n : Nat) (h : n + 1 < E.length) : rd E (n : Int) ≤ rd E ((n + 1 : Nat) : Int) := by
 rw [rdI E n (by omega), rdI E (n + 1) h]
 exact List.pairwise_iff_getElem.1 hE n (n + 1) (by omega) h (by omega)
include hk in
theorem sets_l1 (ea eb : Int) (sa : sep ea a) (sb : sep eb b) (ha : a.length < 1000000) (hb : b.length < 1000000) (hE : E.length < 400000) (hs : E.Pairwise (· ≤ ·)) : ∀ (d n i j : Nat) (out : List S36), E.length - n = d → n ≤ E.length → (n < E.length → i ≤ idx a (rd E (n : Int)) ∧ j ≤ idx b (rd E (n : Int))) → out.length + d < 400000 → okSpans (out ++ sweep kp a b (E.drop n)) = true →
  Ends (fun k => span_sets.l1 kf k a b E out (i : Int) (j : Int) E (E.length : Int) (n : Int)) (setsFin (out ++ sweep kp a b (E.drop n))) := by
 intro d
 induction d with
 | zero =>
  intro n i j out hd hn hij ho hok
  refine Ends.succ ?_
  simp only [span_sets.l1]
  refine Ends.neg (by omega) ?_
  rw [List.drop_of_length_le (by omega)] at hok ⊢
  rw [show sweep kp a b ([] : List Int) = [] from rfl, List.append_nil] at hok ⊢
  have e : span_joined.f out = some (joinOf out) := by unfold span_joined.f; rw [if_pos hok]
  simp only [e, Option.bind_some]
  unfold setsFin
  by_cases h : (joinOf out).length > 256
  ·rw [if_pos h]; exact Ends.pos (by omega) (Ends.ret _)
  ·rw [if_neg h]; exact Ends.neg (by omega) (Ends.ret _)
 | succ d ih =>
  intro n i j out hd hn hij ho hok
  refine Ends.succ ?_
  simp only [span_sets.l1, wrap_nat n (by omega)]
  refine Ends.pos (by omega) (Ends.pos (by omega) (Ends.pos (by omega) ?_))
  obtain ⟨hi, hj⟩ := hij (by omega)
  refine sets_l2 kf a b E out j _ n _ ha ?_ _ i rfl hi
  refine Ends.succ ?_
  simp only [span_sets.j3]
  refine sets_l3 kf a b E out _ _ n _ hb ?_ _ j rfl hj
  refine Ends.succ ?_
  simp only [span_sets.j5, wrap_nat n (by omega)]
  have next : ∀ (out' : List S36), out'.length + d < 400000 → out' ++ sweep kp a b (E.drop (n + 1)) = out ++ sweep kp a b (E.drop n) → Ends (fun k => span_sets.l1 kf k a b E out' (idx a (rd E (n : Int)) : Int) (idx b (rd E (n : Int)) : Int) E (E.length : Int) ((n + 1 : Nat) : Int)) (setsFin (out ++ sweep kp a b (E.drop n))) := by
   intro out' ho' he
   rw [← he]
   refine ih (n + 1) _ _ out' (by omega) (by omega) (fun h => ?_) ho' (by rw [he]; exact hok)
   exact ⟨idx_mono _ _ (sorted_rd E hs n h) a, idx_mono _ _ (sorted_rd E hs n h) b⟩
  by_cases hl : n + 1 = E.length
  ·refine Ends.pos (by omega) (Ends.succ ?_)
   simp only [span_sets.j6, wrap_nat n (by omega)]
   refine Ends.pos trivial (next out (by omega) ?_)
   rw [dropI E n (by omega), List.drop_of_length_le (by omega)]
   simp [sweep]
  ·refine Ends.neg (by omega) (Ends.pos (by omega) (Ends.pos (by omega) ?_))
   have e1 := dropI E n (by omega)
   have e2 := dropI E (n + 1) (by omega)
   by_cases hx : rd E ((n + 1 : Nat) : Int) = rd E (n : Int)
   ·have hb : (rd E ((n + 1 : Nat) : Int) == rd E (n : Int)) = true := by simpa using hx
    simp only [hb]
    refine Ends.succ ?_
    simp only [span_sets.j6, wrap_nat n (by omega)]
    refine Ends.pos trivial (next out (by omega) ?_)
    rw [e1, e2, sweep, ← e2, hx]
    simp
   ·have hb : (rd E ((n + 1 : Nat) : Int) == rd E (n : Int)) = false := by simpa using hx
    simp only [hb]
    refine sets_j6 kf kp hk a b E ea eb sa sb out n _ (by omega) (by omega) (by omega) _ (next _ ?_ ?_)
    ·rw [List.length_append]; split <;> simp <;> omega
    ·rw [e1, e2, sweep, ← e2, List.append_assoc]
     congr 2
     have hx' : rd E (n : Int) ≠ rd E ((n + 1 : Nat) : Int) := fun h => hx h.symm
     simp only [hx', ne_eq, not_false_eq_true, true_and]
include hk in
theorem sets_l0 (ea eb : Int) (sa : sep ea a) (sb : sep eb b) (ha : a.length ≤ 100000) (hb : b.length ≤ 100000) (c : List S36) (hc : c.length ≤ 200000) (hv : ∀ s ∈ c, (0 ≤ s.f0 ∧ s.f0 ≤ 17179869184) ∧ 0 ≤ s.f1 ∧ s.f1 ≤ 17179869184) (he : c.length ≤ 10000) : ∀ (d i : Nat) (o : List Int), c.length - i = d → i ≤ c.length → o.length + 2 * d ≤ 100000 → (∀ x ∈ o, 0 ≤ x ∧ x ≤ 17179869184) →
  Ends (fun k => span_sets.l0 kf k a b o c (c.length : Int) (i : Int)) (setsFin (sweep kp a b (sortI (o ++ (c.drop i).flatMap fun s => [s.f0, s.f1])))) := by
 intro d
 induction d with
 | zero =>
  intro i o hd hi ho hv1
  refine Ends.succ ?_
  simp only [span_sets.l0]
  refine Ends.neg (by omega) ?_
  rw [List.drop_of_length_le (by omega)]
  simp only [List.flatMap_nil, List.append_nil]
  have e : slices_Sort_int_int.f o = some (sortI o) := by unfold slices_Sort_int_int.f; rw [if_pos (by omega)]
  have hl : (sortI o).length = o.length := List.length_mergeSort _
  have hs : (sortI o).Pairwise (· ≤ ·) := by
   have := List.pairwise_mergeSort (le := fun a b : Int => decide (a ≤ b)) (by intro a b c h1 h2; simp at *; omega) (by intro a b; simp; omega) o
   exact this.imp (by intro a b h; simpa using h)
  simp only [e, Option.bind_some]
  rw [show (o.length : Int) = ((sortI o).length : Int) by rw [hl]]
  refine (sets_l1 kf kp hk a b (sortI o) ea eb sa sb (by omega) (by omega) (by omega) hs _ 0 0 0 [] rfl (by omega) (fun _ => ⟨Nat.zero_le _, Nat.zero_le _⟩) (by simp; omega) ?_).congr (by simp)
  rw [okSpans_iff]
  refine ⟨by have := sweep_len kp a b (sortI o); simp; omega, fun s h => ?_⟩
  have hm : ∀ x, x ∈ sortI o → x ∈ o := fun x hx => List.mem_mergeSort.1 hx
  obtain ⟨h1, h2, h3⟩ := sweep_in kp a b (sortI o) hs s (by simpa using h)
  have := hv1 _ (hm _ h1); have := hv1 _ (hm _ h2)
  exact ⟨by omega, h3, by omega⟩
 | succ d ih =>
  intro i o hd hi ho hv1
  refine Ends.succ ?_
  simp only [span_sets.l0, wrap_nat i (by omega), Option.bind_some]
  refine Ends.pos (by omega) (Ends.pos (by omega) (Ends.pos (by omega) (Ends.pos (by simp; omega) ?_)))
  rw [drop36 c i (by omega)]
  have hx := hv (rd_T36 c (i : Int)) (by rw [rd36 c i (by omega)]; exact List.getElem_mem _)
  refine (ih (i + 1) (o ++ [(rd_T36 c (i : Int)).f0, (rd_T36 c (i : Int)).f1]) (by omega) (by omega) (by simp; omega) ?_).congr (by simp)
  intro x h
  rcases List.mem_append.1 h with h | h
  ·exact hv1 x h
  ·simp at h; rcases h with rfl | rfl
   ·exact hx.1
   ·exact hx.2
theorem sweep_congr (kq : Bool → Bool → Bool) (h : ∀ x, kp (hasOf a x) (hasOf b x) = kq (hasOf a x) (hasOf b x)) : ∀ (L : List Int), sweep kp a b L = sweep kq a b L
 | [] => rfl
 | [c] => rfl
 | c :: d :: r => by rw [sweep, sweep, h, sweep_congr kq h (d :: r)]
theorem sortI_sorted (o : List Int) : (sortI o).Pairwise (· ≤ ·) := by
 have := List.pairwise_mergeSort (le := fun a b : Int => decide (a ≤ b)) (by intro a b c h1 h2; simp at *; omega) (by intro a b; simp; omega) o
 exact this.imp (by intro a b h; simpa using h)
theorem good04 {l : List S36} (h : check04 l = 0) : l.length ≤ 256 ∧ ∀ s ∈ l, 0 ≤ s.f0 ∧ s.f0 ≤ s.f1 ∧ s.f1 ≤ 17179869184 := by
 obtain ⟨h1, h2⟩ := check04_zero h
 exact ⟨h1, fun s hs => by have := h2 s hs; unfold badS at this; omega⟩
theorem okSpans_good {l : List S36} (h : check04 l = 0) : okSpans l = true := by
 obtain ⟨h1, h2⟩ := good04 h
 exact (okSpans_iff l).2 ⟨by omega, h2⟩
include hk in
theorem sets_ends (l0 l1 : List S36) (c : Bool) (w : Int) (hw : w = 0 ∨ w = 1 ∨ w = 2) (hkw : ∀ x, kp (hasOf (joinOf l0) x) (hasOf (joinOf l1) x) = wayOf w (hasOf (joinOf l0) x) (hasOf (joinOf l1) x)) : Ends (fun k => span_sets.f kf k l0 l1 c) (bothOf l0 l1 w) := by
 unfold span_sets.f bothOf
 refine Ends.bind (scheck_ends l0) ?_
 by_cases h0 : check04 l0 = 0
 ·rw [if_pos h0]
  refine Ends.pos h0 (Ends.bind (scheck_ends l1) ?_)
  by_cases h1 : check04 l1 = 0
  ·rw [if_pos h1]
   refine Ends.pos h1 ?_
   obtain ⟨g0, v0⟩ := good04 h0
   obtain ⟨g1, v1⟩ := good04 h1
   have u0 : ∀ s ∈ l0, -1 < s.f0 ∧ s.f0 ≤ s.f1 := fun s hs => by have := v0 s hs; omega
   have u1 : ∀ s ∈ l1, -1 < s.f0 ∧ s.f0 ≤ s.f1 := fun s hs => by have := v1 s hs; omega
   have n0 := joinOf_len l0 (-1) u0
   have n1 := joinOf_len l1 (-1) u1
   have b0 := joinOf_bound l0 (-1) 17179869184 (fun s hs => by have := v0 s hs; omega)
   have b1 := joinOf_bound l1 (-1) 17179869184 (fun s hs => by have := v1 s hs; omega)
   have e0 : span_joined.f l0 = some (joinOf l0) := by unfold span_joined.f; rw [if_pos (okSpans_good h0)]
   have e1 : span_joined.f l1 = some (joinOf l1) := by unfold span_joined.f; rw [if_pos (okSpans_good h1)]
   have e2 : slices_Concat_api_Span_api_Span_2.f (joinOf l0) (joinOf l1) = some (joinOf l0 ++ joinOf l1) := by unfold slices_Concat_api_Span_api_Span_2.f; rw [if_pos ⟨by omega, by omega⟩]
   simp only [e0, e1, e2, Option.bind_some]
   have hvv : ∀ s ∈ joinOf l0 ++ joinOf l1, (0 ≤ s.f0 ∧ s.f0 ≤ 17179869184) ∧ 0 ≤ s.f1 ∧ s.f1 ≤ 17179869184 := by
    intro s hs
    rcases List.mem_append.1 hs with hs | hs
    ·have := b0 s hs; omega
    ·have := b1 s hs; omega
   refine (sets_l0 kf kp hk (joinOf l0) (joinOf l1) (-1) (-1) (joinOf_ok l0 (-1) u0).1 (joinOf_ok l1 (-1) u1).1 (by omega) (by omega) (joinOf l0 ++ joinOf l1) (by simp; omega) hvv (by simp; omega) _ 0 [] rfl (by omega) (by simp; omega) (by simp)).congr ?_
   unfold setsFin
   rw [sweep_congr kp (joinOf l0) (joinOf l1) (wayOf w) hkw]
   rw [sets_comb l0 l1 w hw u0 u1 _ (sortI_sorted _) (fun x => by
    unfold sortI
    rw [List.mem_mergeSort]
    simp only [List.nil_append, List.drop_zero, List.mem_flatMap, List.mem_append, List.mem_cons, List.not_mem_nil, or_false])]
  ·rw [if_neg h1]
   exact Ends.neg h1 (Ends.ret _)
 ·rw [if_neg h0]
  exact Ends.neg h0 (Ends.ret _)
end
theorem wayOf_0 (p q : Bool) : wayOf 0 p q = (p || q) := by cases p <;> cases q <;> rfl
theorem wayOf_1 (p q : Bool) : wayOf 1 p q = (p && q) := by cases p <;> cases q <;> rfl
theorem wayOf_2 (p q : Bool) : wayOf 2 p q = (p && !q) := by cases p <;> cases q <;> rfl
end Go.Proofs.Ytfdfpdiemeomiaa.G

namespace Go.Proofs.Ytfdfpdiemeomiaa.G
open Go.RowKit Go.Proofs.YtfdfpdiemeomiaaW.PrintWords Go.Proofs.YtfdfpdiemeomiaaW.PrintLast Go.Proofs.YtfdfpdiemeomiaaW.PrintMore
set_option linter.unusedVariables false
set_option linter.unusedSimpArgs false
theorem hasOf_nil (x : Int) : hasOf [] x = false := rfl
theorem joinOf_nil : joinOf [] = [] := rfl
def tot (l : List S36) : Int := (l.map fun s => s.f1 - s.f0).sum
theorem tot_cons (s : S36) (l : List S36) : tot (s :: l) = s.f1 - s.f0 + tot l := by simp [tot]
def totalOf (l : List S36) : Int × Int := if check04 l = 0 then (tot (joinOf l), 0) else (0, check04 l)
theorem norm_fits {l : List S36} (h0 : check04 l = 0) : bothOf l [] 0 = (joinOf l, 0) := by
 obtain ⟨g0, v0⟩ := good04 h0
 have n0 := joinOf_len l (-1) (fun s hs => by have := v0 s hs; omega)
 unfold bothOf
 rw [if_pos h0, if_pos (show check04 [] = 0 from rfl)]
 unfold joinOf at n0 ⊢
 rw [if_neg (by omega)]
def movable (by_ : Int) (s : S36) : Prop := -s.f0 ≤ by_ ∧ by_ ≤ 17179869184 - s.f1
instance (by_ : Int) (s : S36) : Decidable (movable by_ s) := by unfold movable; infer_instance
def shift (by_ : Int) (s : S36) : S36 := ⟨s.f0 + by_, s.f1 + by_⟩
def moveOf (l : List S36) (by_ : Int) : List S36 × Int := if check04 l = 0 then (if ∀ s ∈ l, movable by_ s then (l.map (shift by_), 0) else ([], 1)) else ([], check04 l)
end Go.Proofs.Ytfdfpdiemeomiaa.G

namespace Go.Proofs.Ytfdfpdiemeomiaa.G
open Go.RowKit Go.Proofs.YtfdfpdiemeomiaaW.PrintWords Go.Proofs.YtfdfpdiemeomiaaW.PrintLast Go.Proofs.YtfdfpdiemeomiaaW.PrintMore
set_option linter.unusedVariables false
set_option linter.unusedSimpArgs false
theorem common_ends (a b : List S36) : Ends (fun k => span_Common.f k a b) (bothOf a b 1) := by
 unfold span_Common.f span_sets_Common.f
 exact Ends.bind (sets_ends span_Common_1.f (fun p q => p && q) (fun p q => by cases p <;> rfl) a b true 1 (.inr (.inl rfl)) (fun x => by rw [wayOf_1])) (Ends.ret _)
end Go.Proofs.Ytfdfpdiemeomiaa.G
