import Derived.Test.YtalpegglbfobiaaQ1
import Derived.Test.YtalpegglbfobiaaC6
import Derived.Test.YtalpegglbfobiaaQ4
import Derived.Test.YtalpegglbfobiaaQ5
import Derived.Test.YtalpegglbfobiaaQ3
namespace Go.Proofs.Ytalpegglbfobiaa.G
open Go.RowKit Go.Proofs.YtalpegglbfobiaaW.PrintWords Go.Proofs.YtalpegglbfobiaaW.PrintLast Go.Proofs.YtalpegglbfobiaaW.PrintMore
attribute [local go_sem] max2_int min2_int max_two min_two max_three min_three max_four min_four   -- for this text's walks alone
set_option linter.unusedVariables false
set_option linter.unusedSimpArgs false

mutual
def papermillref13_more.l0 : Nat → List (S44) → Int → Int → Bool → Option ((List (S44)))
 | 0, _, _, _, _ => none
 | k + 1, x5, x61002000, x61002001, x61002002 => if x61002001 > 0 then (if (wrap64 ((x5.length : Int) - 1)) < 0 then ((papermillref13_cut.f x61002000 x61002001 x61002002 0 x61002001).bind fun bt61008 => (if x5.length < 5864062014805 then (some (x5 ++ [(⟨bt61008.1, bt61008.2.1, bt61008.2.2⟩ : S44)])) else (none))) else (if 0 ≤ (wrap64 ((x5.length : Int) - 1)) then (if (wrap64 ((x5.length : Int) - 1)) < (x5.length : Int) then ((papermillref13_image.f ((rd_T44 x5 (wrap64 ((x5.length : Int) - 1))).f0) ((rd_T44 x5 (wrap64 ((x5.length : Int) - 1))).f1) ((rd_T44 x5 (wrap64 ((x5.length : Int) - 1))).f2) (wrap64 (((rd_T44 x5 (wrap64 ((x5.length : Int) - 1))).f1) - 1))).bind fun t61016 => (if (wrap64 (x61002000 - t61016)) = 1 then (if ((rd_T44 x5 (wrap64 ((x5.length : Int) - 1))).f1) > 1 then (papermillref13_more.j1 k x5 (wrap64 ((x5.length : Int) - 1)) (wrap64 (x61002000 - t61016)) (((rd_T44 x5 (wrap64 ((x5.length : Int) - 1))).f2) != ((wrap64 (x61002000 - t61016)) == (-1))) x61002000 x61002001 x61002002 ((rd_T44 x5 (wrap64 ((x5.length : Int) - 1))).f0) ((rd_T44 x5 (wrap64 ((x5.length : Int) - 1))).f1) ((rd_T44 x5 (wrap64 ((x5.length : Int) - 1))).f2)) else (papermillref13_more.j1 k x5 (wrap64 ((x5.length : Int) - 1)) (wrap64 (x61002000 - t61016)) false x61002000 x61002001 x61002002 ((rd_T44 x5 (wrap64 ((x5.length : Int) - 1))).f0) ((rd_T44 x5 (wrap64 ((x5.length : Int) - 1))).f1) ((rd_T44 x5 (wrap64 ((x5.length : Int) - 1))).f2))) else (if (wrap64 (x61002000 - t61016)) = (-1) then (if ((rd_T44 x5 (wrap64 ((x5.length : Int) - 1))).f1) > 1 then (papermillref13_more.j1 k x5 (wrap64 ((x5.length : Int) - 1)) (wrap64 (x61002000 - t61016)) (((rd_T44 x5 (wrap64 ((x5.length : Int) - 1))).f2) != ((wrap64 (x61002000 - t61016)) == (-1))) x61002000 x61002001 x61002002 ((rd_T44 x5 (wrap64 ((x5.length : Int) - 1))).f0) ((rd_T44 x5 (wrap64 ((x5.length : Int) - 1))).f1) ((rd_T44 x5 (wrap64 ((x5.length : Int) - 1))).f2)) else (papermillref13_more.j1 k x5 (wrap64 ((x5.length : Int) - 1)) (wrap64 (x61002000 - t61016)) false x61002000 x61002001 x61002002 ((rd_T44 x5 (wrap64 ((x5.length : Int) - 1))).f0) ((rd_T44 x5 (wrap64 ((x5.length : Int) - 1))).f1) ((rd_T44 x5 (wrap64 ((x5.length : Int) - 1))).f2))) else (papermillref13_more.j1 k x5 (wrap64 ((x5.length : Int) - 1)) (wrap64 (x61002000 - t61016)) true x61002000 x61002001 x61002002 ((rd_T44 x5 (wrap64 ((x5.length : Int) - 1))).f0) ((rd_T44 x5 (wrap64 ((x5.length : Int) - 1))).f1) ((rd_T44 x5 (wrap64 ((x5.length : Int) - 1))).f2))))) else (none)) else (none))) else (some x5)
def papermillref13_more.j1 : Nat → List (S44) → Int → Int → Bool → Int → Int → Bool → Int → Int → Bool → Option ((List (S44)))
 | 0, _, _, _, _, _, _, _, _, _, _ => none
 | k + 1, x5, x6, x8, x57, x61002000, x61002001, x61002002, x61016000, x61016001, x61016002 => if x57 = true then ((papermillref13_cut.f x61002000 x61002001 x61002002 0 x61002001).bind fun bt61017 => (if x5.length < 5864062014805 then (some (x5 ++ [(⟨bt61017.1, bt61017.2.1, bt61017.2.2⟩ : S44)])) else (none))) else (if x61002001 > 1 then (papermillref13_more.j2 k x5 x6 x8 x61002001 (x61002002 != (x8 == (-1))) x61002000 x61002001 x61002002 x61016000 x61016001 x61016002) else (papermillref13_more.j2 k x5 x6 x8 x61002001 false x61002000 x61002001 x61002002 x61016000 x61016001 x61016002))
def papermillref13_more.j2 : Nat → List (S44) → Int → Int → Int → Bool → Int → Int → Bool → Int → Int → Bool → Option ((List (S44)))
 | 0, _, _, _, _, _, _, _, _, _, _, _ => none
 | k + 1, x5, x6, x8, x9, x75, x61002000, x61002001, x61002002, x61016000, x61016001, x61016002 => if x75 = true then (if 0 ≤ x6 then (if x6 < (x5.length : Int) then ((some (x5.set (x6 : Int).toNat (⟨x61016000, wrap64 (x61016001 + 1), (x8 == (-1))⟩ : S44) : List (S44))).bind fun y61023 => (if 1 = x61002001 then (some y61023) else ((papermillref13_cut.f x61002000 x61002001 x61002002 1 (wrap64 (x61002001 - 1))).bind fun bt61024 => (papermillref13_more.l0 k y61023 bt61024.1 bt61024.2.1 bt61024.2.2)))) else (none)) else (none)) else (if 0 ≤ x6 then (if x6 < (x5.length : Int) then ((some (x5.set (x6 : Int).toNat (⟨x61016000, wrap64 (x61016001 + x9), (x8 == (-1))⟩ : S44) : List (S44))).bind fun y61027 => (if x9 = x61002001 then (some y61027) else ((papermillref13_cut.f x61002000 x61002001 x61002002 x9 (wrap64 (x61002001 - x9))).bind fun bt61028 => (papermillref13_more.l0 k y61027 bt61028.1 bt61028.2.1 bt61028.2.2)))) else (none)) else (none))
end
def papermillref13_more.f (k : Nat) (l0 : List (S44)) (a1_0 : Int) (a1_1 : Int) (a1_2 : Bool) : Option ((List (S44))) := (some (([] : List (S44)) : List (S44))).bind fun y61002 => (if y61002.length + l0.length < 5864062014805 then (papermillref13_more.l0 k (y61002 ++ l0) a1_0 a1_1 a1_2) else (none))
def papermillref13_more.T7 : Bool × List (List Nat × List Nat) := (true, [([], []), ([0], [0]), ([], []), ([], []), ([3], [3]), ([4], [4]), ([2, 5], [2, 5]), ([1, 6], [1, 6]), ([7, 6, 0, 1, 2, 3, 4, 5, 6, 7], [7])])
def papermillref13_more.B7 : List Nat := [0, 1, 0, 0, 8, 24, 60, 127, 255]
theorem papermillref13_more.tab7 : rtab .any (opsOf Try.f60 7) = papermillref13_more.T7 := by kernel_rfl
theorem papermillref13_more.bits7 : waitsOk papermillref13_more.T7.2 papermillref13_more.B7 = true := by kernel_rfl
set_option maxHeartbeats 8000000 in
set_option maxRecDepth 100000 in
theorem papermillref13_more.calls (k : Nat) (A0 : Option Addr) (c0 : Nat) (l0 : List (S44)) (a1_0 : Int) (a1_1 : Int) (a1_2 : Bool) (r : List (S44)) (w : World) (hr0 : Kd.C k44 w A0 l0.length l0) (hc0 : l0.length ≤ c0) (h : papermillref13_more.f k l0 a1_0 a1_1 a1_2 = some r) :
  Calls Try.prog 60 #[.slice A0 l0.length c0, .agg #[.int .i64 a1_0, .int .i64 a1_1, .bool a1_2]] w fun e w' => ∃ v0_ : Value, e = .returned (v0_) ∧ Kd.R k44 44 w' w.heap.size (fun _ => True) v0_ r ∧ Below w.heap.size w w' := by
 have hu44 := Try.underlying44
 have HR0 := Aside0.mk hr0
 have HC0 := Aside0.mk hc0
 clear hr0 hc0
 have HB := Aside0.mk (Below.refl w.heap.size w)
 have H : ((some (([] : List (S44)) : List (S44))).bind fun y61002 => (if y61002.length + l0.length < 5864062014805 then (papermillref13_more.l0 k (y61002 ++ l0) a1_0 a1_1 a1_2) else (none))) = some r := h
 clear h
 obtain ⟨y61002, hy61002⟩ : ∃ y_ : List (S44), y_ = (([] : List (S44))) := ⟨_, rfl⟩
 replace H : (if y61002.length + l0.length < 5864062014805 then (papermillref13_more.l0 k (y61002 ++ l0) a1_0 a1_1 a1_2) else (none)) = some r := by first | (rw [hy61002]; with_reducible exact H) | (have H2_ := (Option.bind_some _ _).symm.trans H; rw [hy61002]; with_reducible exact H2_) | (have H2_ := (Option.bind_some _ _).symm.trans H; with_reducible exact H2_) | with_reducible exact H | (rw [hy61002]; exact H) | exact H
 have Ny61002 := Aside0.mk hy61002
 clear hy61002
 by_cases c3 : y61002.length + l0.length < 5864062014805
 ·rw [if_pos c3] at H
  have LMc3 := Aside0.mk c3
  clear c3
  obtain ⟨y61005, hy61005⟩ : ∃ y_ : List (S44), y_ = (y61002 ++ l0) := ⟨_, rfl⟩
  replace H : (papermillref13_more.l0 k y61005 a1_0 a1_1 a1_2) = some r := by first | (rw [hy61005]; with_reducible exact H) | (have H2_ := (Option.bind_some _ _).symm.trans H; rw [hy61005]; with_reducible exact H2_) | (have H2_ := (Option.bind_some _ _).symm.trans H; with_reducible exact H2_) | with_reducible exact H | (rw [hy61005]; exact H) | exact H
  have Ny61005 := Aside0.mk hy61005
  clear hy61005
  have H' := Aside0.mk H
  clear H
  go_enter Try.func60, Try.ntmps60
  go_wp2_with (first | ((with_reducible refine gate_dst (N := 3) rfl ?_); refine box_event ?hg (N := 3) ?hd (cs := #[.int .i64 a1_0, .int .i64 a1_1, .bool a1_2]) (t := 44) ?hr ?_; (case hd => rfl); (case hg => rfl); (case hr => first | (go_simp; done) | (go_simp; rfl)); intro gb61001 hg w4 hbox hb; have BK61001 := Aside0.mk (hbox); have GW61001 := Aside0.mk ((by rw [hg]; exact (below_size (by repeat (first | exact HB.out | apply below_alloc | apply pw_below_drewN | apply below_drew1))) : w.heap.size ≤ gb61001)); have GE61001 := Aside0.mk ((by rw [hg]; exact (below_size (by repeat (first | exact HB.out | apply below_alloc | apply pw_below_drewN | apply below_drew1))) : w.heap.size ≤ gb61001)); replace HB := Aside0.mk (below_step (by repeat (first | exact HB.out | apply below_alloc | apply pw_below_drewN | apply below_drew1)) hb); clear hb hbox hg) | ((with_reducible refine gate_dst (N := 10) rfl ?_); refine Kd.R_lit k44 _ 44 ?hg (N := 10) ?hd (xs := ([] : List (S44))) (inner := []) (ok := fun _ => True) (okp := fun _ => True) ?hr ?hp (fun _ hk => hk) trivial (Below.refl _ _) (Nat.le_refl _) (by simp) ?_; (case hd => rfl); (case hg => rfl); (case hr => first | (go_simp; done) | (go_simp; rfl)); (case hp => exact (Reps.none _ _)); intro v61003 w5 ho6 hb hg_ hnew_; clear hg_ hnew_; (first | rw [← Ny61002.out] at ho6 | (simp only [Int.reduceToNat] at ho6; rw [← Ny61002.out] at ho6)); have HO61004 := Aside0.mk (Kd.R_lower (Kd.R_newB ho6 (g := gb61001) (o := .cells #[.int .i64 a1_0, .int .i64 a1_1, .bool a1_2] 44 (0, 0)) (BK61001.out)) (below_size (by repeat (first | exact HB.out | apply below_alloc | apply pw_below_drewN | apply below_drew1 | refine below_set ?_ GE61001.out)))); replace BK61001 := Aside0.mk (blk_below (g := gb61001) (o := .cells #[.int .i64 a1_0, .int .i64 a1_1, .bool a1_2] 44 (0, 0)) (BK61001.out) hb); replace HB := Aside0.mk (below_step (by repeat (first | exact HB.out | apply below_alloc | apply pw_below_drewN | apply below_drew1 | refine below_set ?_ GE61001.out)) hb); clear hb ho6) | ((with_reducible refine gate_builtin (b := .append) (xs := #[.tmp 10, .tmp 11]) rfl ?_); at_builtin; refine Kd.R_append_rows k44 (w0 := w) w.heap.size rfl (.tmp 10) (.tmp 11) 22 44 (.agg #[(.int .i64 0), (.int .i64 0), (.bool false)]) 24 rfl Try.underlying22 info44 rfl (by decide) (by omega) v61003 y61002 l0 _ _ _ (fun k_ => k_ ≠ gb61001) (fun _ => False) rfl rfl ?aO ?aR (fun _ _ h => h) (fun _ h => h.elim) ?aF ?aB ?aS ?aL ?_; (case aR => exact (Kd.C_below HR0.out HB.out)); (case aB => exact (by repeat (first | exact HB.out | apply below_alloc | apply pw_below_drewN | apply below_drew1 | refine below_set ?_ GE61001.out))); (case aF => exact (fun k_ hk => Kd.freshB (g := gb61001) (o := .cells #[.int .i64 a1_0, .int .i64 a1_1, .bool a1_2] 44 (0, 0)) (BK61001.out) k_ hk)); (case aO => exact (by exact Kd.R_mono HO61004.out (fun _ hk => hk.2))); (case aS => exact (below_size (by repeat (first | exact HB.out | apply below_alloc | apply pw_below_drewN | apply below_drew1 | refine below_set ?_ GE61001.out)))); (case aL => have := LMc3.out; omega); intro v61006 w7 ho hb hg hat; rw [← Ny61005.out] at ho; replace BK61001 := Aside0.mk (blk_grown (g := gb61001) (o := .cells #[.int .i64 a1_0, .int .i64 a1_1, .bool a1_2] 44 (0, 0)) (BK61001.out) hg (Kd.R_away HO61004.out (fun _ hk => hk.2))); replace HB := Aside0.mk (hb); have HO61007 := Aside0.mk (ho); clear HO61004; clear ho hb hg hat))
  go_loopg [] k (fun kq w' => ∃ (x5_1 : List (S44)) (x61002000_1 : Int) (x61002001_1 : Int) (x61002002_1 : Bool), Aside0 (papermillref13_more.l0 kq x5_1 x61002000_1 x61002001_1 x61002002_1 = some r) ∧ Aside0 (kq ≤ k) ∧ Aside0 (Kd.R k44 44 w' w.heap.size (fun k_ => k_ ≠ gb61001) v61006 x5_1) ∧ Aside0 (w'.heap[gb61001]? = some (.cells #[.int .i64 x61002000_1, .int .i64 x61002001_1, .bool x61002002_1] 44 (0, 0))) ∧ Aside0 (Below w.heap.size w w'))
  case atStart => exact ⟨(y61005), (a1_0), (a1_1), (a1_2), H', ⟨Nat.le_refl _⟩, ⟨HO61007.out⟩, ⟨BK61001.out⟩, ⟨by repeat (first | exact HB.out | apply below_alloc | apply pw_below_drewN | apply below_drew1 | refine below_set ?_ GE61001.out)⟩⟩
  case round =>
   clear H'
   try clear p2
   try clear c3
   try clear c6
   obtain ⟨x5_1, x61002000_1, x61002001_1, x61002002_1, HA, HK1, HO_5, BK61001, HB⟩ := hrel
   cases gk with
   | zero => exact absurd HA.out (by simp [papermillref13_more.l0])
   | succ k1 =>
    have H := HA.out
    clear HA
    simp only [papermillref13_more.l0] at H
    by_cases c8 : x61002001_1 > 0
    ·rw [if_pos c8] at H
     have c8b0 : decide (0 < x61002001_1) = true := decide_eq_true c8
     clear c8
     by_cases c9 : (wrap64 ((x5_1.length : Int) - 1)) < 0
     ·rw [if_pos c9] at H
      have c9b0 : decide ((wrap64 ((x5_1.length : Int) - 1)) < 0) = true := decide_eq_true c9
      clear c9
      replace H := Option.bind_eq_some_iff.mp H
      obtain ⟨⟨t61008, t61009, t61010⟩, A100, H⟩ := H
      try dsimp only at H
      have A10 := Aside0.mk A100
      clear A100
      by_cases c11 : x5_1.length < 5864062014805
      ·rw [if_pos c11] at H
       have LMc11 := Aside0.mk c11
       clear c11
       obtain ⟨y61011, hy61011⟩ : ∃ y_ : List (S44), y_ = (x5_1 ++ [(⟨t61008, t61009, t61010⟩ : S44)]) := ⟨_, rfl⟩
       replace H : (some y61011) = some r := by first | (rw [hy61011]; with_reducible exact H) | (have H2_ := (Option.bind_some _ _).symm.trans H; rw [hy61011]; with_reducible exact H2_) | (have H2_ := (Option.bind_some _ _).symm.trans H; with_reducible exact H2_) | with_reducible exact H | (rw [hy61011]; exact H) | exact H
       have Ny61011 := Aside0.mk hy61011
       clear hy61011
       obtain rfl := Option.some.inj H
       have hcz12_0 : wr.cell? ⟨gb61001, 0, none⟩ = some (.int .i64 x61002000_1) := (blk_cell BK61001.out 0).trans rfl
       have hcz12_1 : wr.cell? ⟨gb61001, 1, none⟩ = some (.int .i64 x61002001_1) := (blk_cell BK61001.out 1).trans rfl
       have hcz12_2 : wr.cell? ⟨gb61001, 2, none⟩ = some (.bool x61002002_1) := (blk_cell BK61001.out 2).trans rfl
       have hfz12_0 := blk_frozen BK61001.out 0
       have hfz12_1 := blk_frozen BK61001.out 1
       have hfz12_2 := blk_frozen BK61001.out 2
       obtain ⟨Ao13, co13, eo13⟩ := Kd.R_slice HO_5.out
       subst eo13
       go_wp2_with (first | ((with_reducible refine gate_callee (f := 72) rfl ?_); refine goesL_ (some 25) rfl rfl Try.func72 (by kernel_rfl) rfl #[.agg #[.int .i64 x61002000_1, .int .i64 x61002001_1, .bool x61002002_1], .int .i64 0, .int .i64 x61002001_1] rfl (by (try simp only [List.map_toArray, List.map_cons, List.map_nil]); first | done | rfl | (simp only [List.length_drop, List.length_take]; rfl)) ?_; (with_reducible refine (papermillref13_cut.calls x61002000_1 x61002001_1 x61002002_1 0 x61002001_1 t61008 t61009 t61010 _ A10.out).mono ?_); rintro e w14 ⟨rfl, hb⟩; refine ⟨_, rfl, ?_⟩; replace HO_5 := Aside0.mk (Kd.R_below (HO_5.out) hb); replace BK61001 := Aside0.mk (blk_below (g := gb61001) (o := .cells #[.int .i64 x61002000_1, .int .i64 x61002001_1, .bool x61002002_1] 44 (0, 0)) (BK61001.out) hb); replace HB := Aside0.mk (below_step (by repeat (first | exact HB.out | apply below_alloc | apply pw_below_drewN | apply below_drew1 | refine below_set ?_ GE61001.out)) hb); (try clear hb); (try clear hb2); (try clear hk); (try clear hi)) | ((with_reducible refine gate_builtin (b := .append) (xs := #[.tmp 21, .tmp 26]) rfl ?_); at_builtin; refine Kd.R_append k44 (w0 := w) w.heap.size rfl (.tmp 21) (.tmp 26) 22 44 (.agg #[(.int .i64 0), (.int .i64 0), (.bool false)]) 24 rfl Try.underlying22 info44 rfl (by decide) (by omega) (.slice Ao13 x5_1.length co13) x5_1 (⟨t61008, t61009, t61010⟩ : S44) [.int .i64 t61008, .int .i64 t61009, .bool t61010] (fun k_ => k_ ≠ gb61001) (fun _ => False) rfl rfl ?aP (fun _ hk => hk.elim) ?aF ?aO ?aB ?aS ?aL ?_; (case aP => exact k44_mkM _ _ _ (⟨t61008, t61009, t61010⟩ : S44)); (case aB => exact (by repeat (first | exact HB.out | apply below_alloc | apply pw_below_drewN | apply below_drew1 | refine below_set ?_ GE61001.out))); (case aF => exact (fun k_ hk => Kd.freshB (g := gb61001) (o := .cells #[.int .i64 x61002000_1, .int .i64 x61002001_1, .bool x61002002_1] 44 (0, 0)) (BK61001.out) k_ hk)); (case aO => exact (HO_5.out)); (case aS => exact (below_size (by repeat (first | exact HB.out | apply below_alloc | apply pw_below_drewN | apply below_drew1 | refine below_set ?_ GE61001.out)))); (case aL => have := LMc11.out; omega); intro v61012 w15 ho hb hg hat; rw [← Ny61011.out] at ho; replace BK61001 := Aside0.mk (blk_grown (g := gb61001) (o := .cells #[.int .i64 x61002000_1, .int .i64 x61002001_1, .bool x61002002_1] 44 (0, 0)) (BK61001.out) hg (Kd.R_away HO_5.out (fun _ hk => hk))); replace HB := Aside0.mk (hb); have HO61013 := Aside0.mk (ho); clear HO_5; clear ho hb hg hat))
       go_ret
       exact ⟨_, by first | rfl | (simp [errW_none, errW_some] <;> rfl) | (simp [*, errW_none, errW_some] <;> rfl), by exact Kd.R_mono HO61013.out (fun _ hk => trivial), by repeat (first | exact HB.out | apply below_alloc | apply pw_below_drewN | apply below_drew1 | refine below_set ?_ GE61001.out)⟩
      ·rw [if_neg c11] at H
       exact absurd H (by simp)
     ·rw [if_neg c9] at H
      have c9b0 : decide ((wrap64 ((x5_1.length : Int) - 1)) < 0) = false := decide_eq_false c9
      clear c9
      obtain ⟨ji16, hji16⟩ : ∃ j_ : Int, (wrap64 ((x5_1.length : Int) - 1)) = j_ := ⟨_, rfl⟩
      replace H : (if 0 ≤ (ji16) then (if (ji16) < (x5_1.length : Int) then ((papermillref13_image.f ((rd_T44 x5_1 (ji16)).f0) ((rd_T44 x5_1 (ji16)).f1) ((rd_T44 x5_1 (ji16)).f2) (wrap64 (((rd_T44 x5_1 (ji16)).f1) - 1))).bind fun t61016 => (if (wrap64 (x61002000_1 - t61016)) = 1 then (if ((rd_T44 x5_1 (ji16)).f1) > 1 then (papermillref13_more.j1 k1 x5_1 ji16 (wrap64 (x61002000_1 - t61016)) (((rd_T44 x5_1 (ji16)).f2) != ((wrap64 (x61002000_1 - t61016)) == (-1))) x61002000_1 x61002001_1 x61002002_1 ((rd_T44 x5_1 (ji16)).f0) ((rd_T44 x5_1 (ji16)).f1) ((rd_T44 x5_1 (ji16)).f2)) else (papermillref13_more.j1 k1 x5_1 ji16 (wrap64 (x61002000_1 - t61016)) false x61002000_1 x61002001_1 x61002002_1 ((rd_T44 x5_1 (ji16)).f0) ((rd_T44 x5_1 (ji16)).f1) ((rd_T44 x5_1 (ji16)).f2))) else (if (wrap64 (x61002000_1 - t61016)) = (-1) then (if ((rd_T44 x5_1 (ji16)).f1) > 1 then (papermillref13_more.j1 k1 x5_1 ji16 (wrap64 (x61002000_1 - t61016)) (((rd_T44 x5_1 (ji16)).f2) != ((wrap64 (x61002000_1 - t61016)) == (-1))) x61002000_1 x61002001_1 x61002002_1 ((rd_T44 x5_1 (ji16)).f0) ((rd_T44 x5_1 (ji16)).f1) ((rd_T44 x5_1 (ji16)).f2)) else (papermillref13_more.j1 k1 x5_1 ji16 (wrap64 (x61002000_1 - t61016)) false x61002000_1 x61002001_1 x61002002_1 ((rd_T44 x5_1 (ji16)).f0) ((rd_T44 x5_1 (ji16)).f1) ((rd_T44 x5_1 (ji16)).f2))) else (papermillref13_more.j1 k1 x5_1 ji16 (wrap64 (x61002000_1 - t61016)) true x61002000_1 x61002001_1 x61002002_1 ((rd_T44 x5_1 (ji16)).f0) ((rd_T44 x5_1 (ji16)).f1) ((rd_T44 x5_1 (ji16)).f2))))) else (none)) else (none)) = some r := by first | (rw [hji16] at H; exact H) | (simp only [hji16] at H ⊢; exact H)
      (try rw [hji16] at c9b0)
      have hji16w : (IntKind.i64.wrap ((x5_1.length : Int) - 1)) = ji16 := (i64_w _).trans hji16
      by_cases c17 : 0 ≤ (ji16)
      ·rw [if_pos c17] at H
       have c17b0 : decide (0 ≤ (ji16)) = true := decide_eq_true c17
       clear c17
       by_cases c18 : (ji16) < (x5_1.length : Int)
       ·rw [if_pos c18] at H
        have c18b0 : decide ((ji16) < (x5_1.length : Int)) = true := decide_eq_true c18
        clear c18
        replace H := Option.bind_eq_some_iff.mp H
        obtain ⟨t61016, A190, H⟩ := H
        have A19 := Aside0.mk A190
        clear A190
        have HC20 := Aside0.mk H
        clear H
        have hcz21_0 : wr.cell? ⟨gb61001, 0, none⟩ = some (.int .i64 x61002000_1) := (blk_cell BK61001.out 0).trans rfl
        have hcz21_1 : wr.cell? ⟨gb61001, 1, none⟩ = some (.int .i64 x61002001_1) := (blk_cell BK61001.out 1).trans rfl
        have hcz21_2 : wr.cell? ⟨gb61001, 2, none⟩ = some (.bool x61002002_1) := (blk_cell BK61001.out 2).trans rfl
        have hfz21_0 := blk_frozen BK61001.out 0
        have hfz21_1 := blk_frozen BK61001.out 1
        have hfz21_2 := blk_frozen BK61001.out 2
        obtain ⟨Ao22, co22, eo22⟩ := Kd.R_slice HO_5.out
        subst eo22
        have p61014 : 0 ≤ ((ji16) : Int) := of_decide_eq_true (by assumption)
        have q61014 : (ji16) < (x5_1.length : Int) := of_decide_eq_true (by assumption)
        obtain ⟨ad61014, e61014, hx61014_0, hx61014_1, hx61014_2⟩ := at_T44 (Kd.R_reads' HO_5.out).2.2 (ji16) p61014 q61014
        cases e61014
        replace p61014 := eq_true p61014
        replace q61014 := eq_true q61014
        try go_wp2_with (first | ((with_reducible refine gate_dst (N := 7) rfl ?_); refine box_event ?hg (N := 7) ?hd (cs := #[.int .i64 0, .int .i64 0, .bool false]) (t := 44) ?hr ?_; (case hd => rfl); (case hg => rfl); (case hr => first | (go_simp; done) | (go_simp; rfl)); intro gb61015 hg w23 hbox hb; replace HO_5 := Aside0.mk (Kd.R_below (Kd.R_elderB (HO_5.out) gb61015 (Nat.le_of_eq hg.symm)) hb); have BK61015 := Aside0.mk (hbox); have GW61015 := Aside0.mk ((by rw [hg]; exact (below_size (by repeat (first | exact HB.out | apply below_alloc | apply pw_below_drewN | apply below_drew1 | refine below_set ?_ GE61001.out))) : w.heap.size ≤ gb61015)); have GE61015 := Aside0.mk ((by rw [hg]; exact (below_size (by repeat (first | exact HB.out | apply below_alloc | apply pw_below_drewN | apply below_drew1 | refine below_set ?_ GE61001.out))) : w.heap.size ≤ gb61015)); replace HB := Aside0.mk (below_step (by repeat (first | exact HB.out | apply below_alloc | apply pw_below_drewN | apply below_drew1 | refine below_set ?_ GE61001.out)) hb); have NB61001_61015 := Aside0.mk ((by rw [hg]; exact Nat.ne_of_lt (blk_lt (g := gb61001) (o := .cells #[.int .i64 x61002000_1, .int .i64 x61002001_1, .bool x61002002_1] 44 (0, 0)) (BK61001.out)) : gb61001 ≠ gb61015)); have NB61015_61001 := Aside0.mk ((by rw [hg]; exact Nat.ne_of_gt (blk_lt (g := gb61001) (o := .cells #[.int .i64 x61002000_1, .int .i64 x61002001_1, .bool x61002002_1] 44 (0, 0)) (BK61001.out)) : gb61015 ≠ gb61001)); replace BK61001 := Aside0.mk (blk_below (g := gb61001) (o := .cells #[.int .i64 x61002000_1, .int .i64 x61002001_1, .bool x61002002_1] 44 (0, 0)) (BK61001.out) hb); clear hb hbox hg; have hnb24 := NB61015_61001.out; have hnc24 := NB61001_61015.out; have hcz25_0 : w23.cell? ⟨gb61015, 0, none⟩ = some (.int .i64 0) := (blk_cell BK61015.out 0).trans rfl; have hcz25_1 : w23.cell? ⟨gb61015, 1, none⟩ = some (.int .i64 0) := (blk_cell BK61015.out 1).trans rfl; have hcz25_2 : w23.cell? ⟨gb61015, 2, none⟩ = some (.bool false) := (blk_cell BK61015.out 2).trans rfl; have hfz25_0 := blk_frozen BK61015.out 0; have hfz25_1 := blk_frozen BK61015.out 1; have hfz25_2 := blk_frozen BK61015.out 2))
        have n0_ : Aside0 (Kd.R k44 44 (((w23.setCell ⟨gb61015, 0, none⟩ (.int .i64 ((rd_T44 x5_1 (ji16)).f0))).setCell ⟨gb61015, 1, none⟩ (.int .i64 ((rd_T44 x5_1 (ji16)).f1))).setCell ⟨gb61015, 2, none⟩ (.bool ((rd_T44 x5_1 (ji16)).f2))) w.heap.size (fun k_ => k_ ≠ gb61001 ∧ k_ ≠ gb61015) (.slice (some ad61014) x5_1.length co22) x5_1) := ⟨by exact Kd.R_mono (Kd.R_far (p := ⟨gb61015, 2, none⟩) (Kd.R_far (p := ⟨gb61015, 1, none⟩) (Kd.R_far (p := ⟨gb61015, 0, none⟩) (Kd.R_mono HO_5.out (fun k_ hk => (⟨hk, hk.2⟩ : _ ∧ k_ ≠ gb61015))) (fun _ hk => hk.2) (.int .i64 ((rd_T44 x5_1 (ji16)).f0))) (fun _ hk => hk.2) (.int .i64 ((rd_T44 x5_1 (ji16)).f1))) (fun _ hk => hk.2) (.bool ((rd_T44 x5_1 (ji16)).f2))) (fun _ hk => ⟨hk.1.1, hk.1.2⟩)⟩
        have n1_ : Aside0 ((((w23.setCell ⟨gb61015, 0, none⟩ (.int .i64 ((rd_T44 x5_1 (ji16)).f0))).setCell ⟨gb61015, 1, none⟩ (.int .i64 ((rd_T44 x5_1 (ji16)).f1))).setCell ⟨gb61015, 2, none⟩ (.bool ((rd_T44 x5_1 (ji16)).f2))).heap[gb61001]? = some (.cells #[.int .i64 x61002000_1, .int .i64 x61002001_1, .bool x61002002_1] 44 (0, 0))) := ⟨by refine blk_far ?_ NB61001_61015.out _; refine blk_far ?_ NB61001_61015.out _; refine blk_far ?_ NB61001_61015.out _; exact BK61001.out⟩
        have n2_ : Aside0 ((((w23.setCell ⟨gb61015, 0, none⟩ (.int .i64 ((rd_T44 x5_1 (ji16)).f0))).setCell ⟨gb61015, 1, none⟩ (.int .i64 ((rd_T44 x5_1 (ji16)).f1))).setCell ⟨gb61015, 2, none⟩ (.bool ((rd_T44 x5_1 (ji16)).f2))).heap[gb61015]? = some (.cells #[.int .i64 ((rd_T44 x5_1 (ji16)).f0), .int .i64 ((rd_T44 x5_1 (ji16)).f1), .bool ((rd_T44 x5_1 (ji16)).f2)] 44 (0, 0))) := ⟨by refine blk_put (cs := #[.int .i64 ((rd_T44 x5_1 (ji16)).f0), .int .i64 ((rd_T44 x5_1 (ji16)).f1), .bool false]) ?_ 2 _ rfl; refine blk_put (cs := #[.int .i64 ((rd_T44 x5_1 (ji16)).f0), .int .i64 0, .bool false]) ?_ 1 _ rfl; refine blk_put (cs := #[.int .i64 0, .int .i64 0, .bool false]) ?_ 0 _ rfl; exact BK61015.out⟩
        have n3_ : Aside0 (Below w.heap.size w (((w23.setCell ⟨gb61015, 0, none⟩ (.int .i64 ((rd_T44 x5_1 (ji16)).f0))).setCell ⟨gb61015, 1, none⟩ (.int .i64 ((rd_T44 x5_1 (ji16)).f1))).setCell ⟨gb61015, 2, none⟩ (.bool ((rd_T44 x5_1 (ji16)).f2)))) := ⟨by repeat (first | exact HB.out | apply below_alloc | apply pw_below_drewN | apply below_drew1 | refine below_set ?_ GE61001.out | refine below_set ?_ GE61015.out)⟩
        (try clear HO_5)
        (try clear BK61001)
        (try clear BK61015)
        (try clear HB)
        generalize (((w23.setCell ⟨gb61015, 0, none⟩ (.int .i64 ((rd_T44 x5_1 (ji16)).f0))).setCell ⟨gb61015, 1, none⟩ (.int .i64 ((rd_T44 x5_1 (ji16)).f1))).setCell ⟨gb61015, 2, none⟩ (.bool ((rd_T44 x5_1 (ji16)).f2))) = w26 at n0_ n1_ n2_ n3_ ⊢
        have HO_5 := n0_
        have BK61001 := n1_
        have BK61015 := n2_
        have HB := n3_
        clear n0_ n1_ n2_ n3_
        replace HO_5 := Aside0.mk (Kd.R_drew HO_5.out)
        replace BK61001 := Aside0.mk (blk_drew BK61001.out)
        replace BK61015 := Aside0.mk (blk_drew BK61015.out)
        replace HB := Aside0.mk (below_drew1 HB.out)
        refine start_ (n := 9) (S := fun w' => w'.cell? ⟨gb61001, 0, none⟩ = some (.int .i64 x61002000_1) ∧ w'.cell? ⟨gb61001, 1, none⟩ = some (.int .i64 x61002001_1) ∧ w'.cell? ⟨gb61001, 2, none⟩ = some (.bool x61002002_1) ∧ w'.cell? ⟨gb61015, 0, none⟩ = some (.int .i64 ((rd_T44 x5_1 (ji16)).f0)) ∧ w'.cell? ⟨gb61015, 1, none⟩ = some (.int .i64 ((rd_T44 x5_1 (ji16)).f1)) ∧ w'.cell? ⟨gb61015, 2, none⟩ = some (.bool ((rd_T44 x5_1 (ji16)).f2))) (ds := []) #[false, false, false, false, false, false, false, false, false] (by kernel_rfl) rfl rfl ⟨(blk_cell BK61001.out 0).trans rfl, (blk_cell BK61001.out 1).trans rfl, (blk_cell BK61001.out 2).trans rfl, (blk_cell BK61015.out 0).trans rfl, (blk_cell BK61015.out 1).trans rfl, (blk_cell BK61015.out 2).trans rfl⟩ (fun hHeld => ?_); refine with_tabW papermillref13_more.tab7 papermillref13_more.bits7 (fun HT_ HW_ => ?_)
        generalize w26.drew = w27 at HO_5 BK61001 BK61015 HB hHeld ⊢
        refine pu_ 0 (some 32) HT_ ?_
        refine pu_ 3 (some 35) HT_ ?_
        refine tk_ 1 (some 33) HT_ HW_ hHeld ?_ (hy := .inl ⟨by rfl, by rintro w' ⟨s0, s1, s2, s3, s4, s5⟩; go_simp; with_reducible rfl⟩)
        refine tk_ 2 (some 34) HT_ HW_ hHeld ?_ (hy := .inl ⟨by rfl, by rintro w' ⟨s0, s1, s2, s3, s4, s5⟩; go_simp; with_reducible rfl⟩)
        refine tk_ 4 (some 36) HT_ HW_ hHeld ?_ (hy := .inl ⟨by rfl, by rintro w' ⟨s0, s1, s2, s3, s4, s5⟩; go_simp; with_reducible rfl⟩)
        refine pu_ 5 (some 37) HT_ ?_
        refine one_ (i := 6) (N := some 38) #[true, true, true, true, true, true, true, false, false] rfl rfl (one_of HT_.out (by kernel_rfl)) (by decide) (fun K hK => ?_)
        refine goes_ Try.func48 (by kernel_rfl) rfl #[.agg #[.int .i64 ((rd_T44 x5_1 (ji16)).f0), .int .i64 ((rd_T44 x5_1 (ji16)).f1), .bool ((rd_T44 x5_1 (ji16)).f2)], .int .i64 (wrap64 (((rd_T44 x5_1 (ji16)).f1) - 1))] (by rfl) rfl rfl (by (try simp only [List.map_toArray, List.map_cons, List.map_nil]); first | done | (simp only [hji16]; rfl) | rfl | (simp only [List.length_drop, List.length_take]; rfl)) ?_
        with_reducible refine (papermillref13_image.calls ((rd_T44 x5_1 (ji16)).f0) ((rd_T44 x5_1 (ji16)).f1) ((rd_T44 x5_1 (ji16)).f2) (wrap64 (((rd_T44 x5_1 (ji16)).f1) - 1)) t61016 _ A19.out).mono ?_
        rintro e w28 ⟨rfl, hb⟩
        refine ⟨_, rfl, ?_⟩
        replace HO_5 := Aside0.mk (Kd.R_below (HO_5.out) hb)
        replace BK61001 := Aside0.mk (blk_below (g := gb61001) (o := .cells #[.int .i64 x61002000_1, .int .i64 x61002001_1, .bool x61002002_1] 44 (0, 0)) (BK61001.out) hb)
        replace BK61015 := Aside0.mk (blk_below (g := gb61015) (o := .cells #[.int .i64 ((rd_T44 x5_1 (ji16)).f0), .int .i64 ((rd_T44 x5_1 (ji16)).f1), .bool ((rd_T44 x5_1 (ji16)).f2)] 44 (0, 0)) (BK61015.out) hb)
        replace HB := Aside0.mk (below_step (by repeat (first | exact HB.out | apply below_alloc | apply pw_below_drewN | apply below_drew1 | refine below_set ?_ GE61001.out | refine below_set ?_ GE61015.out)) hb)
        (try clear hb)
        (try clear hb2)
        (try clear hk)
        (try clear hi)
        refine hK.out _ _ ⟨(blk_cell BK61001.out 0).trans rfl, (blk_cell BK61001.out 1).trans rfl, (blk_cell BK61001.out 2).trans rfl, (blk_cell BK61015.out 0).trans rfl, (blk_cell BK61015.out 1).trans rfl, (blk_cell BK61015.out 2).trans rfl⟩ (fun hHeld => ?_)
        clear hK K
        refine norm_ (a' := ?_) ?_ ?_
        rotate_left
        ·show Act.put _ (some 38) _ = _
         simp only [Act.put, List.setIfInBounds_toArray, List.set_cons_zero, List.set_cons_succ, i64_w, i32_w]
         rfl
        refine pu_ 7 (some 39) HT_ ?_
        refine pu_ 8 (some 8) HT_ ?_
        refine done_ (done_of HT_.out (by kernel_rfl)) ?_
        go_upto_region 8 with (fail)
        go_cut [57] (fun v57 wc => ∃ (kq : Nat) (x57_19 : Bool), v57 = .bool x57_19 ∧ Aside0 (papermillref13_more.j1 kq x5_1 ji16 (wrap64 (x61002000_1 - t61016)) x57_19 x61002000_1 x61002001_1 x61002002_1 ((rd_T44 x5_1 (ji16)).f0) ((rd_T44 x5_1 (ji16)).f1) ((rd_T44 x5_1 (ji16)).f2) = some r) ∧ Aside0 (kq ≤ k1) ∧ Aside0 (Kd.R k44 44 wc w.heap.size (fun k_ => k_ ≠ gb61001 ∧ k_ ≠ gb61015) (.slice (some ad61014) x5_1.length co22) x5_1) ∧ Aside0 (wc.heap[gb61001]? = some (.cells #[.int .i64 x61002000_1, .int .i64 x61002001_1, .bool x61002002_1] 44 (0, 0))) ∧ Aside0 (wc.heap[gb61015]? = some (.cells #[.int .i64 ((rd_T44 x5_1 (ji16)).f0), .int .i64 ((rd_T44 x5_1 (ji16)).f1), .bool ((rd_T44 x5_1 (ji16)).f2)] 44 (0, 0))) ∧ Aside0 (Below w.heap.size w wc))
        case first =>
         have H := HC20.out
         clear HC20
         by_cases c29 : (wrap64 (x61002000_1 - t61016)) = 1
         ·rw [if_pos c29] at H
          have c29b0 : ((wrap64 (x61002000_1 - t61016)) == 1) = true := beq_iff_eq.mpr c29
          have c29b1 : ((wrap64 (x61002000_1 - t61016)) != 1) = false := bne_eq_false_iff_eq.mpr c29
          clear c29
          (first | rw [c29b0] | (simp only [i64_w, i32_w]; rw [c29b0]) | skip)
          by_cases c30 : ((rd_T44 x5_1 (ji16)).f1) > 1
          ·rw [if_pos c30] at H
           have c30b0 : decide (1 < ((rd_T44 x5_1 (ji16)).f1)) = true := decide_eq_true c30
           clear c30
           have H' := Aside0.mk H
           clear H
           have hnb31 := NB61015_61001.out
           have hnc31 := NB61001_61015.out
           have hcz32_0 : w28.cell? ⟨gb61015, 0, none⟩ = some (.int .i64 ((rd_T44 x5_1 (ji16)).f0)) := (blk_cell BK61015.out 0).trans rfl
           have hcz32_1 : w28.cell? ⟨gb61015, 1, none⟩ = some (.int .i64 ((rd_T44 x5_1 (ji16)).f1)) := (blk_cell BK61015.out 1).trans rfl
           have hcz32_2 : w28.cell? ⟨gb61015, 2, none⟩ = some (.bool ((rd_T44 x5_1 (ji16)).f2)) := (blk_cell BK61015.out 2).trans rfl
           have hfz32_0 := blk_frozen BK61015.out 0
           have hfz32_1 := blk_frozen BK61015.out 1
           have hfz32_2 := blk_frozen BK61015.out 2
           go_wp2
           go_meet
           case rel => exact ⟨_, ((((rd_T44 x5_1 (ji16)).f2) != ((wrap64 (x61002000_1 - t61016)) == (-1)))), (by first | rfl | (simp; done) | (simp only [← hji16] <;> (first | rfl | (simp; done))) | (simp [*]; done)), H', ⟨by have := HK1.out; first | omega | exact Nat.le_refl _⟩, ⟨HO_5.out⟩, ⟨BK61001.out⟩, ⟨BK61015.out⟩, ⟨by repeat (first | exact HB.out | apply below_alloc | apply pw_below_drewN | apply below_drew1 | refine below_set ?_ GE61001.out | refine below_set ?_ GE61015.out)⟩⟩
          ·rw [if_neg c30] at H
           have c30b0 : decide (1 < ((rd_T44 x5_1 (ji16)).f1)) = false := decide_eq_false c30
           clear c30
           have H' := Aside0.mk H
           clear H
           have hnb33 := NB61015_61001.out
           have hnc33 := NB61001_61015.out
           have hcz34_0 : w28.cell? ⟨gb61015, 0, none⟩ = some (.int .i64 ((rd_T44 x5_1 (ji16)).f0)) := (blk_cell BK61015.out 0).trans rfl
           have hcz34_1 : w28.cell? ⟨gb61015, 1, none⟩ = some (.int .i64 ((rd_T44 x5_1 (ji16)).f1)) := (blk_cell BK61015.out 1).trans rfl
           have hcz34_2 : w28.cell? ⟨gb61015, 2, none⟩ = some (.bool ((rd_T44 x5_1 (ji16)).f2)) := (blk_cell BK61015.out 2).trans rfl
           have hfz34_0 := blk_frozen BK61015.out 0
           have hfz34_1 := blk_frozen BK61015.out 1
           have hfz34_2 := blk_frozen BK61015.out 2
           go_wp2
           go_meet
           case rel => exact ⟨_, (false), (by first | rfl | (simp; done) | (simp [*]; done)), H', ⟨by have := HK1.out; first | omega | exact Nat.le_refl _⟩, ⟨HO_5.out⟩, ⟨BK61001.out⟩, ⟨BK61015.out⟩, ⟨by repeat (first | exact HB.out | apply below_alloc | apply pw_below_drewN | apply below_drew1 | refine below_set ?_ GE61001.out | refine below_set ?_ GE61015.out)⟩⟩
         ·rw [if_neg c29] at H
          have c29b0 : ((wrap64 (x61002000_1 - t61016)) == 1) = false := beq_eq_false_iff_ne.mpr c29
          have c29b1 : ((wrap64 (x61002000_1 - t61016)) != 1) = true := bne_iff_ne.mpr c29
          (first | rw [c29b0] | (simp only [i64_w, i32_w]; rw [c29b0]) | skip)
          by_cases c35 : (wrap64 (x61002000_1 - t61016)) = (-1)
          ·rw [if_pos c35] at H
           have c35b0 : ((wrap64 (x61002000_1 - t61016)) == (-1)) = true := beq_iff_eq.mpr c35
           have c35b1 : ((wrap64 (x61002000_1 - t61016)) != (-1)) = false := bne_eq_false_iff_eq.mpr c35
           clear c35
           by_cases c36 : ((rd_T44 x5_1 (ji16)).f1) > 1
           ·rw [if_pos c36] at H
            have c36b0 : decide (1 < ((rd_T44 x5_1 (ji16)).f1)) = true := decide_eq_true c36
            clear c36
            have H' := Aside0.mk H
            clear H
            have hnb37 := NB61015_61001.out
            have hnc37 := NB61001_61015.out
            have hcz38_0 : w28.cell? ⟨gb61015, 0, none⟩ = some (.int .i64 ((rd_T44 x5_1 (ji16)).f0)) := (blk_cell BK61015.out 0).trans rfl
            have hcz38_1 : w28.cell? ⟨gb61015, 1, none⟩ = some (.int .i64 ((rd_T44 x5_1 (ji16)).f1)) := (blk_cell BK61015.out 1).trans rfl
            have hcz38_2 : w28.cell? ⟨gb61015, 2, none⟩ = some (.bool ((rd_T44 x5_1 (ji16)).f2)) := (blk_cell BK61015.out 2).trans rfl
            have hfz38_0 := blk_frozen BK61015.out 0
            have hfz38_1 := blk_frozen BK61015.out 1
            have hfz38_2 := blk_frozen BK61015.out 2
            go_wp2
            go_meet
            case rel => exact ⟨_, ((((rd_T44 x5_1 (ji16)).f2) != ((wrap64 (x61002000_1 - t61016)) == (-1)))), (by first | rfl | (simp; done) | (simp only [← hji16] <;> (first | rfl | (simp; done))) | (simp [*]; done)), H', ⟨by have := HK1.out; first | omega | exact Nat.le_refl _⟩, ⟨HO_5.out⟩, ⟨BK61001.out⟩, ⟨BK61015.out⟩, ⟨by repeat (first | exact HB.out | apply below_alloc | apply pw_below_drewN | apply below_drew1 | refine below_set ?_ GE61001.out | refine below_set ?_ GE61015.out)⟩⟩
           ·rw [if_neg c36] at H
            have c36b0 : decide (1 < ((rd_T44 x5_1 (ji16)).f1)) = false := decide_eq_false c36
            clear c36
            have H' := Aside0.mk H
            clear H
            have hnb39 := NB61015_61001.out
            have hnc39 := NB61001_61015.out
            have hcz40_0 : w28.cell? ⟨gb61015, 0, none⟩ = some (.int .i64 ((rd_T44 x5_1 (ji16)).f0)) := (blk_cell BK61015.out 0).trans rfl
            have hcz40_1 : w28.cell? ⟨gb61015, 1, none⟩ = some (.int .i64 ((rd_T44 x5_1 (ji16)).f1)) := (blk_cell BK61015.out 1).trans rfl
            have hcz40_2 : w28.cell? ⟨gb61015, 2, none⟩ = some (.bool ((rd_T44 x5_1 (ji16)).f2)) := (blk_cell BK61015.out 2).trans rfl
            have hfz40_0 := blk_frozen BK61015.out 0
            have hfz40_1 := blk_frozen BK61015.out 1
            have hfz40_2 := blk_frozen BK61015.out 2
            go_wp2
            go_meet
            case rel => exact ⟨_, (false), (by first | rfl | (simp; done) | (simp [*]; done)), H', ⟨by have := HK1.out; first | omega | exact Nat.le_refl _⟩, ⟨HO_5.out⟩, ⟨BK61001.out⟩, ⟨BK61015.out⟩, ⟨by repeat (first | exact HB.out | apply below_alloc | apply pw_below_drewN | apply below_drew1 | refine below_set ?_ GE61001.out | refine below_set ?_ GE61015.out)⟩⟩
          ·rw [if_neg c35] at H
           have c35b0 : ((wrap64 (x61002000_1 - t61016)) == (-1)) = false := beq_eq_false_iff_ne.mpr c35
           have c35b1 : ((wrap64 (x61002000_1 - t61016)) != (-1)) = true := bne_iff_ne.mpr c35
           have H' := Aside0.mk H
           clear H
           go_wp2
           go_meet
           case rel => exact ⟨_, (true), (by first | rfl | (simp; done) | (simp [*]; done)), H', ⟨by have := HK1.out; first | omega | exact Nat.le_refl _⟩, ⟨HO_5.out⟩, ⟨BK61001.out⟩, ⟨BK61015.out⟩, ⟨by repeat (first | exact HB.out | apply below_alloc | apply pw_below_drewN | apply below_drew1 | refine below_set ?_ GE61001.out | refine below_set ?_ GE61015.out)⟩⟩
        case rest =>
         clear HC20
         try clear c1
         try clear c2
         try clear p2
         try clear c3
         try clear c4
         try clear c6
         try clear p6
         try clear q6
         try clear hx6
         try clear c7
         try clear c8
         try clear c8b0
         try clear c9
         try clear c9b0
         try clear c11
         try clear c17
         try clear c17b0
         try clear c18
         try clear c18b0
         try clear c24
         try clear c29
         try clear c29b0
         try clear c29b1
         try clear c30
         try clear c30b0
         try clear c31
         try clear c33
         try clear c35
         try clear c35b0
         try clear c35b1
         try clear c36
         try clear c36b0
         try clear c37
         try clear c39
         try clear hcz12_0
         try clear hcz12_1
         try clear hcz12_2
         try clear hcz21_0
         try clear hcz21_1
         try clear hcz21_2
         try clear hcz25_0
         try clear hcz25_1
         try clear hcz25_2
         try clear hcz32_0
         try clear hcz32_1
         try clear hcz32_2
         try clear hcz34_0
         try clear hcz34_1
         try clear hcz34_2
         try clear hcz38_0
         try clear hcz38_1
         try clear hcz38_2
         try clear hcz40_0
         try clear hcz40_1
         try clear hcz40_2
         try clear hfz12_0
         try clear hfz12_1
         try clear hfz12_2
         try clear hfz21_0
         try clear hfz21_1
         try clear hfz21_2
         try clear hfz25_0
         try clear hfz25_1
         try clear hfz25_2
         try clear hfz32_0
         try clear hfz32_1
         try clear hfz32_2
         try clear hfz34_0
         try clear hfz34_1
         try clear hfz34_2
         try clear hfz38_0
         try clear hfz38_1
         try clear hfz38_2
         try clear hfz40_0
         try clear hfz40_1
         try clear hfz40_2
         try clear hx61014_0
         try clear hx61014_1
         try clear hx61014_2
         try clear p2
         try clear p61014
         try clear q61014
         obtain ⟨kq, x57_19, rfl, HA, HJ19, HO_5, BK61001, BK61015, HB⟩ := hcut
         cases kq with
         | zero => exact absurd HA.out (by simp [papermillref13_more.j1])
         | succ kj19 =>
          have H := HA.out
          clear HA
          simp only [papermillref13_more.j1] at H
          by_cases c41 : x57_19 = true
          ·subst c41
           rw [if_pos rfl] at H
           replace H := Option.bind_eq_some_iff.mp H
           obtain ⟨⟨t61017, t61018, t61019⟩, A420, H⟩ := H
           try dsimp only at H
           have A42 := Aside0.mk A420
           clear A420
           by_cases c43 : x5_1.length < 5864062014805
           ·rw [if_pos c43] at H
            have LMc43 := Aside0.mk c43
            clear c43
            obtain ⟨y61020, hy61020⟩ : ∃ y_ : List (S44), y_ = (x5_1 ++ [(⟨t61017, t61018, t61019⟩ : S44)]) := ⟨_, rfl⟩
            replace H : (some y61020) = some r := by first | (rw [hy61020]; with_reducible exact H) | (have H2_ := (Option.bind_some _ _).symm.trans H; rw [hy61020]; with_reducible exact H2_) | (have H2_ := (Option.bind_some _ _).symm.trans H; with_reducible exact H2_) | with_reducible exact H | (rw [hy61020]; exact H) | exact H
            have Ny61020 := Aside0.mk hy61020
            clear hy61020
            obtain rfl := Option.some.inj H
            have hnb44 := NB61001_61015.out
            have hnc44 := NB61015_61001.out
            have hcz45_0 : wc.cell? ⟨gb61001, 0, none⟩ = some (.int .i64 x61002000_1) := (blk_cell BK61001.out 0).trans rfl
            have hcz45_1 : wc.cell? ⟨gb61001, 1, none⟩ = some (.int .i64 x61002001_1) := (blk_cell BK61001.out 1).trans rfl
            have hcz45_2 : wc.cell? ⟨gb61001, 2, none⟩ = some (.bool x61002002_1) := (blk_cell BK61001.out 2).trans rfl
            have hfz45_0 := blk_frozen BK61001.out 0
            have hfz45_1 := blk_frozen BK61001.out 1
            have hfz45_2 := blk_frozen BK61001.out 2
            go_wp2_with (first | ((with_reducible refine gate_callee (f := 72) rfl ?_); refine goesL_ (some 62) rfl rfl Try.func72 (by kernel_rfl) rfl #[.agg #[.int .i64 x61002000_1, .int .i64 x61002001_1, .bool x61002002_1], .int .i64 0, .int .i64 x61002001_1] rfl (by (try simp only [List.map_toArray, List.map_cons, List.map_nil]); first | done | rfl | (simp only [List.length_drop, List.length_take]; rfl)) ?_; (with_reducible refine (papermillref13_cut.calls x61002000_1 x61002001_1 x61002002_1 0 x61002001_1 t61017 t61018 t61019 _ A42.out).mono ?_); rintro e w46 ⟨rfl, hb⟩; refine ⟨_, rfl, ?_⟩; replace HO_5 := Aside0.mk (Kd.R_below (HO_5.out) hb); replace BK61001 := Aside0.mk (blk_below (g := gb61001) (o := .cells #[.int .i64 x61002000_1, .int .i64 x61002001_1, .bool x61002002_1] 44 (0, 0)) (BK61001.out) hb); replace BK61015 := Aside0.mk (blk_below (g := gb61015) (o := .cells #[.int .i64 ((rd_T44 x5_1 (ji16)).f0), .int .i64 ((rd_T44 x5_1 (ji16)).f1), .bool ((rd_T44 x5_1 (ji16)).f2)] 44 (0, 0)) (BK61015.out) hb); replace HB := Aside0.mk (below_step (by repeat (first | exact HB.out | apply below_alloc | apply pw_below_drewN | apply below_drew1 | refine below_set ?_ GE61001.out | refine below_set ?_ GE61015.out)) hb); (try clear hb); (try clear hb2); (try clear hk); (try clear hi)) | ((with_reducible refine gate_builtin (b := .append) (xs := #[.tmp 58, .tmp 63]) rfl ?_); at_builtin; refine Kd.R_append k44 (w0 := w) w.heap.size rfl (.tmp 58) (.tmp 63) 22 44 (.agg #[(.int .i64 0), (.int .i64 0), (.bool false)]) 24 rfl Try.underlying22 info44 rfl (by decide) (by omega) (.slice (some ad61014) x5_1.length co22) x5_1 (⟨t61017, t61018, t61019⟩ : S44) [.int .i64 t61017, .int .i64 t61018, .bool t61019] (fun k_ => k_ ≠ gb61001 ∧ k_ ≠ gb61015) (fun _ => False) rfl rfl ?aP (fun _ hk => hk.elim) ?aF ?aO ?aB ?aS ?aL ?_; (case aP => exact k44_mkM _ _ _ (⟨t61017, t61018, t61019⟩ : S44)); (case aB => exact (by repeat (first | exact HB.out | apply below_alloc | apply pw_below_drewN | apply below_drew1 | refine below_set ?_ GE61001.out | refine below_set ?_ GE61015.out))); (case aF => exact (fun k_ hk => ⟨Kd.freshB (g := gb61001) (o := .cells #[.int .i64 x61002000_1, .int .i64 x61002001_1, .bool x61002002_1] 44 (0, 0)) (BK61001.out) k_ hk, Kd.freshB (g := gb61015) (o := .cells #[.int .i64 ((rd_T44 x5_1 (ji16)).f0), .int .i64 ((rd_T44 x5_1 (ji16)).f1), .bool ((rd_T44 x5_1 (ji16)).f2)] 44 (0, 0)) (BK61015.out) k_ hk⟩)); (case aO => exact (HO_5.out)); (case aS => exact (below_size (by repeat (first | exact HB.out | apply below_alloc | apply pw_below_drewN | apply below_drew1 | refine below_set ?_ GE61001.out | refine below_set ?_ GE61015.out)))); (case aL => have := LMc43.out; omega); intro v61021 w47 ho hb hg hat; rw [← Ny61020.out] at ho; replace BK61001 := Aside0.mk (blk_grown (g := gb61001) (o := .cells #[.int .i64 x61002000_1, .int .i64 x61002001_1, .bool x61002002_1] 44 (0, 0)) (BK61001.out) hg (Kd.R_away HO_5.out (fun _ hk => hk.1))); replace BK61015 := Aside0.mk (blk_grown (g := gb61015) (o := .cells #[.int .i64 ((rd_T44 x5_1 (ji16)).f0), .int .i64 ((rd_T44 x5_1 (ji16)).f1), .bool ((rd_T44 x5_1 (ji16)).f2)] 44 (0, 0)) (BK61015.out) hg (Kd.R_away HO_5.out (fun _ hk => hk.2))); replace HB := Aside0.mk (hb); have HO61022 := Aside0.mk (ho); clear HO_5; clear ho hb hg hat))
            go_ret
            exact ⟨_, by first | rfl | (simp [errW_none, errW_some] <;> rfl) | (simp only [← hji16]; first | rfl | (simp [errW_none, errW_some] <;> rfl)) | (simp [*, errW_none, errW_some] <;> rfl), by exact Kd.R_mono HO61022.out (fun _ hk => trivial), by repeat (first | exact HB.out | apply below_alloc | apply pw_below_drewN | apply below_drew1 | refine below_set ?_ GE61001.out | refine below_set ?_ GE61015.out)⟩
           ·rw [if_neg c43] at H
            exact absurd H (by simp)
          ·replace c41 := Bool.eq_false_iff.mpr c41
           subst c41
           have H1 : (if x61002001_1 > 1 then (papermillref13_more.j2 kj19 x5_1 ji16 (wrap64 (x61002000_1 - t61016)) x61002001_1 (x61002002_1 != ((wrap64 (x61002000_1 - t61016)) == (-1))) x61002000_1 x61002001_1 x61002002_1 ((rd_T44 x5_1 (ji16)).f0) ((rd_T44 x5_1 (ji16)).f1) ((rd_T44 x5_1 (ji16)).f2)) else (papermillref13_more.j2 kj19 x5_1 ji16 (wrap64 (x61002000_1 - t61016)) x61002001_1 false x61002000_1 x61002001_1 x61002002_1 ((rd_T44 x5_1 (ji16)).f0) ((rd_T44 x5_1 (ji16)).f1) ((rd_T44 x5_1 (ji16)).f2))) = some r := by rw [if_neg (show ¬ (false = true) by decide)] at H; first | exact H | simpa using H
           clear H
           have H := H1
           clear H1
           have HC48 := Aside0.mk H
           clear H
           have hnb49 := NB61001_61015.out
           have hnc49 := NB61015_61001.out
           have hcz50_0 : wc.cell? ⟨gb61001, 0, none⟩ = some (.int .i64 x61002000_1) := (blk_cell BK61001.out 0).trans rfl
           have hcz50_1 : wc.cell? ⟨gb61001, 1, none⟩ = some (.int .i64 x61002001_1) := (blk_cell BK61001.out 1).trans rfl
           have hcz50_2 : wc.cell? ⟨gb61001, 2, none⟩ = some (.bool x61002002_1) := (blk_cell BK61001.out 2).trans rfl
           have hfz50_0 := blk_frozen BK61001.out 0
           have hfz50_1 := blk_frozen BK61001.out 1
           have hfz50_2 := blk_frozen BK61001.out 2
           go_upto_region 11 with (fail)
           go_cut [75] (fun v75 wc => ∃ (kq : Nat) (x75_47 : Bool), v75 = .bool x75_47 ∧ Aside0 (papermillref13_more.j2 kq x5_1 ji16 (wrap64 (x61002000_1 - t61016)) x61002001_1 x75_47 x61002000_1 x61002001_1 x61002002_1 ((rd_T44 x5_1 (ji16)).f0) ((rd_T44 x5_1 (ji16)).f1) ((rd_T44 x5_1 (ji16)).f2) = some r) ∧ Aside0 (kq ≤ kj19) ∧ Aside0 (Kd.R k44 44 wc w.heap.size (fun k_ => k_ ≠ gb61001 ∧ k_ ≠ gb61015) (.slice (some ad61014) x5_1.length co22) x5_1) ∧ Aside0 (wc.heap[gb61001]? = some (.cells #[.int .i64 x61002000_1, .int .i64 x61002001_1, .bool x61002002_1] 44 (0, 0))) ∧ Aside0 (wc.heap[gb61015]? = some (.cells #[.int .i64 ((rd_T44 x5_1 (ji16)).f0), .int .i64 ((rd_T44 x5_1 (ji16)).f1), .bool ((rd_T44 x5_1 (ji16)).f2)] 44 (0, 0))) ∧ Aside0 (Below w.heap.size w wc))
           case first =>
            have H := HC48.out
            clear HC48
            by_cases c51 : x61002001_1 > 1
            ·rw [if_pos c51] at H
             have c51b0 : decide (1 < x61002001_1) = true := decide_eq_true c51
             clear c51
             (first | rw [c51b0] | (simp only [i64_w, i32_w]; rw [c51b0]) | skip)
             have H' := Aside0.mk H
             clear H
             have hnb52 := NB61001_61015.out
             have hnc52 := NB61015_61001.out
             have hcz53_0 : wc.cell? ⟨gb61001, 0, none⟩ = some (.int .i64 x61002000_1) := (blk_cell BK61001.out 0).trans rfl
             have hcz53_1 : wc.cell? ⟨gb61001, 1, none⟩ = some (.int .i64 x61002001_1) := (blk_cell BK61001.out 1).trans rfl
             have hcz53_2 : wc.cell? ⟨gb61001, 2, none⟩ = some (.bool x61002002_1) := (blk_cell BK61001.out 2).trans rfl
             have hfz53_0 := blk_frozen BK61001.out 0
             have hfz53_1 := blk_frozen BK61001.out 1
             have hfz53_2 := blk_frozen BK61001.out 2
             go_wp2
             go_meet
             case rel => exact ⟨_, ((x61002002_1 != ((wrap64 (x61002000_1 - t61016)) == (-1)))), (by first | rfl | (simp; done) | (simp [*]; done)), H', ⟨by have := HK1.out; have := HJ19.out; first | omega | exact Nat.le_refl _⟩, ⟨HO_5.out⟩, ⟨BK61001.out⟩, ⟨BK61015.out⟩, ⟨by repeat (first | exact HB.out | apply below_alloc | apply pw_below_drewN | apply below_drew1 | refine below_set ?_ GE61001.out | refine below_set ?_ GE61015.out)⟩⟩
            ·rw [if_neg c51] at H
             have c51b0 : decide (1 < x61002001_1) = false := decide_eq_false c51
             clear c51
             (first | rw [c51b0] | (simp only [i64_w, i32_w]; rw [c51b0]) | skip)
             have H' := Aside0.mk H
             clear H
             go_wp2
             go_meet
             case rel => exact ⟨_, (false), (by first | rfl | (simp; done) | (simp [*]; done)), H', ⟨by have := HK1.out; have := HJ19.out; first | omega | exact Nat.le_refl _⟩, ⟨HO_5.out⟩, ⟨BK61001.out⟩, ⟨BK61015.out⟩, ⟨by repeat (first | exact HB.out | apply below_alloc | apply pw_below_drewN | apply below_drew1 | refine below_set ?_ GE61001.out | refine below_set ?_ GE61015.out)⟩⟩
           case rest =>
            clear HC48
            try clear c1
            try clear c2
            try clear p2
            try clear c3
            try clear c4
            try clear c5
            try clear c6
            try clear p6
            try clear q6
            try clear hx6
            try clear c7
            try clear c8
            try clear c8b0
            try clear c9
            try clear c9b0
            try clear c11
            try clear c17
            try clear c17b0
            try clear c18
            try clear c18b0
            try clear c24
            try clear c29
            try clear c29b0
            try clear c29b1
            try clear c30
            try clear c30b0
            try clear c31
            try clear c33
            try clear c35
            try clear c35b0
            try clear c35b1
            try clear c36
            try clear c36b0
            try clear c37
            try clear c39
            try clear c41
            try clear c43
            try clear c44
            try clear c48
            try clear c49
            try clear c51
            try clear c51b0
            try clear c52
            try clear hcz12_0
            try clear hcz12_1
            try clear hcz12_2
            try clear hcz21_0
            try clear hcz21_1
            try clear hcz21_2
            try clear hcz25_0
            try clear hcz25_1
            try clear hcz25_2
            try clear hcz32_0
            try clear hcz32_1
            try clear hcz32_2
            try clear hcz34_0
            try clear hcz34_1
            try clear hcz34_2
            try clear hcz38_0
            try clear hcz38_1
            try clear hcz38_2
            try clear hcz40_0
            try clear hcz40_1
            try clear hcz40_2
            try clear hcz45_0
            try clear hcz45_1
            try clear hcz45_2
            try clear hcz50_0
            try clear hcz50_1
            try clear hcz50_2
            try clear hcz53_0
            try clear hcz53_1
            try clear hcz53_2
            try clear hfz12_0
            try clear hfz12_1
            try clear hfz12_2
            try clear hfz21_0
            try clear hfz21_1
            try clear hfz21_2
            try clear hfz25_0
            try clear hfz25_1
            try clear hfz25_2
            try clear hfz32_0
            try clear hfz32_1
            try clear hfz32_2
            try clear hfz34_0
            try clear hfz34_1
            try clear hfz34_2
            try clear hfz38_0
            try clear hfz38_1
            try clear hfz38_2
            try clear hfz40_0
            try clear hfz40_1
            try clear hfz40_2
            try clear hfz45_0
            try clear hfz45_1
            try clear hfz45_2
            try clear hfz50_0
            try clear hfz50_1
            try clear hfz50_2
            try clear hfz53_0
            try clear hfz53_1
            try clear hfz53_2
            try clear hx61014_0
            try clear hx61014_1
            try clear hx61014_2
            try clear p2
            try clear p6
            try clear p61014
            try clear q6
            try clear q61014
            obtain ⟨kq, x75_47, rfl, HA, HJ47, HO_5, BK61001, BK61015, HB⟩ := hcut
            cases kq with
            | zero => exact absurd HA.out (by simp [papermillref13_more.j2])
            | succ kj47 =>
             have H := HA.out
             clear HA
             simp only [papermillref13_more.j2] at H
             by_cases c54 : x75_47 = true
             ·subst c54
              rw [if_pos rfl] at H
              by_cases c55 : 0 ≤ ji16
              ·rw [if_pos c55] at H
               have c55b0 : decide (0 ≤ ji16) = true := decide_eq_true c55
               clear c55
               by_cases c56 : ji16 < (x5_1.length : Int)
               ·rw [if_pos c56] at H
                have c56b0 : decide (ji16 < (x5_1.length : Int)) = true := decide_eq_true c56
                clear c56
                obtain ⟨y61023, hy61023⟩ : ∃ y_ : List (S44), y_ = (x5_1.set (ji16 : Int).toNat (⟨((rd_T44 x5_1 (ji16)).f0), wrap64 (((rd_T44 x5_1 (ji16)).f1) + 1), ((wrap64 (x61002000_1 - t61016)) == (-1))⟩ : S44)) := ⟨_, rfl⟩
                replace H : (if 1 = x61002001_1 then (some y61023) else ((papermillref13_cut.f x61002000_1 x61002001_1 x61002002_1 1 (wrap64 (x61002001_1 - 1))).bind fun bt61024 => (papermillref13_more.l0 kj47 y61023 bt61024.1 bt61024.2.1 bt61024.2.2))) = some r := by first | (rw [hy61023]; with_reducible exact H) | (have H2_ := (Option.bind_some _ _).symm.trans H; rw [hy61023]; with_reducible exact H2_) | (have H2_ := (Option.bind_some _ _).symm.trans H; with_reducible exact H2_) | with_reducible exact H | (rw [hy61023]; exact H) | exact H
                have Ny61023 := Aside0.mk hy61023
                clear hy61023
                by_cases c58 : 1 = x61002001_1
                ·rw [if_pos c58] at H
                 have c58b0 : (1 == x61002001_1) = true := beq_iff_eq.mpr c58
                 have c58b1 : (1 != x61002001_1) = false := bne_eq_false_iff_eq.mpr c58
                 clear c58
                 obtain rfl := Option.some.inj H
                 have hnb59 := NB61015_61001.out
                 have hnc59 := NB61001_61015.out
                 have hcz60_0 : wc.cell? ⟨gb61015, 0, none⟩ = some (.int .i64 ((rd_T44 x5_1 (ji16)).f0)) := (blk_cell BK61015.out 0).trans rfl
                 have hcz60_1 : wc.cell? ⟨gb61015, 1, none⟩ = some (.int .i64 ((rd_T44 x5_1 (ji16)).f1)) := (blk_cell BK61015.out 1).trans rfl
                 have hcz60_2 : wc.cell? ⟨gb61015, 2, none⟩ = some (.bool ((rd_T44 x5_1 (ji16)).f2)) := (blk_cell BK61015.out 2).trans rfl
                 have hfz60_0 := blk_frozen BK61015.out 0
                 have hfz60_1 := blk_frozen BK61015.out 1
                 have hfz60_2 := blk_frozen BK61015.out 2
                 have p57 : 0 ≤ (ji16 : Int) := of_decide_eq_true (by assumption)
                 have q57 : (ji16 : Int) < ((x5_1.length : Int) : Int) := of_decide_eq_true (by assumption)
                 obtain ⟨go57, co57, eo57, gb57, gl57, cl57, HG57⟩ := Kd.R_form HO_5.out (by omega)
                 (first | cases eo57 | (injection eo57 with ea_ en_ ec_; (first | subst ea_ | (injection ea_ with ea_; subst ea_)); subst ec_; clear en_))
                 have GB57 := Aside0.mk gb57
                 have GG57 := Aside0.mk HG57
                 clear gb57 gl57 HG57
                 (first | simp only [add_plain] at hx61014_0 | skip)
                 (first | simp only [add_plain] at hx61014_1 | skip)
                 (first | simp only [add_plain] at hx61014_2 | skip)
                 obtain ⟨ce57, hcl57, hM57, hcc57, hfr57⟩ := Kd.R_elem HO_5.out z44 (ji16 : Int) p57 q57
                 obtain rfl := k44_openM hM57
                 have hx57_0 : wc.cell? ⟨go57, (ji16 : Int).toNat * 3, none⟩ = some (.int .i64 ((rd_T44 x5_1 ji16).f0)) := hcc57 0 _ rfl
                 have hx57_1 : wc.cell? ⟨go57, (ji16 : Int).toNat * 3 + 1, none⟩ = some (.int .i64 ((rd_T44 x5_1 ji16).f1)) := hcc57 1 _ rfl
                 have hx57_2 : wc.cell? ⟨go57, (ji16 : Int).toNat * 3 + 2, none⟩ = some (.bool ((rd_T44 x5_1 ji16).f2)) := hcc57 2 _ rfl
                 have hf57_0 : wc.frozen? ⟨go57, (ji16 : Int).toNat * 3, none⟩ = false := hfr57 0
                 have hf57_1 : wc.frozen? ⟨go57, (ji16 : Int).toNat * 3 + 1, none⟩ = false := hfr57 1
                 have hf57_2 : wc.frozen? ⟨go57, (ji16 : Int).toNat * 3 + 2, none⟩ = false := hfr57 2
                 clear hcl57 hcc57 hfr57 hM57
                 replace p57 := eq_true p57
                 replace q57 := eq_true q57
                 have HX61 := Aside0.mk (show Kd.R k44 44 wc w.heap.size (fun k_ => k_ ≠ gb61001 ∧ k_ ≠ gb61015) (.slice (some ⟨go57, 0, none⟩) x5_1.length co22) x5_1 from (HO_5.out))
                 obtain ⟨ce61, hcl61, hM61, hcc61, hfr61⟩ := Kd.R_elem HX61.out z44 (ji16 : Int) (of_decide_eq_true (by assumption)) (by have h_ : (ji16 : Int) < ((x5_1.length : Int) : Int) := of_decide_eq_true (by assumption); first | exact h_ | (have e_ := (Kd.R_reads' HO_5.out).1; omega) | simpa using h_)
                 obtain rfl := k44_openM hM61
                 have HP61 := Kd.R_seg HX61.out (ji16 : Int) (of_decide_eq_true (by assumption)) (by have h_ : (ji16 : Int) < ((x5_1.length : Int) : Int) := of_decide_eq_true (by assumption); first | exact h_ | (have e_ := (Kd.R_reads' HO_5.out).1; omega) | simpa using h_) (seg := [.int .i64 ((rd_T44 x5_1 (ji16)).f0), .int .i64 (wrap64 (((rd_T44 x5_1 (ji16)).f1) + 1)), .bool ((wrap64 (x61002000_1 - t61016)) == (-1))]) (j := 0) hcl61 hcc61 (show 3 ≤ 3 from by decide) (x' := (⟨((rd_T44 x5_1 (ji16)).f0), wrap64 (((rd_T44 x5_1 (ji16)).f1) + 1), ((wrap64 (x61002000_1 - t61016)) == (-1))⟩ : S44)) (k44_mkM _ _ _ (⟨((rd_T44 x5_1 (ji16)).f0), wrap64 (((rd_T44 x5_1 (ji16)).f1) + 1), ((wrap64 (x61002000_1 - t61016)) == (-1))⟩ : S44) ) (fun _ hk => hk)
                 have hx61_0 := hcc61 0 _ rfl
                 (try simp only [show (k44).sz = 3 from rfl, Nat.mul_one, Nat.add_zero] at hx61_0)
                 have hf61_0 := hfr61 0
                 (try simp only [show (k44).sz = 3 from rfl, Nat.mul_one, Nat.add_zero] at hf61_0)
                 have hx61_1 := hcc61 1 _ rfl
                 (try simp only [show (k44).sz = 3 from rfl, Nat.mul_one, Nat.add_zero] at hx61_1)
                 have hf61_1 := hfr61 1
                 (try simp only [show (k44).sz = 3 from rfl, Nat.mul_one, Nat.add_zero] at hf61_1)
                 have hx61_2 := hcc61 2 _ rfl
                 (try simp only [show (k44).sz = 3 from rfl, Nat.mul_one, Nat.add_zero] at hx61_2)
                 have hf61_2 := hfr61 2
                 (try simp only [show (k44).sz = 3 from rfl, Nat.mul_one, Nat.add_zero] at hf61_2)
                 clear hcl61 hcc61 hfr61 hM61
                 go_wp2_with (first | ((with_reducible refine gate_store (t := 44) (p := 87) rfl ?_); refine store_event (t := 44) (p := 87) (v := ?vo_w62) (w1 := (((wc.setCell ⟨go57, (ji16 : Int).toNat * 3, none⟩ (.int .i64 ((rd_T44 x5_1 (ji16)).f0))).setCell ⟨go57, (ji16 : Int).toNat * 3 + 1, none⟩ (.int .i64 (wrap64 (((rd_T44 x5_1 (ji16)).f1) + 1)))).setCell ⟨go57, (ji16 : Int).toNat * 3 + 2, none⟩ (.bool ((wrap64 (x61002000_1 - t61016)) == (-1))))) ?hg ?ho ?hn ?hr ?_; (case ho => rfl); (case hg => rfl); (case hn => rfl); (case hr => first | (go_simp; done) | (go_simp; rfl)); intro w62 hw; have hg : wc.grownBy w62 (some go57) := (by rw [hw]; exact HP61.2); have hp_ : Kd.R k44 44 w62 w.heap.size (fun k_ => k_ ≠ gb61001 ∧ k_ ≠ gb61015) (.slice (some ⟨go57, 0, none⟩) x5_1.length co22) y61023 := (by rw [hw, Ny61023.out]; exact HP61.1); clear HP61; replace BK61001 := Aside0.mk (blk_grown (g := gb61001) (o := .cells #[.int .i64 x61002000_1, .int .i64 x61002001_1, .bool x61002002_1] 44 (0, 0)) (BK61001.out) hg (Kd.R_away HO_5.out (fun _ hk => hk.1))); replace BK61015 := Aside0.mk (blk_grown (g := gb61015) (o := .cells #[.int .i64 ((rd_T44 x5_1 (ji16)).f0), .int .i64 ((rd_T44 x5_1 (ji16)).f1), .bool ((rd_T44 x5_1 (ji16)).f2)] 44 (0, 0)) (BK61015.out) hg (Kd.R_away HO_5.out (fun _ hk => hk.2))); replace HO_5 := Aside0.mk (hp_); replace HB := Aside0.mk ((by rw [hw]; exact below_set (below_set (below_set (HB.out) GB57.out) GB57.out) GB57.out : Below w.heap.size w w62)); clear hg hw hp_; have hcz63_0 : w62.cell? ⟨gb61001, 0, none⟩ = some (.int .i64 x61002000_1) := (blk_cell BK61001.out 0).trans rfl; have hcz63_1 : w62.cell? ⟨gb61001, 1, none⟩ = some (.int .i64 x61002001_1) := (blk_cell BK61001.out 1).trans rfl; have hcz63_2 : w62.cell? ⟨gb61001, 2, none⟩ = some (.bool x61002002_1) := (blk_cell BK61001.out 2).trans rfl; have hfz63_0 := blk_frozen BK61001.out 0; have hfz63_1 := blk_frozen BK61001.out 1; have hfz63_2 := blk_frozen BK61001.out 2))
                 go_ret
                 exact ⟨_, by first | rfl | (simp [errW_none, errW_some] <;> rfl) | (simp only [← hji16]; first | rfl | (simp [errW_none, errW_some] <;> rfl)) | (simp [*, errW_none, errW_some] <;> rfl), by exact Kd.R_mono HO_5.out (fun _ hk => trivial), by repeat (first | exact HB.out | apply below_alloc | apply pw_below_drewN | apply below_drew1 | refine below_set ?_ GE61001.out | refine below_set ?_ GE61015.out)⟩
                ·rw [if_neg c58] at H
                 have c58b0 : (1 == x61002001_1) = false := beq_eq_false_iff_ne.mpr c58
                 have c58b1 : (1 != x61002001_1) = true := bne_iff_ne.mpr c58
                 replace H := Option.bind_eq_some_iff.mp H
                 obtain ⟨⟨t61024, t61025, t61026⟩, A640, H⟩ := H
                 try dsimp only at H
                 have A64 := Aside0.mk A640
                 clear A640
                 have H' := Aside0.mk H
                 clear H
                 have hnb65 := NB61015_61001.out
                 have hnc65 := NB61001_61015.out
                 have hcz66_0 : wc.cell? ⟨gb61015, 0, none⟩ = some (.int .i64 ((rd_T44 x5_1 (ji16)).f0)) := (blk_cell BK61015.out 0).trans rfl
                 have hcz66_1 : wc.cell? ⟨gb61015, 1, none⟩ = some (.int .i64 ((rd_T44 x5_1 (ji16)).f1)) := (blk_cell BK61015.out 1).trans rfl
                 have hcz66_2 : wc.cell? ⟨gb61015, 2, none⟩ = some (.bool ((rd_T44 x5_1 (ji16)).f2)) := (blk_cell BK61015.out 2).trans rfl
                 have hfz66_0 := blk_frozen BK61015.out 0
                 have hfz66_1 := blk_frozen BK61015.out 1
                 have hfz66_2 := blk_frozen BK61015.out 2
                 have p57 : 0 ≤ (ji16 : Int) := of_decide_eq_true (by assumption)
                 have q57 : (ji16 : Int) < ((x5_1.length : Int) : Int) := of_decide_eq_true (by assumption)
                 obtain ⟨go57, co57, eo57, gb57, gl57, cl57, HG57⟩ := Kd.R_form HO_5.out (by omega)
                 (first | cases eo57 | (injection eo57 with ea_ en_ ec_; (first | subst ea_ | (injection ea_ with ea_; subst ea_)); subst ec_; clear en_))
                 have GB57 := Aside0.mk gb57
                 have GG57 := Aside0.mk HG57
                 clear gb57 gl57 HG57
                 obtain ⟨ce57, hcl57, hM57, hcc57, hfr57⟩ := Kd.R_elem HO_5.out z44 (ji16 : Int) p57 q57
                 obtain rfl := k44_openM hM57
                 have hx57_0 : wc.cell? ⟨go57, (ji16 : Int).toNat * 3, none⟩ = some (.int .i64 ((rd_T44 x5_1 ji16).f0)) := hcc57 0 _ rfl
                 have hx57_1 : wc.cell? ⟨go57, (ji16 : Int).toNat * 3 + 1, none⟩ = some (.int .i64 ((rd_T44 x5_1 ji16).f1)) := hcc57 1 _ rfl
                 have hx57_2 : wc.cell? ⟨go57, (ji16 : Int).toNat * 3 + 2, none⟩ = some (.bool ((rd_T44 x5_1 ji16).f2)) := hcc57 2 _ rfl
                 have hf57_0 : wc.frozen? ⟨go57, (ji16 : Int).toNat * 3, none⟩ = false := hfr57 0
                 have hf57_1 : wc.frozen? ⟨go57, (ji16 : Int).toNat * 3 + 1, none⟩ = false := hfr57 1
                 have hf57_2 : wc.frozen? ⟨go57, (ji16 : Int).toNat * 3 + 2, none⟩ = false := hfr57 2
                 clear hcl57 hcc57 hfr57 hM57
                 replace p57 := eq_true p57
                 replace q57 := eq_true q57
                 have HX67 := Aside0.mk (show Kd.R k44 44 wc w.heap.size (fun k_ => k_ ≠ gb61001 ∧ k_ ≠ gb61015) (.slice (some ⟨go57, 0, none⟩) x5_1.length co22) x5_1 from (HO_5.out))
                 obtain ⟨ce67, hcl67, hM67, hcc67, hfr67⟩ := Kd.R_elem HX67.out z44 (ji16 : Int) (of_decide_eq_true (by assumption)) (by have h_ : (ji16 : Int) < ((x5_1.length : Int) : Int) := of_decide_eq_true (by assumption); first | exact h_ | (have e_ := (Kd.R_reads' HO_5.out).1; omega) | simpa using h_)
                 obtain rfl := k44_openM hM67
                 have HP67 := Kd.R_seg HX67.out (ji16 : Int) (of_decide_eq_true (by assumption)) (by have h_ : (ji16 : Int) < ((x5_1.length : Int) : Int) := of_decide_eq_true (by assumption); first | exact h_ | (have e_ := (Kd.R_reads' HO_5.out).1; omega) | simpa using h_) (seg := [.int .i64 ((rd_T44 x5_1 (ji16)).f0), .int .i64 (wrap64 (((rd_T44 x5_1 (ji16)).f1) + 1)), .bool ((wrap64 (x61002000_1 - t61016)) == (-1))]) (j := 0) hcl67 hcc67 (show 3 ≤ 3 from by decide) (x' := (⟨((rd_T44 x5_1 (ji16)).f0), wrap64 (((rd_T44 x5_1 (ji16)).f1) + 1), ((wrap64 (x61002000_1 - t61016)) == (-1))⟩ : S44)) (k44_mkM _ _ _ (⟨((rd_T44 x5_1 (ji16)).f0), wrap64 (((rd_T44 x5_1 (ji16)).f1) + 1), ((wrap64 (x61002000_1 - t61016)) == (-1))⟩ : S44) ) (fun _ hk => hk)
                 have hx67_0 := hcc67 0 _ rfl
                 (try simp only [show (k44).sz = 3 from rfl, Nat.mul_one, Nat.add_zero] at hx67_0)
                 have hf67_0 := hfr67 0
                 (try simp only [show (k44).sz = 3 from rfl, Nat.mul_one, Nat.add_zero] at hf67_0)
                 have hx67_1 := hcc67 1 _ rfl
                 (try simp only [show (k44).sz = 3 from rfl, Nat.mul_one, Nat.add_zero] at hx67_1)
                 have hf67_1 := hfr67 1
                 (try simp only [show (k44).sz = 3 from rfl, Nat.mul_one, Nat.add_zero] at hf67_1)
                 have hx67_2 := hcc67 2 _ rfl
                 (try simp only [show (k44).sz = 3 from rfl, Nat.mul_one, Nat.add_zero] at hx67_2)
                 have hf67_2 := hfr67 2
                 (try simp only [show (k44).sz = 3 from rfl, Nat.mul_one, Nat.add_zero] at hf67_2)
                 clear hcl67 hcc67 hfr67 hM67
                 go_wp2_with (first | ((with_reducible refine gate_store (t := 44) (p := 87) rfl ?_); refine store_event (t := 44) (p := 87) (v := ?vo_w68) (w1 := (((wc.setCell ⟨go57, (ji16 : Int).toNat * 3, none⟩ (.int .i64 ((rd_T44 x5_1 (ji16)).f0))).setCell ⟨go57, (ji16 : Int).toNat * 3 + 1, none⟩ (.int .i64 (wrap64 (((rd_T44 x5_1 (ji16)).f1) + 1)))).setCell ⟨go57, (ji16 : Int).toNat * 3 + 2, none⟩ (.bool ((wrap64 (x61002000_1 - t61016)) == (-1))))) ?hg ?ho ?hn ?hr ?_; (case ho => rfl); (case hg => rfl); (case hn => rfl); (case hr => first | (go_simp; done) | (go_simp; rfl)); intro w68 hw; have hg : wc.grownBy w68 (some go57) := (by rw [hw]; exact HP67.2); have hp_ : Kd.R k44 44 w68 w.heap.size (fun k_ => k_ ≠ gb61001 ∧ k_ ≠ gb61015) (.slice (some ⟨go57, 0, none⟩) x5_1.length co22) y61023 := (by rw [hw, Ny61023.out]; exact HP67.1); clear HP67; replace BK61001 := Aside0.mk (blk_grown (g := gb61001) (o := .cells #[.int .i64 x61002000_1, .int .i64 x61002001_1, .bool x61002002_1] 44 (0, 0)) (BK61001.out) hg (Kd.R_away HO_5.out (fun _ hk => hk.1))); replace BK61015 := Aside0.mk (blk_grown (g := gb61015) (o := .cells #[.int .i64 ((rd_T44 x5_1 (ji16)).f0), .int .i64 ((rd_T44 x5_1 (ji16)).f1), .bool ((rd_T44 x5_1 (ji16)).f2)] 44 (0, 0)) (BK61015.out) hg (Kd.R_away HO_5.out (fun _ hk => hk.2))); replace HO_5 := Aside0.mk (hp_); replace HB := Aside0.mk ((by rw [hw]; exact below_set (below_set (below_set (HB.out) GB57.out) GB57.out) GB57.out : Below w.heap.size w w68)); clear hg hw hp_; have hcz69_0 : w68.cell? ⟨gb61001, 0, none⟩ = some (.int .i64 x61002000_1) := (blk_cell BK61001.out 0).trans rfl; have hcz69_1 : w68.cell? ⟨gb61001, 1, none⟩ = some (.int .i64 x61002001_1) := (blk_cell BK61001.out 1).trans rfl; have hcz69_2 : w68.cell? ⟨gb61001, 2, none⟩ = some (.bool x61002002_1) := (blk_cell BK61001.out 2).trans rfl; have hfz69_0 := blk_frozen BK61001.out 0; have hfz69_1 := blk_frozen BK61001.out 1; have hfz69_2 := blk_frozen BK61001.out 2) | ((with_reducible refine gate_callee (f := 72) rfl ?_); refine goesL_ (some 99) rfl rfl Try.func72 (by kernel_rfl) rfl #[.agg #[.int .i64 x61002000_1, .int .i64 x61002001_1, .bool x61002002_1], .int .i64 1, .int .i64 (wrap64 (x61002001_1 - 1))] rfl (by (try simp only [List.map_toArray, List.map_cons, List.map_nil]); first | done | rfl | (simp only [List.length_drop, List.length_take]; rfl)) ?_; (with_reducible refine (papermillref13_cut.calls x61002000_1 x61002001_1 x61002002_1 1 (wrap64 (x61002001_1 - 1)) t61024 t61025 t61026 _ A64.out).mono ?_); rintro e w70 ⟨rfl, hb⟩; refine ⟨_, rfl, ?_⟩; replace HO_5 := Aside0.mk (Kd.R_below (HO_5.out) hb); replace BK61001 := Aside0.mk (blk_below (g := gb61001) (o := .cells #[.int .i64 x61002000_1, .int .i64 x61002001_1, .bool x61002002_1] 44 (0, 0)) (BK61001.out) hb); replace BK61015 := Aside0.mk (blk_below (g := gb61015) (o := .cells #[.int .i64 ((rd_T44 x5_1 (ji16)).f0), .int .i64 ((rd_T44 x5_1 (ji16)).f1), .bool ((rd_T44 x5_1 (ji16)).f2)] 44 (0, 0)) (BK61015.out) hb); replace HB := Aside0.mk (below_step (by repeat (first | exact HB.out | apply below_alloc | apply pw_below_drewN | apply below_drew1 | refine below_set ?_ GE61001.out | refine below_set ?_ GE61015.out)) hb); (try clear hb); (try clear hb2); (try clear hk); (try clear hi); have hcz71_0 : w70.cell? ⟨gb61001, 0, none⟩ = some (.int .i64 x61002000_1) := (blk_cell BK61001.out 0).trans rfl; have hcz71_1 : w70.cell? ⟨gb61001, 1, none⟩ = some (.int .i64 x61002001_1) := (blk_cell BK61001.out 1).trans rfl; have hcz71_2 : w70.cell? ⟨gb61001, 2, none⟩ = some (.bool x61002002_1) := (blk_cell BK61001.out 2).trans rfl; have hfz71_0 := blk_frozen BK61001.out 0; have hfz71_1 := blk_frozen BK61001.out 1; have hfz71_2 := blk_frozen BK61001.out 2))
                 go_roundg kj47
                 case measure => have := HK1.out; have := HJ19.out; have := HJ47.out; omega
                 case rel => exact ⟨(y61023), (t61024), (t61025), (t61026), H', ⟨by have := HK1.out; have := HJ19.out; have := HJ47.out; omega⟩, ⟨by exact Kd.R_mono (Kd.R_far (p := ⟨gb61001, 2, none⟩) (Kd.R_far (p := ⟨gb61001, 1, none⟩) (Kd.R_far (p := ⟨gb61001, 0, none⟩) (Kd.R_mono HO_5.out (fun k_ hk => (⟨hk, hk.1⟩ : _ ∧ k_ ≠ gb61001))) (fun _ hk => hk.2) (.int .i64 t61024)) (fun _ hk => hk.2) (.int .i64 t61025)) (fun _ hk => hk.2) (.bool t61026)) (fun _ hk => hk.1.1)⟩, ⟨by refine blk_put (cs := #[.int .i64 t61024, .int .i64 t61025, .bool x61002002_1]) ?_ 2 _ rfl; refine blk_put (cs := #[.int .i64 t61024, .int .i64 x61002001_1, .bool x61002002_1]) ?_ 1 _ rfl; refine blk_put (cs := #[.int .i64 x61002000_1, .int .i64 x61002001_1, .bool x61002002_1]) ?_ 0 _ rfl; exact BK61001.out⟩, ⟨by repeat (first | exact HB.out | apply below_alloc | apply pw_below_drewN | apply below_drew1 | refine below_set ?_ GE61001.out | refine below_set ?_ GE61015.out)⟩⟩
               ·rw [if_neg c56] at H
                exact absurd H (by simp)
              ·rw [if_neg c55] at H
               exact absurd H (by simp)
             ·replace c54 := Bool.eq_false_iff.mpr c54
              subst c54
              have H1 : (if 0 ≤ ji16 then (if ji16 < (x5_1.length : Int) then ((some (x5_1.set (ji16 : Int).toNat (⟨((rd_T44 x5_1 (ji16)).f0), wrap64 (((rd_T44 x5_1 (ji16)).f1) + x61002001_1), ((wrap64 (x61002000_1 - t61016)) == (-1))⟩ : S44) : List (S44))).bind fun y61027 => (if x61002001_1 = x61002001_1 then (some y61027) else ((papermillref13_cut.f x61002000_1 x61002001_1 x61002002_1 x61002001_1 (wrap64 (x61002001_1 - x61002001_1))).bind fun bt61028 => (papermillref13_more.l0 kj47 y61027 bt61028.1 bt61028.2.1 bt61028.2.2)))) else (none)) else (none)) = some r := by rw [if_neg (show ¬ (false = true) by decide)] at H; first | exact H | simpa using H
              clear H
              have H := H1
              clear H1
              by_cases c72 : 0 ≤ ji16
              ·rw [if_pos c72] at H
               have c72b0 : decide (0 ≤ ji16) = true := decide_eq_true c72
               clear c72
               by_cases c73 : ji16 < (x5_1.length : Int)
               ·rw [if_pos c73] at H
                have c73b0 : decide (ji16 < (x5_1.length : Int)) = true := decide_eq_true c73
                clear c73
                obtain ⟨y61027, hy61027⟩ : ∃ y_ : List (S44), y_ = (x5_1.set (ji16 : Int).toNat (⟨((rd_T44 x5_1 (ji16)).f0), wrap64 (((rd_T44 x5_1 (ji16)).f1) + x61002001_1), ((wrap64 (x61002000_1 - t61016)) == (-1))⟩ : S44)) := ⟨_, rfl⟩
                replace H : (if x61002001_1 = x61002001_1 then (some y61027) else ((papermillref13_cut.f x61002000_1 x61002001_1 x61002002_1 x61002001_1 (wrap64 (x61002001_1 - x61002001_1))).bind fun bt61028 => (papermillref13_more.l0 kj47 y61027 bt61028.1 bt61028.2.1 bt61028.2.2))) = some r := by first | (rw [hy61027]; with_reducible exact H) | (have H2_ := (Option.bind_some _ _).symm.trans H; rw [hy61027]; with_reducible exact H2_) | (have H2_ := (Option.bind_some _ _).symm.trans H; with_reducible exact H2_) | with_reducible exact H | (rw [hy61027]; exact H) | exact H
                have Ny61027 := Aside0.mk hy61027
                clear hy61027
                by_cases c75 : x61002001_1 = x61002001_1
                ·rw [if_pos c75] at H
                 have c75b0 : (x61002001_1 == x61002001_1) = true := beq_iff_eq.mpr c75
                 have c75b1 : (x61002001_1 != x61002001_1) = false := bne_eq_false_iff_eq.mpr c75
                 clear c75
                 obtain rfl := Option.some.inj H
                 have hnb76 := NB61015_61001.out
                 have hnc76 := NB61001_61015.out
                 have hcz77_0 : wc.cell? ⟨gb61015, 0, none⟩ = some (.int .i64 ((rd_T44 x5_1 (ji16)).f0)) := (blk_cell BK61015.out 0).trans rfl
                 have hcz77_1 : wc.cell? ⟨gb61015, 1, none⟩ = some (.int .i64 ((rd_T44 x5_1 (ji16)).f1)) := (blk_cell BK61015.out 1).trans rfl
                 have hcz77_2 : wc.cell? ⟨gb61015, 2, none⟩ = some (.bool ((rd_T44 x5_1 (ji16)).f2)) := (blk_cell BK61015.out 2).trans rfl
                 have hfz77_0 := blk_frozen BK61015.out 0
                 have hfz77_1 := blk_frozen BK61015.out 1
                 have hfz77_2 := blk_frozen BK61015.out 2
                 have p74 : 0 ≤ (ji16 : Int) := of_decide_eq_true (by assumption)
                 have q74 : (ji16 : Int) < ((x5_1.length : Int) : Int) := of_decide_eq_true (by assumption)
                 obtain ⟨go74, co74, eo74, gb74, gl74, cl74, HG74⟩ := Kd.R_form HO_5.out (by omega)
                 (first | cases eo74 | (injection eo74 with ea_ en_ ec_; (first | subst ea_ | (injection ea_ with ea_; subst ea_)); subst ec_; clear en_))
                 have GB74 := Aside0.mk gb74
                 have GG74 := Aside0.mk HG74
                 clear gb74 gl74 HG74
                 obtain ⟨ce74, hcl74, hM74, hcc74, hfr74⟩ := Kd.R_elem HO_5.out z44 (ji16 : Int) p74 q74
                 obtain rfl := k44_openM hM74
                 have hx74_0 : wc.cell? ⟨go74, (ji16 : Int).toNat * 3, none⟩ = some (.int .i64 ((rd_T44 x5_1 ji16).f0)) := hcc74 0 _ rfl
                 have hx74_1 : wc.cell? ⟨go74, (ji16 : Int).toNat * 3 + 1, none⟩ = some (.int .i64 ((rd_T44 x5_1 ji16).f1)) := hcc74 1 _ rfl
                 have hx74_2 : wc.cell? ⟨go74, (ji16 : Int).toNat * 3 + 2, none⟩ = some (.bool ((rd_T44 x5_1 ji16).f2)) := hcc74 2 _ rfl
                 have hf74_0 : wc.frozen? ⟨go74, (ji16 : Int).toNat * 3, none⟩ = false := hfr74 0
                 have hf74_1 : wc.frozen? ⟨go74, (ji16 : Int).toNat * 3 + 1, none⟩ = false := hfr74 1
                 have hf74_2 : wc.frozen? ⟨go74, (ji16 : Int).toNat * 3 + 2, none⟩ = false := hfr74 2
                 clear hcl74 hcc74 hfr74 hM74
                 replace p74 := eq_true p74
                 replace q74 := eq_true q74
                 have HX78 := Aside0.mk (show Kd.R k44 44 wc w.heap.size (fun k_ => k_ ≠ gb61001 ∧ k_ ≠ gb61015) (.slice (some ⟨go74, 0, none⟩) x5_1.length co22) x5_1 from (HO_5.out))
                 obtain ⟨ce78, hcl78, hM78, hcc78, hfr78⟩ := Kd.R_elem HX78.out z44 (ji16 : Int) (of_decide_eq_true (by assumption)) (by have h_ : (ji16 : Int) < ((x5_1.length : Int) : Int) := of_decide_eq_true (by assumption); first | exact h_ | (have e_ := (Kd.R_reads' HO_5.out).1; omega) | simpa using h_)
                 obtain rfl := k44_openM hM78
                 have HP78 := Kd.R_seg HX78.out (ji16 : Int) (of_decide_eq_true (by assumption)) (by have h_ : (ji16 : Int) < ((x5_1.length : Int) : Int) := of_decide_eq_true (by assumption); first | exact h_ | (have e_ := (Kd.R_reads' HO_5.out).1; omega) | simpa using h_) (seg := [.int .i64 ((rd_T44 x5_1 (ji16)).f0), .int .i64 (wrap64 (((rd_T44 x5_1 (ji16)).f1) + x61002001_1)), .bool ((wrap64 (x61002000_1 - t61016)) == (-1))]) (j := 0) hcl78 hcc78 (show 3 ≤ 3 from by decide) (x' := (⟨((rd_T44 x5_1 (ji16)).f0), wrap64 (((rd_T44 x5_1 (ji16)).f1) + x61002001_1), ((wrap64 (x61002000_1 - t61016)) == (-1))⟩ : S44)) (k44_mkM _ _ _ (⟨((rd_T44 x5_1 (ji16)).f0), wrap64 (((rd_T44 x5_1 (ji16)).f1) + x61002001_1), ((wrap64 (x61002000_1 - t61016)) == (-1))⟩ : S44) ) (fun _ hk => hk)
                 have hx78_0 := hcc78 0 _ rfl
                 (try simp only [show (k44).sz = 3 from rfl, Nat.mul_one, Nat.add_zero] at hx78_0)
                 have hf78_0 := hfr78 0
                 (try simp only [show (k44).sz = 3 from rfl, Nat.mul_one, Nat.add_zero] at hf78_0)
                 have hx78_1 := hcc78 1 _ rfl
                 (try simp only [show (k44).sz = 3 from rfl, Nat.mul_one, Nat.add_zero] at hx78_1)
                 have hf78_1 := hfr78 1
                 (try simp only [show (k44).sz = 3 from rfl, Nat.mul_one, Nat.add_zero] at hf78_1)
                 have hx78_2 := hcc78 2 _ rfl
                 (try simp only [show (k44).sz = 3 from rfl, Nat.mul_one, Nat.add_zero] at hx78_2)
                 have hf78_2 := hfr78 2
                 (try simp only [show (k44).sz = 3 from rfl, Nat.mul_one, Nat.add_zero] at hf78_2)
                 clear hcl78 hcc78 hfr78 hM78
                 go_wp2_with (first | ((with_reducible refine gate_store (t := 44) (p := 87) rfl ?_); refine store_event (t := 44) (p := 87) (v := ?vo_w79) (w1 := (((wc.setCell ⟨go74, (ji16 : Int).toNat * 3, none⟩ (.int .i64 ((rd_T44 x5_1 (ji16)).f0))).setCell ⟨go74, (ji16 : Int).toNat * 3 + 1, none⟩ (.int .i64 (wrap64 (((rd_T44 x5_1 (ji16)).f1) + x61002001_1)))).setCell ⟨go74, (ji16 : Int).toNat * 3 + 2, none⟩ (.bool ((wrap64 (x61002000_1 - t61016)) == (-1))))) ?hg ?ho ?hn ?hr ?_; (case ho => rfl); (case hg => rfl); (case hn => rfl); (case hr => first | (go_simp; done) | (go_simp; rfl)); intro w79 hw; have hg : wc.grownBy w79 (some go74) := (by rw [hw]; exact HP78.2); have hp_ : Kd.R k44 44 w79 w.heap.size (fun k_ => k_ ≠ gb61001 ∧ k_ ≠ gb61015) (.slice (some ⟨go74, 0, none⟩) x5_1.length co22) y61027 := (by rw [hw, Ny61027.out]; exact HP78.1); clear HP78; replace BK61001 := Aside0.mk (blk_grown (g := gb61001) (o := .cells #[.int .i64 x61002000_1, .int .i64 x61002001_1, .bool x61002002_1] 44 (0, 0)) (BK61001.out) hg (Kd.R_away HO_5.out (fun _ hk => hk.1))); replace BK61015 := Aside0.mk (blk_grown (g := gb61015) (o := .cells #[.int .i64 ((rd_T44 x5_1 (ji16)).f0), .int .i64 ((rd_T44 x5_1 (ji16)).f1), .bool ((rd_T44 x5_1 (ji16)).f2)] 44 (0, 0)) (BK61015.out) hg (Kd.R_away HO_5.out (fun _ hk => hk.2))); replace HO_5 := Aside0.mk (hp_); replace HB := Aside0.mk ((by rw [hw]; exact below_set (below_set (below_set (HB.out) GB74.out) GB74.out) GB74.out : Below w.heap.size w w79)); clear hg hw hp_; have hcz80_0 : w79.cell? ⟨gb61001, 0, none⟩ = some (.int .i64 x61002000_1) := (blk_cell BK61001.out 0).trans rfl; have hcz80_1 : w79.cell? ⟨gb61001, 1, none⟩ = some (.int .i64 x61002001_1) := (blk_cell BK61001.out 1).trans rfl; have hcz80_2 : w79.cell? ⟨gb61001, 2, none⟩ = some (.bool x61002002_1) := (blk_cell BK61001.out 2).trans rfl; have hfz80_0 := blk_frozen BK61001.out 0; have hfz80_1 := blk_frozen BK61001.out 1; have hfz80_2 := blk_frozen BK61001.out 2))
                 go_ret
                 exact ⟨_, by first | rfl | (simp [errW_none, errW_some] <;> rfl) | (simp only [← hji16]; first | rfl | (simp [errW_none, errW_some] <;> rfl)) | (simp [*, errW_none, errW_some] <;> rfl), by exact Kd.R_mono HO_5.out (fun _ hk => trivial), by repeat (first | exact HB.out | apply below_alloc | apply pw_below_drewN | apply below_drew1 | refine below_set ?_ GE61001.out | refine below_set ?_ GE61015.out)⟩
                ·rw [if_neg c75] at H
                 exact absurd rfl c75
               ·rw [if_neg c73] at H
                exact absurd H (by simp)
              ·rw [if_neg c72] at H
               exact absurd H (by simp)
       ·rw [if_neg c18] at H
        exact absurd H (by simp)
      ·rw [if_neg c17] at H
       exact absurd H (by simp)
    ·rw [if_neg c8] at H
     have c8b0 : decide (0 < x61002001_1) = false := decide_eq_false c8
     clear c8
     obtain rfl := Option.some.inj H
     have hcz89_0 : wr.cell? ⟨gb61001, 0, none⟩ = some (.int .i64 x61002000_1) := (blk_cell BK61001.out 0).trans rfl
     have hcz89_1 : wr.cell? ⟨gb61001, 1, none⟩ = some (.int .i64 x61002001_1) := (blk_cell BK61001.out 1).trans rfl
     have hcz89_2 : wr.cell? ⟨gb61001, 2, none⟩ = some (.bool x61002002_1) := (blk_cell BK61001.out 2).trans rfl
     have hfz89_0 := blk_frozen BK61001.out 0
     have hfz89_1 := blk_frozen BK61001.out 1
     have hfz89_2 := blk_frozen BK61001.out 2
     go_wp2
     go_ret
     exact ⟨_, by first | rfl | (simp [errW_none, errW_some] <;> rfl) | (simp [*, errW_none, errW_some] <;> rfl), by exact Kd.R_mono HO_5.out (fun _ hk => trivial), by repeat (first | exact HB.out | apply below_alloc | apply pw_below_drewN | apply below_drew1 | refine below_set ?_ GE61001.out)⟩
 ·rw [if_neg c3] at H
  exact absurd H (by simp)

end Go.Proofs.Ytalpegglbfobiaa.G

namespace Go.Proofs.Ytalpegglbfobiaa.G
open Go.RowKit Go.Proofs.YtalpegglbfobiaaW.PrintWords Go.Proofs.YtalpegglbfobiaaW.PrintLast Go.Proofs.YtalpegglbfobiaaW.PrintMore
attribute [local go_sem] max2_int min2_int max_two min_two max_three min_three max_four min_four   -- for this text's walks alone
set_option linter.unusedVariables false
set_option linter.unusedSimpArgs false

def papermillref13_all.l0 : Nat → List (S44) → List (S44) → Int → Option ((List (S44)))
 | 0, _, _, _ => none
 | k + 1, x0, x3, x4 => if x4 < (x0.length : Int) then (if 0 ≤ x4 then ((papermillref13_more.f k x3 ((rd_T44 x0 x4).f0) ((rd_T44 x0 x4).f1) ((rd_T44 x0 x4).f2)).bind fun t63002 => (papermillref13_all.l0 k x0 t63002 (wrap64 (x4 + 1)))) else (none)) else (some x3)
def papermillref13_all.f (k : Nat) (l0 : List (S44)) : Option ((List (S44))) := papermillref13_all.l0 k l0 ([] : List (S44)) 0
set_option maxHeartbeats 8000000 in
set_option maxRecDepth 100000 in
theorem papermillref13_all.calls (k : Nat) (A0 : Option Addr) (c0 : Nat) (l0 : List (S44)) (r : List (S44)) (w : World) (hr0 : Kd.C k44 w A0 l0.length l0) (hc0 : l0.length ≤ c0) (h : papermillref13_all.f k l0 = some r) :
  Calls Try.prog 62 #[.slice A0 l0.length c0] w fun e w' => ∃ v0_ : Value, e = .returned (v0_) ∧ Kd.R k44 44 w' w.heap.size (fun _ => True) v0_ r ∧ Below w.heap.size w w' := by
 have hu44 := Try.underlying44
 have HR0 := Aside0.mk hr0
 have HC0 := Aside0.mk hc0
 clear hr0 hc0
 have HB := Aside0.mk (Below.refl w.heap.size w)
 have H : (papermillref13_all.l0 k l0 ([] : List (S44)) 0) = some r := h
 clear h
 have H' := Aside0.mk H
 clear H
 go_enter Try.func62, Try.ntmps62
 go_wp2
 go_loopg [3, 4] k (fun kq v3 v4 w' => ∃ (x3_1 : List (S44)) (x4_1 : Int), v4 = .int .i64 x4_1 ∧ Aside0 (papermillref13_all.l0 kq l0 x3_1 x4_1 = some r) ∧ Aside0 (kq ≤ k) ∧ Aside0 (Kd.R k44 44 w' w.heap.size (fun _ => True) v3 x3_1) ∧ Aside0 (Below w.heap.size w w'))
 case atStart => exact ⟨(([] : List (S44))), (0), (by first | rfl | (simp; done) | (simp [*]; done)), H', ⟨Nat.le_refl _⟩, ⟨by first | exact Kd.R_nil _ _ _ _ _ | exact Kd.N_nil _ _ _ _ _ | exact Kd.V_nil _ _ _ _ _ | exact Kd.Q_nil _ _ _ _ _ | exact Kd.S_nil _ _ _ _ _⟩, ⟨by repeat (first | exact HB.out | apply below_alloc | apply pw_below_drewN | apply below_drew1)⟩⟩
 case round =>
  clear H'
  obtain ⟨x3_1, x4_1, rfl, HA, HK1, HO_3, HB⟩ := hrel
  cases gk with
  | zero => exact absurd HA.out (by simp [papermillref13_all.l0])
  | succ k1 =>
   have H := HA.out
   clear HA
   simp only [papermillref13_all.l0] at H
   by_cases c2 : x4_1 < (l0.length : Int)
   ·rw [if_pos c2] at H
    have c2b0 : decide (x4_1 < (l0.length : Int)) = true := decide_eq_true c2
    clear c2
    by_cases c3 : 0 ≤ x4_1
    ·rw [if_pos c3] at H
     have c3b0 : decide (0 ≤ x4_1) = true := decide_eq_true c3
     clear c3
     replace H := Option.bind_eq_some_iff.mp H
     obtain ⟨t63002, A40, H⟩ := H
     have A4 := Aside0.mk A40
     clear A40
     have H' := Aside0.mk H
     clear H
     have p63001 : 0 ≤ (x4_1 : Int) := of_decide_eq_true (by assumption)
     have q63001 : x4_1 < (l0.length : Int) := of_decide_eq_true (by assumption)
     obtain ⟨ad63001, e63001, hx63001_0, hx63001_1, hx63001_2⟩ := at_T44 HR0.out x4_1 p63001 q63001
     cases e63001
     replace hx63001_0 := (HB.out.cell (World.block_lt_of_cell? w _ hx63001_0)).trans hx63001_0
     replace hx63001_1 := (HB.out.cell (World.block_lt_of_cell? w _ hx63001_1)).trans hx63001_1
     replace hx63001_2 := (HB.out.cell (World.block_lt_of_cell? w _ hx63001_2)).trans hx63001_2
     replace p63001 := eq_true p63001
     replace q63001 := eq_true q63001
     obtain ⟨Ao5, co5, eo5⟩ := Kd.R_slice HO_3.out
     subst eo5
     go_wp2_with (first | ((with_reducible refine gate_callee (f := 60) rfl ?_); refine goesL_ (some 16) rfl rfl Try.func60 (by kernel_rfl) rfl #[.slice Ao5 x3_1.length co5, .agg #[.int .i64 ((rd_T44 l0 x4_1).f0), .int .i64 ((rd_T44 l0 x4_1).f1), .bool ((rd_T44 l0 x4_1).f2)]] rfl (by (try simp only [List.map_toArray, List.map_cons, List.map_nil]); first | done | rfl | (simp only [List.length_drop, List.length_take]; rfl)) ?_; (with_reducible refine (papermillref13_more.calls k1 _ _ x3_1 ((rd_T44 l0 x4_1).f0) ((rd_T44 l0 x4_1).f1) ((rd_T44 l0 x4_1).f2) t63002 _ ?side1 ?side2 A4.out).mono ?_); (case side1 => exact (Kd.R_reads' HO_3.out).2.2); (case side2 => exact (Kd.R_reads' HO_3.out).2.1); rintro e w6 ⟨v63003, rfl, ho0, hb⟩; refine ⟨_, rfl, ?_⟩; have HO63004 := Aside0.mk (Kd.R_lower (Kd.R_new' ho0 (Kd.R_lt (HO_3.out))) (below_size (by repeat (first | exact HB.out | apply below_alloc | apply pw_below_drewN | apply below_drew1)))); replace HO_3 := Aside0.mk (Kd.R_elder' (HO_3.out) (Kd.R_base ho0) hb); replace HB := Aside0.mk (below_step (by repeat (first | exact HB.out | apply below_alloc | apply pw_below_drewN | apply below_drew1)) hb); (try clear hb); (try clear hb2); (try clear hk); (try clear hi); (try clear ho0)))
     go_roundg k1
     case measure => have := HK1.out; omega
     case rel => exact ⟨(t63002), (wrap64 (x4_1 + 1)), (by first | rfl | (simp; done) | (simp [*]; done)), H', ⟨by have := HK1.out; omega⟩, ⟨by exact Kd.R_mono HO63004.out (fun _ hk => trivial)⟩, ⟨by repeat (first | exact HB.out | apply below_alloc | apply pw_below_drewN | apply below_drew1)⟩⟩
    ·rw [if_neg c3] at H
     exact absurd H (by simp)
   ·rw [if_neg c2] at H
    have c2b0 : decide (x4_1 < (l0.length : Int)) = false := decide_eq_false c2
    clear c2
    obtain rfl := Option.some.inj H
    go_wp2
    go_ret
    exact ⟨_, by first | rfl | (simp [errW_none, errW_some] <;> rfl) | (simp [*, errW_none, errW_some] <;> rfl), by exact HO_3.out, by repeat (first | exact HB.out | apply below_alloc | apply pw_below_drewN | apply below_drew1)⟩

end Go.Proofs.Ytalpegglbfobiaa.G

namespace Go.Proofs.Ytalpegglbfobiaa.G
open Go.RowKit Go.Proofs.YtalpegglbfobiaaW.PrintWords Go.Proofs.YtalpegglbfobiaaW.PrintLast Go.Proofs.YtalpegglbfobiaaW.PrintMore
attribute [local go_sem] max2_int min2_int max_two min_two max_three min_three max_four min_four   -- for this text's walks alone
set_option linter.unusedVariables false
set_option linter.unusedSimpArgs false

def papermillref13_Norm.f (k : Nat) (l0 : List (S44)) : Option ((List (S44)) × Int) := (papermillref13_Check.f k l0).bind fun t42001 => (if t42001 = 0 then ((papermillref13_all.f k l0).bind fun t42002 => (some (t42002, 0))) else (some (([] : List (S44)), t42001)))
set_option maxHeartbeats 8000000 in
set_option maxRecDepth 100000 in
theorem papermillref13_Norm.calls (k : Nat) (A0 : Option Addr) (c0 : Nat) (l0 : List (S44)) (r1 : List (S44)) (r2 : Int) (w : World) (hr0 : Kd.C k44 w A0 l0.length l0) (hc0 : l0.length ≤ c0) (h : papermillref13_Norm.f k l0 = some (r1, r2)) :
  Calls Try.prog 41 #[.slice A0 l0.length c0] w fun e w' => ∃ v0_ : Value, e = .returned (.tuple #[v0_, .int .i64 r2]) ∧ Kd.R k44 44 w' w.heap.size (fun _ => True) v0_ r1 ∧ Below w.heap.size w w' := by
 have HR0 := Aside0.mk hr0
 have HC0 := Aside0.mk hc0
 clear hr0 hc0
 have HB := Aside0.mk (Below.refl w.heap.size w)
 have H : ((papermillref13_Check.f k l0).bind fun t42001 => (if t42001 = 0 then ((papermillref13_all.f k l0).bind fun t42002 => (some (t42002, 0))) else (some (([] : List (S44)), t42001)))) = some (r1, r2) := h
 clear h
 replace H := Option.bind_eq_some_iff.mp H
 obtain ⟨t42001, A20, H⟩ := H
 have A2 := Aside0.mk A20
 clear A20
 by_cases c3 : t42001 = 0
 ·rw [if_pos c3] at H
  have c3b0 : (t42001 == 0) = true := beq_iff_eq.mpr c3
  have c3b1 : (t42001 != 0) = false := bne_eq_false_iff_eq.mpr c3
  clear c3
  replace H := Option.bind_eq_some_iff.mp H
  obtain ⟨t42002, A40, H⟩ := H
  have A4 := Aside0.mk A40
  clear A40
  simp only [Option.some.injEq, Prod.mk.injEq] at H
  obtain ⟨rfl, rfl⟩ := H
  go_enter Try.func41, Try.ntmps41
  go_wp2_with (first | ((with_reducible refine gate_callee (f := 25) rfl ?_); refine goesL_ (some 6) rfl rfl Try.func25 (by kernel_rfl) rfl #[.slice A0 l0.length c0] rfl (by (try simp only [List.map_toArray, List.map_cons, List.map_nil]); first | done | rfl | (simp only [List.length_drop, List.length_take]; rfl)) ?_; (with_reducible refine (papermillref13_Check.calls k _ _ l0 t42001 _ ?side1 ?side2 A2.out).mono ?_); (case side1 => exact HR0.out); (case side2 => exact HC0.out); rintro e w5 ⟨rfl, hb⟩; refine ⟨_, rfl, ?_⟩; replace HB := Aside0.mk (below_step (by repeat (first | exact HB.out | apply below_alloc | apply pw_below_drewN | apply below_drew1)) hb); (try clear hb); (try clear hb2); (try clear hk); (try clear hi)) | ((with_reducible refine gate_callee (f := 62) rfl ?_); refine goesL_ (some 11) rfl rfl Try.func62 (by kernel_rfl) rfl #[.slice A0 l0.length c0] rfl (by (try simp only [List.map_toArray, List.map_cons, List.map_nil]); first | done | rfl | (simp only [List.length_drop, List.length_take]; rfl)) ?_; (with_reducible refine (papermillref13_all.calls k _ _ l0 t42002 _ ?side1 ?side2 A4.out).mono ?_); (case side1 => exact (Kd.C_below HR0.out HB.out)); (case side2 => exact HC0.out); rintro e w6 ⟨v42003, rfl, ho0, hb⟩; refine ⟨_, rfl, ?_⟩; have HO42004 := Aside0.mk (Kd.R_lower ho0 (below_size (by repeat (first | exact HB.out | apply below_alloc | apply pw_below_drewN | apply below_drew1)))); replace HB := Aside0.mk (below_step (by repeat (first | exact HB.out | apply below_alloc | apply pw_below_drewN | apply below_drew1)) hb); (try clear hb); (try clear hb2); (try clear hk); (try clear hi); (try clear ho0)))
  go_ret2
  exact ⟨_, by first | rfl | (simp [errW_none, errW_some] <;> rfl) | (simp [*, errW_none, errW_some] <;> rfl), by exact HO42004.out, by repeat (first | exact HB.out | apply below_alloc | apply pw_below_drewN | apply below_drew1)⟩
 ·rw [if_neg c3] at H
  have c3b0 : (t42001 == 0) = false := beq_eq_false_iff_ne.mpr c3
  have c3b1 : (t42001 != 0) = true := bne_iff_ne.mpr c3
  simp only [Option.some.injEq, Prod.mk.injEq] at H
  obtain ⟨rfl, rfl⟩ := H
  go_enter Try.func41, Try.ntmps41
  go_wp2_with (first | ((with_reducible refine gate_callee (f := 25) rfl ?_); refine goesL_ (some 6) rfl rfl Try.func25 (by kernel_rfl) rfl #[.slice A0 l0.length c0] rfl (by (try simp only [List.map_toArray, List.map_cons, List.map_nil]); first | done | rfl | (simp only [List.length_drop, List.length_take]; rfl)) ?_; (with_reducible refine (papermillref13_Check.calls k _ _ l0 t42001 _ ?side1 ?side2 A2.out).mono ?_); (case side1 => exact HR0.out); (case side2 => exact HC0.out); rintro e w7 ⟨rfl, hb⟩; refine ⟨_, rfl, ?_⟩; replace HB := Aside0.mk (below_step (by repeat (first | exact HB.out | apply below_alloc | apply pw_below_drewN | apply below_drew1)) hb); (try clear hb); (try clear hb2); (try clear hk); (try clear hi)))
  go_ret2
  exact ⟨_, by first | rfl | (simp [errW_none, errW_some] <;> rfl) | (simp [*, errW_none, errW_some] <;> rfl), by first | exact Kd.R_nil _ _ _ _ _ | exact Kd.N_nil _ _ _ _ _ | exact Kd.V_nil _ _ _ _ _ | exact Kd.Q_nil _ _ _ _ _ | exact Kd.S_nil _ _ _ _ _, by repeat (first | exact HB.out | apply below_alloc | apply pw_below_drewN | apply below_drew1)⟩

end Go.Proofs.Ytalpegglbfobiaa.G

namespace Go.Proofs.Ytalpegglbfobiaa.G
open Go.RowKit Go.Proofs.YtalpegglbfobiaaW.PrintWords Go.Proofs.YtalpegglbfobiaaW.PrintLast Go.Proofs.YtalpegglbfobiaaW.PrintMore
attribute [local go_sem] max2_int min2_int max_two min_two max_three min_three max_four min_four   -- for this text's walks alone
set_option linter.unusedVariables false
set_option linter.unusedSimpArgs false

attribute [local go_sem high] eqA55
def papermillref04_Same.l0 : Nat → List (S55) → List (S55) → Int → Option (Bool)
 | 0, _, _, _ => none
 | k + 1, x0, x1, x5 => if x5 < (x0.length : Int) then (if 0 ≤ x5 then (if x5 < (x1.length : Int) then (if (!(((rd_T55 x0 x5).f0) == ((rd_T55 x1 x5).f0)) || (!(((rd_T55 x0 x5).f1) == ((rd_T55 x1 x5).f1)))) = true then (some false) else (papermillref04_Same.l0 k x0 x1 (wrap64 (x5 + 1)))) else (none)) else (none)) else (some true)
def papermillref04_Same.f (k : Nat) (l0 : List (S55)) (l1 : List (S55)) : Option (Bool) := if (l0.length : Int) = (l1.length : Int) then (papermillref04_Same.l0 k l0 l1 0) else (some false)
set_option maxHeartbeats 8000000 in
set_option maxRecDepth 100000 in
theorem papermillref04_Same.calls (k : Nat) (A0 : Option Addr) (c0 : Nat) (l0 : List (S55)) (A1 : Option Addr) (c1 : Nat) (l1 : List (S55)) (r : Bool) (w : World) (hr0 : Kd.C k55 w A0 l0.length l0) (hc0 : l0.length ≤ c0) (hr1 : Kd.C k55 w A1 l1.length l1) (hc1 : l1.length ≤ c1) (h : papermillref04_Same.f k l0 l1 = some r) :
  Calls Try.prog 59 #[.slice A0 l0.length c0, .slice A1 l1.length c1] w fun e w' => e = .returned (.bool r) ∧ Drawn0 w w' := by
 have hu55 := Try.underlying55
 have HR0 := Aside0.mk hr0
 have HC0 := Aside0.mk hc0
 clear hr0 hc0
 have HR1 := Aside0.mk hr1
 have HC1 := Aside0.mk hc1
 clear hr1 hc1
 have H : (if (l0.length : Int) = (l1.length : Int) then (papermillref04_Same.l0 k l0 l1 0) else (some false)) = some r := h
 clear h
 by_cases c3 : (l0.length : Int) = (l1.length : Int)
 ·rw [if_pos c3] at H
  have c3b0 : ((l0.length : Int) == (l1.length : Int)) = true := beq_iff_eq.mpr c3
  have c3b1 : ((l0.length : Int) != (l1.length : Int)) = false := bne_eq_false_iff_eq.mpr c3
  have c3b2 : (l0.length == l1.length) = true := by first | simpa using c3 | (simp at c3 ⊢; omega)
  clear c3
  have H' := Aside0.mk H
  clear H
  go_enter Try.func59, Try.ntmps59
  go_wp2
  repeat (go_quiet (fail); try go_wp2)
  go_loopg [5] k (fun kq v5 w' => ∃ (x5_1 : Int), v5 = .int .i64 x5_1 ∧ Aside0 (papermillref04_Same.l0 kq l0 l1 x5_1 = some r) ∧ Aside0 (kq ≤ k) ∧ Drawn0 w w')
  case atStart => exact ⟨(0), (by first | rfl | (simp; done) | (simp [*]; done)), H', ⟨Nat.le_refl _⟩, by repeat (first | exact Drawn0.refl _ | apply Drawn0.step)⟩
  case round =>
   clear H'
   try clear c1
   try clear p2
   try clear c3
   try clear c3b0
   try clear c3b1
   try clear c3b2
   obtain ⟨x5_1, rfl, HA, HK1, ⟨m1, rfl⟩⟩ := hrel
   cases gk with
   | zero => exact absurd HA.out (by simp [papermillref04_Same.l0])
   | succ k1 =>
    have H := HA.out
    clear HA
    simp only [papermillref04_Same.l0] at H
    by_cases c4 : x5_1 < (l0.length : Int)
    ·rw [if_pos c4] at H
     have c4b0 : decide (x5_1 < (l0.length : Int)) = true := decide_eq_true c4
     clear c4
     by_cases c5 : 0 ≤ x5_1
     ·rw [if_pos c5] at H
      have c5b0 : decide (0 ≤ x5_1) = true := decide_eq_true c5
      clear c5
      by_cases c6 : x5_1 < (l1.length : Int)
      ·rw [if_pos c6] at H
       have c6b0 : decide (x5_1 < (l1.length : Int)) = true := decide_eq_true c6
       clear c6
       by_cases c7 : (!(((rd_T55 l0 x5_1).f0) == ((rd_T55 l1 x5_1).f0)) || (!(((rd_T55 l0 x5_1).f1) == ((rd_T55 l1 x5_1).f1)))) = true
       ·rw [if_pos c7] at H
        have c7b0 : (!(((rd_T55 l0 x5_1).f0) == ((rd_T55 l1 x5_1).f0)) || (!(((rd_T55 l0 x5_1).f1) == ((rd_T55 l1 x5_1).f1)))) = true := c7
        clear c7
        obtain rfl := Option.some.inj H
        have p60001 : 0 ≤ (x5_1 : Int) := of_decide_eq_true (by assumption)
        have q60001 : x5_1 < (l0.length : Int) := of_decide_eq_true (by assumption)
        obtain ⟨ad60001, e60001, hx60001_0, hx60001_1⟩ := at_T55 HR0.out x5_1 p60001 q60001
        cases e60001
        replace p60001 := eq_true p60001
        replace q60001 := eq_true q60001
        have p60002 : 0 ≤ (x5_1 : Int) := of_decide_eq_true (by assumption)
        have q60002 : x5_1 < (l1.length : Int) := of_decide_eq_true (by assumption)
        obtain ⟨ad60002, e60002, hx60002_0, hx60002_1⟩ := at_T55 HR1.out x5_1 p60002 q60002
        cases e60002
        replace p60002 := eq_true p60002
        replace q60002 := eq_true q60002
        go_wp2
        repeat (go_quiet (fail); try go_wp2)
        go_ret
        exact ⟨by first | rfl | (simp; done) | (simp [*]; done), by repeat (first | exact Drawn0.refl _ | apply Drawn0.step)⟩
       ·rw [if_neg c7] at H
        have c7b0 : (!(((rd_T55 l0 x5_1).f0) == ((rd_T55 l1 x5_1).f0)) || (!(((rd_T55 l0 x5_1).f1) == ((rd_T55 l1 x5_1).f1)))) = false := by simpa using c7
        clear c7
        have H' := Aside0.mk H
        clear H
        have p60001 : 0 ≤ (x5_1 : Int) := of_decide_eq_true (by assumption)
        have q60001 : x5_1 < (l0.length : Int) := of_decide_eq_true (by assumption)
        obtain ⟨ad60001, e60001, hx60001_0, hx60001_1⟩ := at_T55 HR0.out x5_1 p60001 q60001
        cases e60001
        replace p60001 := eq_true p60001
        replace q60001 := eq_true q60001
        have p60002 : 0 ≤ (x5_1 : Int) := of_decide_eq_true (by assumption)
        have q60002 : x5_1 < (l1.length : Int) := of_decide_eq_true (by assumption)
        obtain ⟨ad60002, e60002, hx60002_0, hx60002_1⟩ := at_T55 HR1.out x5_1 p60002 q60002
        cases e60002
        replace p60002 := eq_true p60002
        replace q60002 := eq_true q60002
        go_wp2
        repeat (go_quiet (fail); try go_wp2)
        go_roundg k1
        case measure => have := HK1.out; omega
        case rel => exact ⟨(wrap64 (x5_1 + 1)), (by first | rfl | (simp; done) | (simp [*]; done)), H', ⟨by have := HK1.out; omega⟩, by repeat (first | exact Drawn0.refl _ | apply Drawn0.step)⟩
      ·rw [if_neg c6] at H
       exact absurd H (by simp)
     ·rw [if_neg c5] at H
      exact absurd H (by simp)
    ·rw [if_neg c4] at H
     have c4b0 : decide (x5_1 < (l0.length : Int)) = false := decide_eq_false c4
     clear c4
     obtain rfl := Option.some.inj H
     go_wp2
     repeat (go_quiet (fail); try go_wp2)
     go_ret
     exact ⟨by first | rfl | (simp; done) | (simp [*]; done), by repeat (first | exact Drawn0.refl _ | apply Drawn0.step)⟩
 ·rw [if_neg c3] at H
  have c3b0 : ((l0.length : Int) == (l1.length : Int)) = false := beq_eq_false_iff_ne.mpr c3
  have c3b1 : ((l0.length : Int) != (l1.length : Int)) = true := bne_iff_ne.mpr c3
  have c3b2 : (l0.length == l1.length) = false := by first | simpa using c3 | (simp at c3 ⊢; omega)
  obtain rfl := Option.some.inj H
  go_enter Try.func59, Try.ntmps59
  go_wp2
  repeat (go_quiet (fail); try go_wp2)
  go_ret
  exact ⟨by first | rfl | (simp; done) | (simp [*]; done), by repeat (first | exact Drawn0.refl _ | apply Drawn0.step)⟩

end Go.Proofs.Ytalpegglbfobiaa.G

namespace Go.Proofs.Ytalpegglbfobiaa.G
open Go.RowKit Go.Proofs.YtalpegglbfobiaaW.PrintWords Go.Proofs.YtalpegglbfobiaaW.PrintLast Go.Proofs.YtalpegglbfobiaaW.PrintMore
attribute [local go_sem] max2_int min2_int max_two min_two max_three min_three max_four min_four   -- for this text's walks alone
set_option linter.unusedVariables false
set_option linter.unusedSimpArgs false

def papermillref40_Runs.l0 : Nat → List (S55) → List (S44) → Int → Option ((List (S44)) × Int)
 | 0, _, _, _ => none
 | k + 1, x0, x6, x7 => if x7 < (x0.length : Int) then (if 0 ≤ x7 then (if x6.length < 5864062014805 then (papermillref40_Runs.l0 k x0 (x6 ++ [(⟨(rd_T55 x0 x7).f0, wrap64 (((rd_T55 x0 x7).f1) - ((rd_T55 x0 x7).f0)), false⟩ : S44)]) (wrap64 (x7 + 1))) else (none)) else (none)) else ((papermillref13_Norm.f k x6).bind fun bt38012 => (some (bt38012.1, bt38012.2)))
def papermillref40_Runs.f (k : Nat) (l0 : List (S55)) : Option ((List (S44)) × Int) := (papermillref04_Norm.f k l0).bind fun bt38001 => (if bt38001.2 = 0 then ((papermillref04_Same.f k bt38001.1 l0).bind fun t38005 => (if t38005 = true then (papermillref40_Runs.l0 k l0 ([] : List (S44)) 0) else (some (([] : List (S44)), 9)))) else (some (([] : List (S44)), bt38001.2)))
def papermillref40_Runs.T10 : Bool × List (List Nat × List Nat) := (true, [([], []), ([], []), ([], []), ([1, 2], [1, 2]), ([3], [3]), ([4], [4]), ([], []), ([], []), ([6, 7], [6, 7]), ([8], [8]), ([9], [9]), ([], []), ([], []), ([11, 12], [11, 12]), ([13], [13]), ([14], [14]), ([10, 15], [10, 15]), ([5, 16], [5, 16]), ([17], [17]), ([0, 18], [0, 18]), ([19, 19, 0, 1, 2, 3, 4, 5, 6, 7, 8, 9, 10, 11, 12, 13, 14, 15, 16, 17, 18, 19], [0, 19])])
def papermillref40_Runs.B10 : List Nat := [0, 0, 0, 6, 14, 30, 0, 0, 192, 448, 960, 0, 0, 6144, 14336, 30720, 65472, 131070, 262142, 524287, 1048575]
theorem papermillref40_Runs.tab10 : rtab .any (opsOf Try.f37 10) = papermillref40_Runs.T10 := by kernel_rfl
theorem papermillref40_Runs.bits10 : waitsOk papermillref40_Runs.T10.2 papermillref40_Runs.B10 = true := by kernel_rfl
set_option maxHeartbeats 8000000 in
set_option maxRecDepth 100000 in
theorem papermillref40_Runs.calls (k : Nat) (A0 : Option Addr) (c0 : Nat) (l0 : List (S55)) (r1 : List (S44)) (r2 : Int) (w : World) (hr0 : Kd.C k55 w A0 l0.length l0) (hc0 : l0.length ≤ c0) (h : papermillref40_Runs.f k l0 = some (r1, r2)) :
  Calls Try.prog 37 #[.slice A0 l0.length c0] w fun e w' => ∃ v0_ : Value, e = .returned (.tuple #[v0_, .int .i64 r2]) ∧ Kd.R k44 44 w' w.heap.size (fun _ => True) v0_ r1 ∧ Below w.heap.size w w' := by
 have hu44 := Try.underlying44
 have HR0 := Aside0.mk hr0
 have HC0 := Aside0.mk hc0
 clear hr0 hc0
 have HB := Aside0.mk (Below.refl w.heap.size w)
 have H : ((papermillref04_Norm.f k l0).bind fun bt38001 => (if bt38001.2 = 0 then ((papermillref04_Same.f k bt38001.1 l0).bind fun t38005 => (if t38005 = true then (papermillref40_Runs.l0 k l0 ([] : List (S44)) 0) else (some (([] : List (S44)), 9)))) else (some (([] : List (S44)), bt38001.2)))) = some (r1, r2) := h
 clear h
 replace H := Option.bind_eq_some_iff.mp H
 obtain ⟨⟨t38001, t38002⟩, A20, H⟩ := H
 try dsimp only at H
 have A2 := Aside0.mk A20
 clear A20
 by_cases c3 : t38002 = 0
 ·rw [if_pos c3] at H
  have c3b0 : (t38002 == 0) = true := beq_iff_eq.mpr c3
  have c3b1 : (t38002 != 0) = false := bne_eq_false_iff_eq.mpr c3
  clear c3
  replace H := Option.bind_eq_some_iff.mp H
  obtain ⟨t38005, A40, H⟩ := H
  have A4 := Aside0.mk A40
  clear A40
  by_cases c5 : t38005 = true
  ·subst c5
   rw [if_pos rfl] at H
   have H' := Aside0.mk H
   clear H
   go_enter Try.func37, Try.ntmps37
   go_wp2_with (first | ((with_reducible refine gate_callee (f := 58) rfl ?_); refine goesL_ (some 10) rfl rfl Try.func58 (by kernel_rfl) rfl #[.slice A0 l0.length c0] rfl (by (try simp only [List.map_toArray, List.map_cons, List.map_nil]); first | done | rfl | (simp only [List.length_drop, List.length_take]; rfl)) ?_; (with_reducible refine (papermillref04_Norm.calls k _ _ l0 t38001 t38002 _ ?side1 ?side2 A2.out).mono ?_); (case side1 => exact HR0.out); (case side2 => exact HC0.out); rintro e w6 ⟨v38003, rfl, ho0, hb⟩; refine ⟨_, rfl, ?_⟩; have HO38004 := Aside0.mk (Kd.R_lower ho0 (below_size (by repeat (first | exact HB.out | apply below_alloc | apply pw_below_drewN | apply below_drew1)))); replace HB := Aside0.mk (below_step (by repeat (first | exact HB.out | apply below_alloc | apply pw_below_drewN | apply below_drew1)) hb); (try clear hb); (try clear hb2); (try clear hk); (try clear hi); (try clear ho0); obtain ⟨Ao7, co7, eo7⟩ := Kd.R_slice HO38004.out; subst eo7) | ((with_reducible refine gate_callee (f := 59) rfl ?_); refine goesL_ (some 18) rfl rfl Try.func59 (by kernel_rfl) rfl #[.slice Ao7 t38001.length co7, .slice A0 l0.length c0] rfl (by (try simp only [List.map_toArray, List.map_cons, List.map_nil]); first | done | rfl | (simp only [List.length_drop, List.length_take]; rfl)) ?_; (with_reducible refine (papermillref04_Same.calls k _ _ t38001 _ _ l0 true _ ?side1 ?side2 ?side3 ?side4 A4.out).mono ?_); (case side1 => exact (Kd.R_reads' HO38004.out).2.2); (case side2 => exact (Kd.R_reads' HO38004.out).2.1); (case side3 => exact (Kd.C_below HR0.out HB.out)); (case side4 => exact HC0.out); rintro e w' ⟨rfl, ⟨nd, rfl⟩⟩; refine ⟨_, rfl, ?_⟩))
   go_loopg [6, 7] k (fun kq v6 v7 w' => ∃ (x6_1 : List (S44)) (x7_1 : Int), v7 = .int .i64 x7_1 ∧ Aside0 (papermillref40_Runs.l0 kq l0 x6_1 x7_1 = some (r1, r2)) ∧ Aside0 (kq ≤ k) ∧ Aside0 (Kd.R k44 44 w' w.heap.size (fun _ => True) v6 x6_1) ∧ Aside0 (Below w.heap.size w w'))
   case atStart => exact ⟨(([] : List (S44))), (0), (by first | rfl | (simp; done) | (simp [*]; done)), H', ⟨Nat.le_refl _⟩, ⟨by first | exact Kd.R_nil _ _ _ _ _ | exact Kd.N_nil _ _ _ _ _ | exact Kd.V_nil _ _ _ _ _ | exact Kd.Q_nil _ _ _ _ _ | exact Kd.S_nil _ _ _ _ _⟩, ⟨by repeat (first | exact HB.out | apply below_alloc | apply pw_below_drewN | apply below_drew1)⟩⟩
   case round =>
    clear H'
    try clear p2
    try clear c3
    try clear c3b0
    try clear c3b1
    try clear c5
    obtain ⟨x6_1, x7_1, rfl, HA, HK1, HO_6, HB⟩ := hrel
    cases gk with
    | zero => exact absurd HA.out (by simp [papermillref40_Runs.l0])
    | succ k1 =>
     have H := HA.out
     clear HA
     simp only [papermillref40_Runs.l0] at H
     by_cases c8 : x7_1 < (l0.length : Int)
     ·rw [if_pos c8] at H
      have c8b0 : decide (x7_1 < (l0.length : Int)) = true := decide_eq_true c8
      clear c8
      by_cases c9 : 0 ≤ x7_1
      ·rw [if_pos c9] at H
       have c9b0 : decide (0 ≤ x7_1) = true := decide_eq_true c9
       clear c9
       by_cases c10 : x6_1.length < 5864062014805
       ·rw [if_pos c10] at H
        have LMc10 := Aside0.mk c10
        clear c10
        obtain ⟨y38009, hy38009⟩ : ∃ y_ : List (S44), y_ = (x6_1 ++ [(⟨(rd_T55 l0 x7_1).f0, wrap64 (((rd_T55 l0 x7_1).f1) - ((rd_T55 l0 x7_1).f0)), false⟩ : S44)]) := ⟨_, rfl⟩
        replace H : (papermillref40_Runs.l0 k1 l0 y38009 (wrap64 (x7_1 + 1))) = some (r1, r2) := by first | (rw [hy38009]; with_reducible exact H) | (have H2_ := (Option.bind_some _ _).symm.trans H; rw [hy38009]; with_reducible exact H2_) | (have H2_ := (Option.bind_some _ _).symm.trans H; with_reducible exact H2_) | with_reducible exact H | (rw [hy38009]; exact H) | exact H
        have Ny38009 := Aside0.mk hy38009
        clear hy38009
        have H' := Aside0.mk H
        clear H
        try go_wp2
        replace HO_6 := Aside0.mk (Kd.R_drew HO_6.out)
        replace HB := Aside0.mk (below_drew1 HB.out)
        have p38006 : 0 ≤ (x7_1 : Int) := of_decide_eq_true (by assumption)
        have q38006 : x7_1 < (l0.length : Int) := of_decide_eq_true (by assumption)
        obtain ⟨ad38006, e38006, hx38006_0, hx38006_1⟩ := at_T55 HR0.out x7_1 p38006 q38006
        have hw38006_1 := hx38006_1
        have hw38006_0 := hx38006_0
        cases e38006
        replace hx38006_0 := (HB.out.cell (World.block_lt_of_cell? w _ hx38006_0)).trans hx38006_0
        replace hx38006_1 := (HB.out.cell (World.block_lt_of_cell? w _ hx38006_1)).trans hx38006_1
        replace p38006 := eq_true p38006
        replace q38006 := eq_true q38006
        have p38007 : 0 ≤ (x7_1 : Int) := of_decide_eq_true (by assumption)
        have q38007 : x7_1 < (l0.length : Int) := of_decide_eq_true (by assumption)
        obtain ⟨ad38007, e38007, hx38007_0, hx38007_1⟩ := at_T55 HR0.out x7_1 p38007 q38007
        have hw38007_1 := hx38007_1
        have hw38007_0 := hx38007_0
        obtain rfl : ad38006 = ad38007 := (by injection e38007)
        replace hx38007_0 := (HB.out.cell (World.block_lt_of_cell? w _ hx38007_0)).trans hx38007_0
        replace hx38007_1 := (HB.out.cell (World.block_lt_of_cell? w _ hx38007_1)).trans hx38007_1
        replace p38007 := eq_true p38007
        replace q38007 := eq_true q38007
        have p38008 : 0 ≤ (x7_1 : Int) := of_decide_eq_true (by assumption)
        have q38008 : x7_1 < (l0.length : Int) := of_decide_eq_true (by assumption)
        obtain ⟨ad38008, e38008, hx38008_0, hx38008_1⟩ := at_T55 HR0.out x7_1 p38008 q38008
        have hw38008_1 := hx38008_1
        have hw38008_0 := hx38008_0
        obtain rfl : ad38006 = ad38008 := (by injection e38008)
        replace hx38008_0 := (HB.out.cell (World.block_lt_of_cell? w _ hx38008_0)).trans hx38008_0
        replace hx38008_1 := (HB.out.cell (World.block_lt_of_cell? w _ hx38008_1)).trans hx38008_1
        replace p38008 := eq_true p38008
        replace q38008 := eq_true q38008
        refine start_ (n := 21) (S := fun w' => w'.cell? (ad38006.add ((x7_1).toNat * 2)) = some (.int .i64 ((rd_T55 l0 x7_1).f0)) ∧ w'.cell? ⟨(ad38006.add ((x7_1).toNat * 2)).block, (ad38006.add ((x7_1).toNat * 2)).off + 1, none⟩ = some (.int .i64 ((rd_T55 l0 x7_1).f1)) ∧ w'.cell? (ad38006.add ((x7_1).toNat * 2)) = some (.int .i64 ((rd_T55 l0 x7_1).f0)) ∧ w'.cell? ⟨(ad38006.add ((x7_1).toNat * 2)).block, (ad38006.add ((x7_1).toNat * 2)).off + 1, none⟩ = some (.int .i64 ((rd_T55 l0 x7_1).f1)) ∧ w'.cell? (ad38006.add ((x7_1).toNat * 2)) = some (.int .i64 ((rd_T55 l0 x7_1).f0)) ∧ w'.cell? ⟨(ad38006.add ((x7_1).toNat * 2)).block, (ad38006.add ((x7_1).toNat * 2)).off + 1, none⟩ = some (.int .i64 ((rd_T55 l0 x7_1).f1))) (ds := []) #[false, false, false, false, false, false, false, false, false, false, false, false, false, false, false, false, false, false, false, false, false] (by kernel_rfl) rfl rfl ⟨((HB.out.cell (World.block_lt_of_cell? w _ hw38006_0)).trans hw38006_0), ((HB.out.cell (World.block_lt_of_cell? w _ hw38006_1)).trans hw38006_1), ((HB.out.cell (World.block_lt_of_cell? w _ hw38007_0)).trans hw38007_0), ((HB.out.cell (World.block_lt_of_cell? w _ hw38007_1)).trans hw38007_1), ((HB.out.cell (World.block_lt_of_cell? w _ hw38008_0)).trans hw38008_0), ((HB.out.cell (World.block_lt_of_cell? w _ hw38008_1)).trans hw38008_1)⟩ (fun hHeld => ?_); refine with_tabW papermillref40_Runs.tab10 papermillref40_Runs.bits10 (fun HT_ HW_ => ?_)
        generalize wr.drew = w11 at HO_6 HB hx38006_0 hx38006_1 hx38007_0 hx38007_1 hx38008_0 hx38008_1 hHeld ⊢
        refine pu_ 0 (some 26) HT_ ?_
        refine pu_ 1 (some 27) HT_ ?_
        refine pu_ 2 (some 28) HT_ ?_
        refine pu_ 3 (some 29) HT_ ?_
        refine pu_ 4 (some 30) HT_ ?_
        refine pu_ 6 (some 32) HT_ ?_
        refine pu_ 7 (some 33) HT_ ?_
        refine pu_ 8 (some 34) HT_ ?_
        refine pu_ 9 (some 35) HT_ ?_
        refine pu_ 11 (some 37) HT_ ?_
        refine pu_ 12 (some 38) HT_ ?_
        refine pu_ 13 (some 39) HT_ ?_
        refine pu_ 14 (some 40) HT_ ?_
        refine tk_ 5 (some 31) HT_ HW_ hHeld ?_ (hy := .inl ⟨by rfl, by rintro w' ⟨s0, s1, s2, s3, s4, s5⟩; go_simp; with_reducible rfl⟩)
        refine tk_ 10 (some 36) HT_ HW_ hHeld ?_ (hy := .inl ⟨by rfl, by rintro w' ⟨s0, s1, s2, s3, s4, s5⟩; go_simp; with_reducible rfl⟩)
        refine tk_ 15 (some 41) HT_ HW_ hHeld ?_ (hy := .inl ⟨by rfl, by rintro w' ⟨s0, s1, s2, s3, s4, s5⟩; go_simp; with_reducible rfl⟩)
        refine pu_ 16 (some 42) HT_ ?_
        refine pu_ 17 (some 43) HT_ ?_
        refine one_ (i := 18) (N := some 44) #[true, true, true, true, true, true, true, true, true, true, true, true, true, true, true, true, true, true, true, false, false] rfl rfl (one_of HT_.out (by kernel_rfl)) (by decide) (fun K hK => ?_)
        refine value_ (w1 := ?_) (v := ?_) (by rfl) rfl ?_ ?_
        rotate_left 2
        ·go_simp
         constructor
         ·rfl
         ·rfl
        refine hK.out _ _ ⟨(World.cell?_alloc_lt _ _ _ (World.block_lt_of_cell? _ _ (((HB.out.cell (World.block_lt_of_cell? w _ hw38006_0)).trans hw38006_0)))).trans (((HB.out.cell (World.block_lt_of_cell? w _ hw38006_0)).trans hw38006_0)), (World.cell?_alloc_lt _ _ _ (World.block_lt_of_cell? _ _ (((HB.out.cell (World.block_lt_of_cell? w _ hw38006_1)).trans hw38006_1)))).trans (((HB.out.cell (World.block_lt_of_cell? w _ hw38006_1)).trans hw38006_1)), (World.cell?_alloc_lt _ _ _ (World.block_lt_of_cell? _ _ (((HB.out.cell (World.block_lt_of_cell? w _ hw38007_0)).trans hw38007_0)))).trans (((HB.out.cell (World.block_lt_of_cell? w _ hw38007_0)).trans hw38007_0)), (World.cell?_alloc_lt _ _ _ (World.block_lt_of_cell? _ _ (((HB.out.cell (World.block_lt_of_cell? w _ hw38007_1)).trans hw38007_1)))).trans (((HB.out.cell (World.block_lt_of_cell? w _ hw38007_1)).trans hw38007_1)), (World.cell?_alloc_lt _ _ _ (World.block_lt_of_cell? _ _ (((HB.out.cell (World.block_lt_of_cell? w _ hw38008_0)).trans hw38008_0)))).trans (((HB.out.cell (World.block_lt_of_cell? w _ hw38008_0)).trans hw38008_0)), (World.cell?_alloc_lt _ _ _ (World.block_lt_of_cell? _ _ (((HB.out.cell (World.block_lt_of_cell? w _ hw38008_1)).trans hw38008_1)))).trans (((HB.out.cell (World.block_lt_of_cell? w _ hw38008_1)).trans hw38008_1))⟩ (fun hHeld => ?_)
        clear hK K
        refine norm_ (a' := ?_) ?_ ?_
        rotate_left
        ·show Act.put _ (some 44) _ = _
         simp only [Act.put, List.setIfInBounds_toArray, List.set_cons_zero, List.set_cons_succ, i64_w, i32_w]
         rfl
        refine one_ (i := 19) (N := some 45) #[true, true, true, true, true, true, true, true, true, true, true, true, true, true, true, true, true, true, true, true, false] rfl rfl (one_of HT_.out (by kernel_rfl)) (by decide) (fun K hK => ?_)
        refine Kd.R_append_step k44 (w0 := w) w.heap.size (by rfl) (.tmp 26) (.tmp 44) 22 44 (.agg #[(.int .i64 0), (.int .i64 0), (.bool false)]) 24 rfl Try.underlying22 info44 rfl (by decide) (by omega) u6 x6_1 (⟨(rd_T55 l0 x7_1).f0, wrap64 (((rd_T55 l0 x7_1).f1) - ((rd_T55 l0 x7_1).f0)), false⟩ : S44) [.int .i64 ((rd_T55 l0 x7_1).f0), .int .i64 (wrap64 (((rd_T55 l0 x7_1).f1) - ((rd_T55 l0 x7_1).f0))), .bool false] (fun _ => True) (fun _ => False) rfl rfl ?aP (fun _ hk => hk.elim) ?aF ?aO ?aB ?aS ?aL ?_
        (case aP => exact k44_mkM _ _ _ (⟨(rd_T55 l0 x7_1).f0, wrap64 (((rd_T55 l0 x7_1).f1) - ((rd_T55 l0 x7_1).f0)), false⟩ : S44))
        (case aB => exact (by repeat (first | exact HB.out | apply below_alloc | apply pw_below_drewN | apply below_drew1)))
        (case aF => exact (fun _ _ => trivial))
        (case aO => exact (HO_6.out))
        (case aS => exact (below_size (by repeat (first | exact HB.out | apply below_alloc | apply pw_below_drewN | apply below_drew1))))
        (case aL => have := LMc10.out; omega)
        intro v38010 w12 ho hb hg hat
        rw [← Ny38009.out] at ho
        replace HB := Aside0.mk (hb)
        have HO38011 := Aside0.mk (ho)
        clear HO_6
        clear ho hb hg hat
        refine hK.out _ _ ⟨((HB.out.cell (World.block_lt_of_cell? w _ hw38006_0)).trans hw38006_0), ((HB.out.cell (World.block_lt_of_cell? w _ hw38006_1)).trans hw38006_1), ((HB.out.cell (World.block_lt_of_cell? w _ hw38007_0)).trans hw38007_0), ((HB.out.cell (World.block_lt_of_cell? w _ hw38007_1)).trans hw38007_1), ((HB.out.cell (World.block_lt_of_cell? w _ hw38008_0)).trans hw38008_0), ((HB.out.cell (World.block_lt_of_cell? w _ hw38008_1)).trans hw38008_1)⟩ (fun hHeld => ?_)
        clear hK K
        refine norm_ (a' := ?_) ?_ ?_
        rotate_left
        ·show Act.put _ (some 45) _ = _
         simp only [Act.put, List.setIfInBounds_toArray, List.set_cons_zero, List.set_cons_succ, i64_w, i32_w]
         rfl
        refine pu_ 20 (some 6) HT_ ?_
        refine done_ (done_of HT_.out (by kernel_rfl)) ?_
        try go_wp2
        go_roundg k1
        case measure => have := HK1.out; omega
        case rel => exact ⟨(y38009), (wrap64 (x7_1 + 1)), (by first | rfl | (simp; done) | (simp [*]; done)), H', ⟨by have := HK1.out; omega⟩, ⟨HO38011.out⟩, ⟨by repeat (first | exact HB.out | apply below_alloc | apply pw_below_drewN | apply below_drew1)⟩⟩
       ·rw [if_neg c10] at H
        exact absurd H (by simp)
      ·rw [if_neg c9] at H
       exact absurd H (by simp)
     ·rw [if_neg c8] at H
      have c8b0 : decide (x7_1 < (l0.length : Int)) = false := decide_eq_false c8
      clear c8
      replace H := Option.bind_eq_some_iff.mp H
      obtain ⟨⟨t38012, t38013⟩, A130, H⟩ := H
      try dsimp only at H
      have A13 := Aside0.mk A130
      clear A130
      simp only [Option.some.injEq, Prod.mk.injEq] at H
      obtain ⟨rfl, rfl⟩ := H
      obtain ⟨Ao14, co14, eo14⟩ := Kd.R_slice HO_6.out
      subst eo14
      go_wp2_with (first | ((with_reducible refine gate_callee (f := 41) rfl ?_); refine goesL_ (some 47) rfl rfl Try.func41 (by kernel_rfl) rfl #[.slice Ao14 x6_1.length co14] rfl (by (try simp only [List.map_toArray, List.map_cons, List.map_nil]); first | done | rfl | (simp only [List.length_drop, List.length_take]; rfl)) ?_; (with_reducible refine (papermillref13_Norm.calls k1 _ _ x6_1 t38012 t38013 _ ?side1 ?side2 A13.out).mono ?_); (case side1 => exact (Kd.R_reads' HO_6.out).2.2); (case side2 => exact (Kd.R_reads' HO_6.out).2.1); rintro e w15 ⟨v38014, rfl, ho0, hb⟩; refine ⟨_, rfl, ?_⟩; have HO38015 := Aside0.mk (Kd.R_lower (Kd.R_new' ho0 (Kd.R_lt (HO_6.out))) (below_size (by repeat (first | exact HB.out | apply below_alloc | apply pw_below_drewN | apply below_drew1)))); replace HO_6 := Aside0.mk (Kd.R_elder' (HO_6.out) (Kd.R_base ho0) hb); replace HB := Aside0.mk (below_step (by repeat (first | exact HB.out | apply below_alloc | apply pw_below_drewN | apply below_drew1)) hb); (try clear hb); (try clear hb2); (try clear hk); (try clear hi); (try clear ho0)))
      go_ret2
      exact ⟨_, by first | rfl | (simp [errW_none, errW_some] <;> rfl) | (simp [*, errW_none, errW_some] <;> rfl), by exact Kd.R_mono HO38015.out (fun _ hk => trivial), by repeat (first | exact HB.out | apply below_alloc | apply pw_below_drewN | apply below_drew1)⟩
  ·replace c5 := Bool.eq_false_iff.mpr c5
   subst c5
   have H1 : (some (([] : List (S44)), 9)) = some (r1, r2) := by rw [if_neg (show ¬ (false = true) by decide)] at H; first | exact H | simpa using H
   clear H
   have H := H1
   clear H1
   simp only [Option.some.injEq, Prod.mk.injEq] at H
   obtain ⟨rfl, rfl⟩ := H
   go_enter Try.func37, Try.ntmps37
   go_wp2_with (first | ((with_reducible refine gate_callee (f := 58) rfl ?_); refine goesL_ (some 10) rfl rfl Try.func58 (by kernel_rfl) rfl #[.slice A0 l0.length c0] rfl (by (try simp only [List.map_toArray, List.map_cons, List.map_nil]); first | done | rfl | (simp only [List.length_drop, List.length_take]; rfl)) ?_; (with_reducible refine (papermillref04_Norm.calls k _ _ l0 t38001 t38002 _ ?side1 ?side2 A2.out).mono ?_); (case side1 => exact HR0.out); (case side2 => exact HC0.out); rintro e w16 ⟨v38003, rfl, ho0, hb⟩; refine ⟨_, rfl, ?_⟩; have HO38004 := Aside0.mk (Kd.R_lower ho0 (below_size (by repeat (first | exact HB.out | apply below_alloc | apply pw_below_drewN | apply below_drew1)))); replace HB := Aside0.mk (below_step (by repeat (first | exact HB.out | apply below_alloc | apply pw_below_drewN | apply below_drew1)) hb); (try clear hb); (try clear hb2); (try clear hk); (try clear hi); (try clear ho0); obtain ⟨Ao17, co17, eo17⟩ := Kd.R_slice HO38004.out; subst eo17) | ((with_reducible refine gate_callee (f := 59) rfl ?_); refine goesL_ (some 18) rfl rfl Try.func59 (by kernel_rfl) rfl #[.slice Ao17 t38001.length co17, .slice A0 l0.length c0] rfl (by (try simp only [List.map_toArray, List.map_cons, List.map_nil]); first | done | rfl | (simp only [List.length_drop, List.length_take]; rfl)) ?_; (with_reducible refine (papermillref04_Same.calls k _ _ t38001 _ _ l0 false _ ?side1 ?side2 ?side3 ?side4 A4.out).mono ?_); (case side1 => exact (Kd.R_reads' HO38004.out).2.2); (case side2 => exact (Kd.R_reads' HO38004.out).2.1); (case side3 => exact (Kd.C_below HR0.out HB.out)); (case side4 => exact HC0.out); rintro e w' ⟨rfl, ⟨nd, rfl⟩⟩; refine ⟨_, rfl, ?_⟩))
   go_ret2
   exact ⟨_, by first | rfl | (simp [errW_none, errW_some] <;> rfl) | (simp [*, errW_none, errW_some] <;> rfl), by first | exact Kd.R_nil _ _ _ _ _ | exact Kd.N_nil _ _ _ _ _ | exact Kd.V_nil _ _ _ _ _ | exact Kd.Q_nil _ _ _ _ _ | exact Kd.S_nil _ _ _ _ _, by repeat (first | exact HB.out | apply below_alloc | apply pw_below_drewN | apply below_drew1)⟩
 ·rw [if_neg c3] at H
  have c3b0 : (t38002 == 0) = false := beq_eq_false_iff_ne.mpr c3
  have c3b1 : (t38002 != 0) = true := bne_iff_ne.mpr c3
  simp only [Option.some.injEq, Prod.mk.injEq] at H
  obtain ⟨rfl, rfl⟩ := H
  go_enter Try.func37, Try.ntmps37
  go_wp2_with (first | ((with_reducible refine gate_callee (f := 58) rfl ?_); refine goesL_ (some 10) rfl rfl Try.func58 (by kernel_rfl) rfl #[.slice A0 l0.length c0] rfl (by (try simp only [List.map_toArray, List.map_cons, List.map_nil]); first | done | rfl | (simp only [List.length_drop, List.length_take]; rfl)) ?_; (with_reducible refine (papermillref04_Norm.calls k _ _ l0 t38001 t38002 _ ?side1 ?side2 A2.out).mono ?_); (case side1 => exact HR0.out); (case side2 => exact HC0.out); rintro e w18 ⟨v38003, rfl, ho0, hb⟩; refine ⟨_, rfl, ?_⟩; have HO38004 := Aside0.mk (Kd.R_lower ho0 (below_size (by repeat (first | exact HB.out | apply below_alloc | apply pw_below_drewN | apply below_drew1)))); replace HB := Aside0.mk (below_step (by repeat (first | exact HB.out | apply below_alloc | apply pw_below_drewN | apply below_drew1)) hb); (try clear hb); (try clear hb2); (try clear hk); (try clear hi); (try clear ho0)))
  go_ret2
  exact ⟨_, by first | rfl | (simp [errW_none, errW_some] <;> rfl) | (simp [*, errW_none, errW_some] <;> rfl), by first | exact Kd.R_nil _ _ _ _ _ | exact Kd.N_nil _ _ _ _ _ | exact Kd.V_nil _ _ _ _ _ | exact Kd.Q_nil _ _ _ _ _ | exact Kd.S_nil _ _ _ _ _, by repeat (first | exact HB.out | apply below_alloc | apply pw_below_drewN | apply below_drew1)⟩

end Go.Proofs.Ytalpegglbfobiaa.G

namespace Go.Proofs.Ytalpegglbfobiaa.G
open Go.RowKit Go.Proofs.YtalpegglbfobiaaW.PrintWords Go.Proofs.YtalpegglbfobiaaW.PrintLast Go.Proofs.YtalpegglbfobiaaW.PrintMore
attribute [local go_sem] max2_int min2_int max_two min_two max_three min_three max_four min_four   -- for this text's walks alone
set_option linter.unusedVariables false
set_option linter.unusedSimpArgs false

def papermillref13_Reverse.l0 : Nat → List (S44) → List (S44) → Int → Option ((List (S44)) × Int)
 | 0, _, _, _ => none
 | k + 1, x0, x5, x6 => if x6 ≥ 0 then (if 0 ≤ x6 then (if x6 < (x0.length : Int) then ((papermillref13_image.f ((rd_T44 x0 x6).f0) ((rd_T44 x0 x6).f1) ((rd_T44 x0 x6).f2) (wrap64 (((rd_T44 x0 x6).f1) - 1))).bind fun t39004 => (if ((rd_T44 x0 x6).f2 = true) then ((papermillref13_more.f k x5 t39004 ((rd_T44 x0 x6).f1) false).bind fun t39007 => (papermillref13_Reverse.l0 k x0 t39007 (wrap64 (x6 - 1)))) else ((papermillref13_more.f k x5 t39004 ((rd_T44 x0 x6).f1) (decide (((rd_T44 x0 x6).f1) > 1))).bind fun t39011 => (papermillref13_Reverse.l0 k x0 t39011 (wrap64 (x6 - 1)))))) else (none)) else (none)) else (some (x5, 0))
def papermillref13_Reverse.f (k : Nat) (l0 : List (S44)) : Option ((List (S44)) × Int) := (papermillref13_Check.f k l0).bind fun t39001 => (if t39001 = 0 then (papermillref13_Reverse.l0 k l0 ([] : List (S44)) (wrap64 ((l0.length : Int) - 1))) else (some (([] : List (S44)), t39001)))
def papermillref13_Reverse.T8 : Bool × List (List Nat × List Nat) := (true, [([], []), ([], []), ([], []), ([1, 2], [1, 2]), ([3], [3]), ([], []), ([], []), ([5, 6], [5, 6]), ([7], [7]), ([8], [8]), ([9], [9]), ([4, 10], [4, 10]), ([], []), ([], []), ([12, 13], [12, 13]), ([14], [14]), ([15], [15]), ([], []), ([], []), ([17, 18], [17, 18]), ([19], [19]), ([20], [20]), ([21], [21]), ([22, 11], [22]), ([23], [23]), ([23], [23]), ([24, 25, 23], [23, 24, 25]), ([26, 23], [23, 26]), ([27, 23], [23, 27]), ([28, 23], [23, 28]), ([23, 29], [23, 29]), ([11, 16, 30], [11, 16, 30]), ([0, 31, 23], [0, 31]), ([32, 32, 0, 1, 2, 3, 4, 5, 6, 7, 8, 9, 10, 11, 12, 13, 14, 15, 16, 17, 18, 19, 20, 21, 22, 23, 24, 25, 26, 27, 28, 29, 30, 31, 32], [0, 32])])
def papermillref13_Reverse.B8 : List Nat := [0, 0, 0, 6, 14, 0, 0, 96, 224, 480, 992, 2046, 0, 0, 12288, 28672, 61440, 0, 0, 393216, 917504, 1966080, 4063232, 8261630, 16650238, 16650238, 66981886, 134090750, 268308478, 536743934, 1073614846, 2147483646, 4294967295, 8589934591]
theorem papermillref13_Reverse.tab8 : rtab .any (opsOf Try.f38 8) = papermillref13_Reverse.T8 := by kernel_rfl
theorem papermillref13_Reverse.bits8 : waitsOk papermillref13_Reverse.T8.2 papermillref13_Reverse.B8 = true := by kernel_rfl
set_option maxHeartbeats 8000000 in
set_option maxRecDepth 100000 in
theorem papermillref13_Reverse.calls (k : Nat) (A0 : Option Addr) (c0 : Nat) (l0 : List (S44)) (r1 : List (S44)) (r2 : Int) (w : World) (hr0 : Kd.C k44 w A0 l0.length l0) (hc0 : l0.length ≤ c0) (h : papermillref13_Reverse.f k l0 = some (r1, r2)) :
  Calls Try.prog 38 #[.slice A0 l0.length c0] w fun e w' => ∃ v0_ : Value, e = .returned (.tuple #[v0_, .int .i64 r2]) ∧ Kd.R k44 44 w' w.heap.size (fun _ => True) v0_ r1 ∧ Below w.heap.size w w' := by
 have hu44 := Try.underlying44
 have HR0 := Aside0.mk hr0
 have HC0 := Aside0.mk hc0
 clear hr0 hc0
 have HB := Aside0.mk (Below.refl w.heap.size w)
 have H : ((papermillref13_Check.f k l0).bind fun t39001 => (if t39001 = 0 then (papermillref13_Reverse.l0 k l0 ([] : List (S44)) (wrap64 ((l0.length : Int) - 1))) else (some (([] : List (S44)), t39001)))) = some (r1, r2) := h
 clear h
 replace H := Option.bind_eq_some_iff.mp H
 obtain ⟨t39001, A20, H⟩ := H
 have A2 := Aside0.mk A20
 clear A20
 by_cases c3 : t39001 = 0
 ·rw [if_pos c3] at H
  have c3b0 : (t39001 == 0) = true := beq_iff_eq.mpr c3
  have c3b1 : (t39001 != 0) = false := bne_eq_false_iff_eq.mpr c3
  clear c3
  have H' := Aside0.mk H
  clear H
  go_enter Try.func38, Try.ntmps38
  go_wp2_with (first | ((with_reducible refine gate_callee (f := 25) rfl ?_); refine goesL_ (some 8) rfl rfl Try.func25 (by kernel_rfl) rfl #[.slice A0 l0.length c0] rfl (by (try simp only [List.map_toArray, List.map_cons, List.map_nil]); first | done | rfl | (simp only [List.length_drop, List.length_take]; rfl)) ?_; (with_reducible refine (papermillref13_Check.calls k _ _ l0 t39001 _ ?side1 ?side2 A2.out).mono ?_); (case side1 => exact HR0.out); (case side2 => exact HC0.out); rintro e w4 ⟨rfl, hb⟩; refine ⟨_, rfl, ?_⟩; replace HB := Aside0.mk (below_step (by repeat (first | exact HB.out | apply below_alloc | apply pw_below_drewN | apply below_drew1)) hb); (try clear hb); (try clear hb2); (try clear hk); (try clear hi)))
  go_loopg [5, 6] k (fun kq v5 v6 w' => ∃ (x5_1 : List (S44)) (x6_1 : Int), v6 = .int .i64 x6_1 ∧ Aside0 (papermillref13_Reverse.l0 kq l0 x5_1 x6_1 = some (r1, r2)) ∧ Aside0 (kq ≤ k) ∧ Aside0 (Kd.R k44 44 w' w.heap.size (fun _ => True) v5 x5_1) ∧ Aside0 (Below w.heap.size w w'))
  case atStart => exact ⟨(([] : List (S44))), (wrap64 ((l0.length : Int) - 1)), (by first | rfl | (simp; done) | (simp [*]; done)), H', ⟨Nat.le_refl _⟩, ⟨by first | exact Kd.R_nil _ _ _ _ _ | exact Kd.N_nil _ _ _ _ _ | exact Kd.V_nil _ _ _ _ _ | exact Kd.Q_nil _ _ _ _ _ | exact Kd.S_nil _ _ _ _ _⟩, ⟨by repeat (first | exact HB.out | apply below_alloc | apply pw_below_drewN | apply below_drew1)⟩⟩
  case round =>
   clear H'
   try clear c2
   try clear p2
   try clear c3
   try clear c3b0
   try clear c3b1
   obtain ⟨x5_1, x6_1, rfl, HA, HK1, HO_5, HB⟩ := hrel
   cases gk with
   | zero => exact absurd HA.out (by simp [papermillref13_Reverse.l0])
   | succ k1 =>
    have H := HA.out
    clear HA
    simp only [papermillref13_Reverse.l0] at H
    by_cases c5 : x6_1 ≥ 0
    ·rw [if_pos c5] at H
     have c5b0 : decide (0 ≤ x6_1) = true := decide_eq_true c5
     clear c5
     by_cases c6 : 0 ≤ x6_1
     ·rw [if_pos c6] at H
      have c6b0 : decide (0 ≤ x6_1) = true := decide_eq_true c6
      clear c6
      by_cases c7 : x6_1 < (l0.length : Int)
      ·rw [if_pos c7] at H
       have c7b0 : decide (x6_1 < (l0.length : Int)) = true := decide_eq_true c7
       clear c7
       replace H := Option.bind_eq_some_iff.mp H
       obtain ⟨t39004, A80, H⟩ := H
       have A8 := Aside0.mk A80
       clear A80
       obtain ⟨bq9, hbq9⟩ : ∃ b_ : Bool, b_ = ((rd_T44 l0 x6_1).f2) := ⟨_, rfl⟩
       replace H : (if (bq9 = true) then ((papermillref13_more.f k1 x5_1 t39004 ((rd_T44 l0 x6_1).f1) false).bind fun t39007 => (papermillref13_Reverse.l0 k1 l0 t39007 (wrap64 (x6_1 - 1)))) else ((papermillref13_more.f k1 x5_1 t39004 ((rd_T44 l0 x6_1).f1) (decide (((rd_T44 l0 x6_1).f1) > 1))).bind fun t39011 => (papermillref13_Reverse.l0 k1 l0 t39011 (wrap64 (x6_1 - 1))))) = some (r1, r2) := by rw [← hbq9] at H; exact H
       (try rw [← hbq9] at A8)
       have Nbq9 := Aside0.mk hbq9
       clear hbq9
       by_cases c10 : (bq9 = true)
       ·subst c10
        rw [if_pos rfl] at H
        replace H := Option.bind_eq_some_iff.mp H
        obtain ⟨t39007, A110, H⟩ := H
        have A11 := Aside0.mk A110
        clear A110
        have H' := Aside0.mk H
        clear H
        try go_wp2
        replace HO_5 := Aside0.mk (Kd.R_drew HO_5.out)
        replace HB := Aside0.mk (below_drew1 HB.out)
        have p39002 : 0 ≤ (x6_1 : Int) := of_decide_eq_true (by assumption)
        have q39002 : x6_1 < (l0.length : Int) := of_decide_eq_true (by assumption)
        obtain ⟨ad39002, e39002, hx39002_0, hx39002_1, hx39002_2⟩ := at_T44 HR0.out x6_1 p39002 q39002
        have hw39002_2 := hx39002_2
        have hw39002_1 := hx39002_1
        have hw39002_0 := hx39002_0
        (try rw [← Nbq9.out] at hx39002_2)
        (try rw [← Nbq9.out] at hw39002_2)
        cases e39002
        replace hx39002_0 := (HB.out.cell (World.block_lt_of_cell? w _ hx39002_0)).trans hx39002_0
        replace hx39002_1 := (HB.out.cell (World.block_lt_of_cell? w _ hx39002_1)).trans hx39002_1
        replace hx39002_2 := (HB.out.cell (World.block_lt_of_cell? w _ hx39002_2)).trans hx39002_2
        replace p39002 := eq_true p39002
        replace q39002 := eq_true q39002
        have p39003 : 0 ≤ (x6_1 : Int) := of_decide_eq_true (by assumption)
        have q39003 : x6_1 < (l0.length : Int) := of_decide_eq_true (by assumption)
        obtain ⟨ad39003, e39003, hx39003_0, hx39003_1, hx39003_2⟩ := at_T44 HR0.out x6_1 p39003 q39003
        have hw39003_2 := hx39003_2
        have hw39003_1 := hx39003_1
        have hw39003_0 := hx39003_0
        (try rw [← Nbq9.out] at hx39003_2)
        (try rw [← Nbq9.out] at hw39003_2)
        obtain rfl : ad39002 = ad39003 := (by injection e39003)
        replace hx39003_0 := (HB.out.cell (World.block_lt_of_cell? w _ hx39003_0)).trans hx39003_0
        replace hx39003_1 := (HB.out.cell (World.block_lt_of_cell? w _ hx39003_1)).trans hx39003_1
        replace hx39003_2 := (HB.out.cell (World.block_lt_of_cell? w _ hx39003_2)).trans hx39003_2
        replace p39003 := eq_true p39003
        replace q39003 := eq_true q39003
        have p39005 : 0 ≤ (x6_1 : Int) := of_decide_eq_true (by assumption)
        have q39005 : x6_1 < (l0.length : Int) := of_decide_eq_true (by assumption)
        obtain ⟨ad39005, e39005, hx39005_0, hx39005_1, hx39005_2⟩ := at_T44 HR0.out x6_1 p39005 q39005
        have hw39005_2 := hx39005_2
        have hw39005_1 := hx39005_1
        have hw39005_0 := hx39005_0
        (try rw [← Nbq9.out] at hx39005_2)
        (try rw [← Nbq9.out] at hw39005_2)
        obtain rfl : ad39002 = ad39005 := (by injection e39005)
        replace hx39005_0 := (HB.out.cell (World.block_lt_of_cell? w _ hx39005_0)).trans hx39005_0
        replace hx39005_1 := (HB.out.cell (World.block_lt_of_cell? w _ hx39005_1)).trans hx39005_1
        replace hx39005_2 := (HB.out.cell (World.block_lt_of_cell? w _ hx39005_2)).trans hx39005_2
        replace p39005 := eq_true p39005
        replace q39005 := eq_true q39005
        have p39006 : 0 ≤ (x6_1 : Int) := of_decide_eq_true (by assumption)
        have q39006 : x6_1 < (l0.length : Int) := of_decide_eq_true (by assumption)
        obtain ⟨ad39006, e39006, hx39006_0, hx39006_1, hx39006_2⟩ := at_T44 HR0.out x6_1 p39006 q39006
        have hw39006_2 := hx39006_2
        have hw39006_1 := hx39006_1
        have hw39006_0 := hx39006_0
        (try rw [← Nbq9.out] at hx39006_2)
        (try rw [← Nbq9.out] at hw39006_2)
        obtain rfl : ad39002 = ad39006 := (by injection e39006)
        replace hx39006_0 := (HB.out.cell (World.block_lt_of_cell? w _ hx39006_0)).trans hx39006_0
        replace hx39006_1 := (HB.out.cell (World.block_lt_of_cell? w _ hx39006_1)).trans hx39006_1
        replace hx39006_2 := (HB.out.cell (World.block_lt_of_cell? w _ hx39006_2)).trans hx39006_2
        replace p39006 := eq_true p39006
        replace q39006 := eq_true q39006
        refine start_ (n := 34) (S := fun w' => w'.cell? (ad39002.add ((x6_1).toNat * 3)) = some (.int .i64 ((rd_T44 l0 x6_1).f0)) ∧ w'.cell? ⟨(ad39002.add ((x6_1).toNat * 3)).block, (ad39002.add ((x6_1).toNat * 3)).off + 1, none⟩ = some (.int .i64 ((rd_T44 l0 x6_1).f1)) ∧ w'.cell? ⟨(ad39002.add ((x6_1).toNat * 3)).block, (ad39002.add ((x6_1).toNat * 3)).off + 2, none⟩ = some (.bool true) ∧ w'.cell? (ad39002.add ((x6_1).toNat * 3)) = some (.int .i64 ((rd_T44 l0 x6_1).f0)) ∧ w'.cell? ⟨(ad39002.add ((x6_1).toNat * 3)).block, (ad39002.add ((x6_1).toNat * 3)).off + 1, none⟩ = some (.int .i64 ((rd_T44 l0 x6_1).f1)) ∧ w'.cell? ⟨(ad39002.add ((x6_1).toNat * 3)).block, (ad39002.add ((x6_1).toNat * 3)).off + 2, none⟩ = some (.bool true) ∧ w'.cell? (ad39002.add ((x6_1).toNat * 3)) = some (.int .i64 ((rd_T44 l0 x6_1).f0)) ∧ w'.cell? ⟨(ad39002.add ((x6_1).toNat * 3)).block, (ad39002.add ((x6_1).toNat * 3)).off + 1, none⟩ = some (.int .i64 ((rd_T44 l0 x6_1).f1)) ∧ w'.cell? ⟨(ad39002.add ((x6_1).toNat * 3)).block, (ad39002.add ((x6_1).toNat * 3)).off + 2, none⟩ = some (.bool true) ∧ w'.cell? (ad39002.add ((x6_1).toNat * 3)) = some (.int .i64 ((rd_T44 l0 x6_1).f0)) ∧ w'.cell? ⟨(ad39002.add ((x6_1).toNat * 3)).block, (ad39002.add ((x6_1).toNat * 3)).off + 1, none⟩ = some (.int .i64 ((rd_T44 l0 x6_1).f1)) ∧ w'.cell? ⟨(ad39002.add ((x6_1).toNat * 3)).block, (ad39002.add ((x6_1).toNat * 3)).off + 2, none⟩ = some (.bool true)) (ds := []) #[false, false, false, false, false, false, false, false, false, false, false, false, false, false, false, false, false, false, false, false, false, false, false, false, false, false, false, false, false, false, false, false, false, false] (by kernel_rfl) rfl rfl ⟨((HB.out.cell (World.block_lt_of_cell? w _ hw39002_0)).trans hw39002_0), ((HB.out.cell (World.block_lt_of_cell? w _ hw39002_1)).trans hw39002_1), ((HB.out.cell (World.block_lt_of_cell? w _ hw39002_2)).trans hw39002_2), ((HB.out.cell (World.block_lt_of_cell? w _ hw39003_0)).trans hw39003_0), ((HB.out.cell (World.block_lt_of_cell? w _ hw39003_1)).trans hw39003_1), ((HB.out.cell (World.block_lt_of_cell? w _ hw39003_2)).trans hw39003_2), ((HB.out.cell (World.block_lt_of_cell? w _ hw39005_0)).trans hw39005_0), ((HB.out.cell (World.block_lt_of_cell? w _ hw39005_1)).trans hw39005_1), ((HB.out.cell (World.block_lt_of_cell? w _ hw39005_2)).trans hw39005_2), ((HB.out.cell (World.block_lt_of_cell? w _ hw39006_0)).trans hw39006_0), ((HB.out.cell (World.block_lt_of_cell? w _ hw39006_1)).trans hw39006_1), ((HB.out.cell (World.block_lt_of_cell? w _ hw39006_2)).trans hw39006_2)⟩ (fun hHeld => ?_); refine with_tabW papermillref13_Reverse.tab8 papermillref13_Reverse.bits8 (fun HT_ HW_ => ?_)
        generalize wr.drew = w12 at HO_5 HB hx39002_0 hx39002_1 hx39002_2 hx39003_0 hx39003_1 hx39003_2 hx39005_0 hx39005_1 hx39005_2 hx39006_0 hx39006_1 hx39006_2 hHeld ⊢
        refine pu_ 0 (some 19) HT_ ?_
        refine pu_ 1 (some 20) HT_ ?_
        refine pu_ 2 (some 21) HT_ ?_
        refine pu_ 3 (some 22) HT_ ?_
        refine pu_ 5 (some 24) HT_ ?_
        refine pu_ 6 (some 25) HT_ ?_
        refine pu_ 7 (some 26) HT_ ?_
        refine pu_ 8 (some 27) HT_ ?_
        refine pu_ 12 (some 31) HT_ ?_
        refine pu_ 13 (some 32) HT_ ?_
        refine pu_ 14 (some 33) HT_ ?_
        refine pu_ 15 (some 34) HT_ ?_
        refine pu_ 17 (some 36) HT_ ?_
        refine pu_ 18 (some 37) HT_ ?_
        refine pu_ 19 (some 38) HT_ ?_
        refine pu_ 20 (some 39) HT_ ?_
        refine tk_ 4 (some 23) HT_ HW_ hHeld ?_ (hy := .inl ⟨by rfl, by rintro w' ⟨s0, s1, s2, s3, s4, s5, s6, s7, s8, s9, s10, s11⟩; go_simp; with_reducible rfl⟩)
        refine tk_ 9 (some 28) HT_ HW_ hHeld ?_ (hy := .inl ⟨by rfl, by rintro w' ⟨s0, s1, s2, s3, s4, s5, s6, s7, s8, s9, s10, s11⟩; go_simp; with_reducible rfl⟩)
        refine pu_ 10 (some 29) HT_ ?_
        refine tk_ 16 (some 35) HT_ HW_ hHeld ?_ (hy := .inl ⟨by rfl, by rintro w' ⟨s0, s1, s2, s3, s4, s5, s6, s7, s8, s9, s10, s11⟩; go_simp; with_reducible rfl⟩)
        refine tk_ 21 (some 40) HT_ HW_ hHeld ?_ (hy := .inl ⟨by rfl, by rintro w' ⟨s0, s1, s2, s3, s4, s5, s6, s7, s8, s9, s10, s11⟩; go_simp; with_reducible rfl⟩)
        refine pu_ 22 (some 41) HT_ ?_
        refine one_ (i := 11) (N := some 30) #[true, true, true, true, true, true, true, true, true, true, true, true, true, true, true, true, true, true, true, true, true, true, true, false, false, false, false, false, false, false, false, false, false, false] rfl rfl (one_of HT_.out (by kernel_rfl)) (by decide) (fun K hK => ?_)
        refine goes_ Try.func48 (by kernel_rfl) rfl #[.agg #[.int .i64 ((rd_T44 l0 x6_1).f0), .int .i64 ((rd_T44 l0 x6_1).f1), .bool true], .int .i64 (wrap64 (((rd_T44 l0 x6_1).f1) - 1))] (by rfl) rfl rfl (by (try simp only [List.map_toArray, List.map_cons, List.map_nil]); first | done | rfl | (simp only [List.length_drop, List.length_take]; rfl)) ?_
        with_reducible refine (papermillref13_image.calls ((rd_T44 l0 x6_1).f0) ((rd_T44 l0 x6_1).f1) true (wrap64 (((rd_T44 l0 x6_1).f1) - 1)) t39004 _ A8.out).mono ?_
        rintro e w13 ⟨rfl, hb⟩
        refine ⟨_, rfl, ?_⟩
        replace HO_5 := Aside0.mk (Kd.R_below (HO_5.out) hb)
        replace HB := Aside0.mk (below_step (by repeat (first | exact HB.out | apply below_alloc | apply pw_below_drewN | apply below_drew1)) hb)
        (try clear hb)
        (try clear hb2)
        (try clear hk)
        (try clear hi)
        obtain ⟨Ao14, co14, eo14⟩ := Kd.R_slice HO_5.out
        (first | subst eo14 | (injection eo14 with f1_ f2_ f3_; have f4_ := f1_.symm; have f5_ := f3_.symm; clear f1_ f2_ f3_; subst f4_; subst f5_))
        refine hK.out _ _ ⟨((HB.out.cell (World.block_lt_of_cell? w _ hw39002_0)).trans hw39002_0), ((HB.out.cell (World.block_lt_of_cell? w _ hw39002_1)).trans hw39002_1), ((HB.out.cell (World.block_lt_of_cell? w _ hw39002_2)).trans hw39002_2), ((HB.out.cell (World.block_lt_of_cell? w _ hw39003_0)).trans hw39003_0), ((HB.out.cell (World.block_lt_of_cell? w _ hw39003_1)).trans hw39003_1), ((HB.out.cell (World.block_lt_of_cell? w _ hw39003_2)).trans hw39003_2), ((HB.out.cell (World.block_lt_of_cell? w _ hw39005_0)).trans hw39005_0), ((HB.out.cell (World.block_lt_of_cell? w _ hw39005_1)).trans hw39005_1), ((HB.out.cell (World.block_lt_of_cell? w _ hw39005_2)).trans hw39005_2), ((HB.out.cell (World.block_lt_of_cell? w _ hw39006_0)).trans hw39006_0), ((HB.out.cell (World.block_lt_of_cell? w _ hw39006_1)).trans hw39006_1), ((HB.out.cell (World.block_lt_of_cell? w _ hw39006_2)).trans hw39006_2)⟩ (fun hHeld => ?_)
        clear hK K
        refine norm_ (a' := ?_) ?_ ?_
        rotate_left
        ·show Act.put _ (some 30) _ = _
         simp only [Act.put, List.setIfInBounds_toArray, List.set_cons_zero, List.set_cons_succ, i64_w, i32_w]
         rfl
        refine pu_ 23 (some 42) HT_ ?_
        refine pn_ 24 (some 43) HT_ ?_
        refine pn_ 25 (some 44) HT_ ?_
        refine pn_ 26 (some 45) HT_ ?_
        refine pn_ 27 (some 46) HT_ ?_
        refine pn_ 28 (some 47) HT_ ?_
        refine pn_ 29 (some 48) HT_ ?_
        refine pu_ 30 (some 49) HT_ ?_
        refine pu_ 31 (some 50) HT_ ?_
        refine one_ (i := 32) (N := some 51) #[true, true, true, true, true, true, true, true, true, true, true, true, true, true, true, true, true, true, true, true, true, true, true, true, true, true, true, true, true, true, true, true, true, false] rfl rfl (one_of HT_.out (by kernel_rfl)) (by decide) (fun K hK => ?_)
        refine goes_ Try.func60 (by kernel_rfl) rfl #[.slice Ao14 x5_1.length co14, .agg #[.int .i64 t39004, .int .i64 ((rd_T44 l0 x6_1).f1), .bool false]] (by rfl) rfl rfl (by (try simp only [List.map_toArray, List.map_cons, List.map_nil]); first | done | rfl | (simp only [List.length_drop, List.length_take]; rfl)) ?_
        with_reducible refine (papermillref13_more.calls k1 _ _ x5_1 t39004 ((rd_T44 l0 x6_1).f1) false t39007 _ ?side1 ?side2 A11.out).mono ?_
        (case side1 => exact (Kd.R_reads' HO_5.out).2.2)
        (case side2 => exact (Kd.R_reads' HO_5.out).2.1)
        rintro e w15 ⟨v39008, rfl, ho0, hb⟩
        refine ⟨_, rfl, ?_⟩
        have HO39009 := Aside0.mk (Kd.R_lower (Kd.R_new' ho0 (Kd.R_lt (HO_5.out))) (below_size (by repeat (first | exact HB.out | apply below_alloc | apply pw_below_drewN | apply below_drew1))))
        replace HO_5 := Aside0.mk (Kd.R_elder' (HO_5.out) (Kd.R_base ho0) hb)
        replace HB := Aside0.mk (below_step (by repeat (first | exact HB.out | apply below_alloc | apply pw_below_drewN | apply below_drew1)) hb)
        (try clear hb)
        (try clear hb2)
        (try clear hk)
        (try clear hi)
        (try clear ho0)
        refine hK.out _ _ ⟨((HB.out.cell (World.block_lt_of_cell? w _ hw39002_0)).trans hw39002_0), ((HB.out.cell (World.block_lt_of_cell? w _ hw39002_1)).trans hw39002_1), ((HB.out.cell (World.block_lt_of_cell? w _ hw39002_2)).trans hw39002_2), ((HB.out.cell (World.block_lt_of_cell? w _ hw39003_0)).trans hw39003_0), ((HB.out.cell (World.block_lt_of_cell? w _ hw39003_1)).trans hw39003_1), ((HB.out.cell (World.block_lt_of_cell? w _ hw39003_2)).trans hw39003_2), ((HB.out.cell (World.block_lt_of_cell? w _ hw39005_0)).trans hw39005_0), ((HB.out.cell (World.block_lt_of_cell? w _ hw39005_1)).trans hw39005_1), ((HB.out.cell (World.block_lt_of_cell? w _ hw39005_2)).trans hw39005_2), ((HB.out.cell (World.block_lt_of_cell? w _ hw39006_0)).trans hw39006_0), ((HB.out.cell (World.block_lt_of_cell? w _ hw39006_1)).trans hw39006_1), ((HB.out.cell (World.block_lt_of_cell? w _ hw39006_2)).trans hw39006_2)⟩ (fun hHeld => ?_)
        clear hK K
        refine norm_ (a' := ?_) ?_ ?_
        rotate_left
        ·show Act.put _ (some 51) _ = _
         simp only [Act.put, List.setIfInBounds_toArray, List.set_cons_zero, List.set_cons_succ, i64_w, i32_w]
         rfl
        refine pu_ 33 (some 5) HT_ ?_
        refine done_ (done_of HT_.out (by kernel_rfl)) ?_
        try go_wp2
        go_roundg k1
        case measure => have := HK1.out; omega
        case rel => exact ⟨(t39007), (wrap64 (x6_1 - 1)), (by first | rfl | (simp; done) | (simp [*]; done)), H', ⟨by have := HK1.out; omega⟩, ⟨by exact Kd.R_mono HO39009.out (fun _ hk => trivial)⟩, ⟨by repeat (first | exact HB.out | apply below_alloc | apply pw_below_drewN | apply below_drew1)⟩⟩
       ·replace c10 := Bool.eq_false_iff.mpr c10
        subst c10
        have H1 : ((papermillref13_more.f k1 x5_1 t39004 ((rd_T44 l0 x6_1).f1) (decide (((rd_T44 l0 x6_1).f1) > 1))).bind fun t39011 => (papermillref13_Reverse.l0 k1 l0 t39011 (wrap64 (x6_1 - 1)))) = some (r1, r2) := by rw [if_neg (show ¬ (false = true) by decide)] at H; first | exact H | simpa using H
        clear H
        have H := H1
        clear H1
        replace H := Option.bind_eq_some_iff.mp H
        obtain ⟨t39011, A160, H⟩ := H
        have A16 := Aside0.mk A160
        clear A160
        have H' := Aside0.mk H
        clear H
        try go_wp2
        replace HO_5 := Aside0.mk (Kd.R_drew HO_5.out)
        replace HB := Aside0.mk (below_drew1 HB.out)
        have p39002 : 0 ≤ (x6_1 : Int) := of_decide_eq_true (by assumption)
        have q39002 : x6_1 < (l0.length : Int) := of_decide_eq_true (by assumption)
        obtain ⟨ad39002, e39002, hx39002_0, hx39002_1, hx39002_2⟩ := at_T44 HR0.out x6_1 p39002 q39002
        have hw39002_2 := hx39002_2
        have hw39002_1 := hx39002_1
        have hw39002_0 := hx39002_0
        (try rw [← Nbq9.out] at hx39002_2)
        (try rw [← Nbq9.out] at hw39002_2)
        cases e39002
        replace hx39002_0 := (HB.out.cell (World.block_lt_of_cell? w _ hx39002_0)).trans hx39002_0
        replace hx39002_1 := (HB.out.cell (World.block_lt_of_cell? w _ hx39002_1)).trans hx39002_1
        replace hx39002_2 := (HB.out.cell (World.block_lt_of_cell? w _ hx39002_2)).trans hx39002_2
        replace p39002 := eq_true p39002
        replace q39002 := eq_true q39002
        have p39003 : 0 ≤ (x6_1 : Int) := of_decide_eq_true (by assumption)
        have q39003 : x6_1 < (l0.length : Int) := of_decide_eq_true (by assumption)
        obtain ⟨ad39003, e39003, hx39003_0, hx39003_1, hx39003_2⟩ := at_T44 HR0.out x6_1 p39003 q39003
        have hw39003_2 := hx39003_2
        have hw39003_1 := hx39003_1
        have hw39003_0 := hx39003_0
        (try rw [← Nbq9.out] at hx39003_2)
        (try rw [← Nbq9.out] at hw39003_2)
        obtain rfl : ad39002 = ad39003 := (by injection e39003)
        replace hx39003_0 := (HB.out.cell (World.block_lt_of_cell? w _ hx39003_0)).trans hx39003_0
        replace hx39003_1 := (HB.out.cell (World.block_lt_of_cell? w _ hx39003_1)).trans hx39003_1
        replace hx39003_2 := (HB.out.cell (World.block_lt_of_cell? w _ hx39003_2)).trans hx39003_2
        replace p39003 := eq_true p39003
        replace q39003 := eq_true q39003
        have p39005 : 0 ≤ (x6_1 : Int) := of_decide_eq_true (by assumption)
        have q39005 : x6_1 < (l0.length : Int) := of_decide_eq_true (by assumption)
        obtain ⟨ad39005, e39005, hx39005_0, hx39005_1, hx39005_2⟩ := at_T44 HR0.out x6_1 p39005 q39005
        have hw39005_2 := hx39005_2
        have hw39005_1 := hx39005_1
        have hw39005_0 := hx39005_0
        (try rw [← Nbq9.out] at hx39005_2)
        (try rw [← Nbq9.out] at hw39005_2)
        obtain rfl : ad39002 = ad39005 := (by injection e39005)
        replace hx39005_0 := (HB.out.cell (World.block_lt_of_cell? w _ hx39005_0)).trans hx39005_0
        replace hx39005_1 := (HB.out.cell (World.block_lt_of_cell? w _ hx39005_1)).trans hx39005_1
        replace hx39005_2 := (HB.out.cell (World.block_lt_of_cell? w _ hx39005_2)).trans hx39005_2
        replace p39005 := eq_true p39005
        replace q39005 := eq_true q39005
        have p39006 : 0 ≤ (x6_1 : Int) := of_decide_eq_true (by assumption)
        have q39006 : x6_1 < (l0.length : Int) := of_decide_eq_true (by assumption)
        obtain ⟨ad39006, e39006, hx39006_0, hx39006_1, hx39006_2⟩ := at_T44 HR0.out x6_1 p39006 q39006
        have hw39006_2 := hx39006_2
        have hw39006_1 := hx39006_1
        have hw39006_0 := hx39006_0
        (try rw [← Nbq9.out] at hx39006_2)
        (try rw [← Nbq9.out] at hw39006_2)
        obtain rfl : ad39002 = ad39006 := (by injection e39006)
        replace hx39006_0 := (HB.out.cell (World.block_lt_of_cell? w _ hx39006_0)).trans hx39006_0
        replace hx39006_1 := (HB.out.cell (World.block_lt_of_cell? w _ hx39006_1)).trans hx39006_1
        replace hx39006_2 := (HB.out.cell (World.block_lt_of_cell? w _ hx39006_2)).trans hx39006_2
        replace p39006 := eq_true p39006
        replace q39006 := eq_true q39006
        have p39010 : 0 ≤ (x6_1 : Int) := of_decide_eq_true (by assumption)
        have q39010 : x6_1 < (l0.length : Int) := of_decide_eq_true (by assumption)
        obtain ⟨ad39010, e39010, hx39010_0, hx39010_1, hx39010_2⟩ := at_T44 HR0.out x6_1 p39010 q39010
        have hw39010_2 := hx39010_2
        have hw39010_1 := hx39010_1
        have hw39010_0 := hx39010_0
        (try rw [← Nbq9.out] at hx39010_2)
        (try rw [← Nbq9.out] at hw39010_2)
        obtain rfl : ad39002 = ad39010 := (by injection e39010)
        replace hx39010_0 := (HB.out.cell (World.block_lt_of_cell? w _ hx39010_0)).trans hx39010_0
        replace hx39010_1 := (HB.out.cell (World.block_lt_of_cell? w _ hx39010_1)).trans hx39010_1
        replace hx39010_2 := (HB.out.cell (World.block_lt_of_cell? w _ hx39010_2)).trans hx39010_2
        replace p39010 := eq_true p39010
        replace q39010 := eq_true q39010
        refine start_ (n := 34) (S := fun w' => w'.cell? (ad39002.add ((x6_1).toNat * 3)) = some (.int .i64 ((rd_T44 l0 x6_1).f0)) ∧ w'.cell? ⟨(ad39002.add ((x6_1).toNat * 3)).block, (ad39002.add ((x6_1).toNat * 3)).off + 1, none⟩ = some (.int .i64 ((rd_T44 l0 x6_1).f1)) ∧ w'.cell? ⟨(ad39002.add ((x6_1).toNat * 3)).block, (ad39002.add ((x6_1).toNat * 3)).off + 2, none⟩ = some (.bool false) ∧ w'.cell? (ad39002.add ((x6_1).toNat * 3)) = some (.int .i64 ((rd_T44 l0 x6_1).f0)) ∧ w'.cell? ⟨(ad39002.add ((x6_1).toNat * 3)).block, (ad39002.add ((x6_1).toNat * 3)).off + 1, none⟩ = some (.int .i64 ((rd_T44 l0 x6_1).f1)) ∧ w'.cell? ⟨(ad39002.add ((x6_1).toNat * 3)).block, (ad39002.add ((x6_1).toNat * 3)).off + 2, none⟩ = some (.bool false) ∧ w'.cell? (ad39002.add ((x6_1).toNat * 3)) = some (.int .i64 ((rd_T44 l0 x6_1).f0)) ∧ w'.cell? ⟨(ad39002.add ((x6_1).toNat * 3)).block, (ad39002.add ((x6_1).toNat * 3)).off + 1, none⟩ = some (.int .i64 ((rd_T44 l0 x6_1).f1)) ∧ w'.cell? ⟨(ad39002.add ((x6_1).toNat * 3)).block, (ad39002.add ((x6_1).toNat * 3)).off + 2, none⟩ = some (.bool false) ∧ w'.cell? (ad39002.add ((x6_1).toNat * 3)) = some (.int .i64 ((rd_T44 l0 x6_1).f0)) ∧ w'.cell? ⟨(ad39002.add ((x6_1).toNat * 3)).block, (ad39002.add ((x6_1).toNat * 3)).off + 1, none⟩ = some (.int .i64 ((rd_T44 l0 x6_1).f1)) ∧ w'.cell? ⟨(ad39002.add ((x6_1).toNat * 3)).block, (ad39002.add ((x6_1).toNat * 3)).off + 2, none⟩ = some (.bool false) ∧ w'.cell? (ad39002.add ((x6_1).toNat * 3)) = some (.int .i64 ((rd_T44 l0 x6_1).f0)) ∧ w'.cell? ⟨(ad39002.add ((x6_1).toNat * 3)).block, (ad39002.add ((x6_1).toNat * 3)).off + 1, none⟩ = some (.int .i64 ((rd_T44 l0 x6_1).f1)) ∧ w'.cell? ⟨(ad39002.add ((x6_1).toNat * 3)).block, (ad39002.add ((x6_1).toNat * 3)).off + 2, none⟩ = some (.bool (false))) (ds := []) #[false, false, false, false, false, false, false, false, false, false, false, false, false, false, false, false, false, false, false, false, false, false, false, false, false, false, false, false, false, false, false, false, false, false] (by kernel_rfl) rfl rfl ⟨((HB.out.cell (World.block_lt_of_cell? w _ hw39002_0)).trans hw39002_0), ((HB.out.cell (World.block_lt_of_cell? w _ hw39002_1)).trans hw39002_1), ((HB.out.cell (World.block_lt_of_cell? w _ hw39002_2)).trans hw39002_2), ((HB.out.cell (World.block_lt_of_cell? w _ hw39003_0)).trans hw39003_0), ((HB.out.cell (World.block_lt_of_cell? w _ hw39003_1)).trans hw39003_1), ((HB.out.cell (World.block_lt_of_cell? w _ hw39003_2)).trans hw39003_2), ((HB.out.cell (World.block_lt_of_cell? w _ hw39005_0)).trans hw39005_0), ((HB.out.cell (World.block_lt_of_cell? w _ hw39005_1)).trans hw39005_1), ((HB.out.cell (World.block_lt_of_cell? w _ hw39005_2)).trans hw39005_2), ((HB.out.cell (World.block_lt_of_cell? w _ hw39006_0)).trans hw39006_0), ((HB.out.cell (World.block_lt_of_cell? w _ hw39006_1)).trans hw39006_1), ((HB.out.cell (World.block_lt_of_cell? w _ hw39006_2)).trans hw39006_2), ((HB.out.cell (World.block_lt_of_cell? w _ hw39010_0)).trans hw39010_0), ((HB.out.cell (World.block_lt_of_cell? w _ hw39010_1)).trans hw39010_1), ((HB.out.cell (World.block_lt_of_cell? w _ hw39010_2)).trans hw39010_2)⟩ (fun hHeld => ?_); refine with_tabW papermillref13_Reverse.tab8 papermillref13_Reverse.bits8 (fun HT_ HW_ => ?_)
        generalize wr.drew = w17 at HO_5 HB hx39002_0 hx39002_1 hx39002_2 hx39003_0 hx39003_1 hx39003_2 hx39005_0 hx39005_1 hx39005_2 hx39006_0 hx39006_1 hx39006_2 hx39010_0 hx39010_1 hx39010_2 hHeld ⊢
        refine pu_ 0 (some 19) HT_ ?_
        refine pu_ 1 (some 20) HT_ ?_
        refine pu_ 2 (some 21) HT_ ?_
        refine pu_ 3 (some 22) HT_ ?_
        refine pu_ 5 (some 24) HT_ ?_
        refine pu_ 6 (some 25) HT_ ?_
        refine pu_ 7 (some 26) HT_ ?_
        refine pu_ 8 (some 27) HT_ ?_
        refine pu_ 12 (some 31) HT_ ?_
        refine pu_ 13 (some 32) HT_ ?_
        refine pu_ 14 (some 33) HT_ ?_
        refine pu_ 15 (some 34) HT_ ?_
        refine pu_ 17 (some 36) HT_ ?_
        refine pu_ 18 (some 37) HT_ ?_
        refine pu_ 19 (some 38) HT_ ?_
        refine pu_ 20 (some 39) HT_ ?_
        refine tk_ 4 (some 23) HT_ HW_ hHeld ?_ (hy := .inl ⟨by rfl, by rintro w' ⟨s0, s1, s2, s3, s4, s5, s6, s7, s8, s9, s10, s11, s12, s13, s14⟩; go_simp; with_reducible rfl⟩)
        refine tk_ 9 (some 28) HT_ HW_ hHeld ?_ (hy := .inl ⟨by rfl, by rintro w' ⟨s0, s1, s2, s3, s4, s5, s6, s7, s8, s9, s10, s11, s12, s13, s14⟩; go_simp; with_reducible rfl⟩)
        refine pu_ 10 (some 29) HT_ ?_
        refine tk_ 16 (some 35) HT_ HW_ hHeld ?_ (hy := .inl ⟨by rfl, by rintro w' ⟨s0, s1, s2, s3, s4, s5, s6, s7, s8, s9, s10, s11, s12, s13, s14⟩; go_simp; with_reducible rfl⟩)
        refine tk_ 21 (some 40) HT_ HW_ hHeld ?_ (hy := .inl ⟨by rfl, by rintro w' ⟨s0, s1, s2, s3, s4, s5, s6, s7, s8, s9, s10, s11, s12, s13, s14⟩; go_simp; with_reducible rfl⟩)
        refine pu_ 22 (some 41) HT_ ?_
        refine one_ (i := 11) (N := some 30) #[true, true, true, true, true, true, true, true, true, true, true, true, true, true, true, true, true, true, true, true, true, true, true, false, false, false, false, false, false, false, false, false, false, false] rfl rfl (one_of HT_.out (by kernel_rfl)) (by decide) (fun K hK => ?_)
        refine goes_ Try.func48 (by kernel_rfl) rfl #[.agg #[.int .i64 ((rd_T44 l0 x6_1).f0), .int .i64 ((rd_T44 l0 x6_1).f1), .bool false], .int .i64 (wrap64 (((rd_T44 l0 x6_1).f1) - 1))] (by rfl) rfl rfl (by (try simp only [List.map_toArray, List.map_cons, List.map_nil]); first | done | rfl | (simp only [List.length_drop, List.length_take]; rfl)) ?_
        with_reducible refine (papermillref13_image.calls ((rd_T44 l0 x6_1).f0) ((rd_T44 l0 x6_1).f1) false (wrap64 (((rd_T44 l0 x6_1).f1) - 1)) t39004 _ A8.out).mono ?_
        rintro e w18 ⟨rfl, hb⟩
        refine ⟨_, rfl, ?_⟩
        replace HO_5 := Aside0.mk (Kd.R_below (HO_5.out) hb)
        replace HB := Aside0.mk (below_step (by repeat (first | exact HB.out | apply below_alloc | apply pw_below_drewN | apply below_drew1)) hb)
        (try clear hb)
        (try clear hb2)
        (try clear hk)
        (try clear hi)
        obtain ⟨Ao19, co19, eo19⟩ := Kd.R_slice HO_5.out
        (first | subst eo19 | (injection eo19 with f1_ f2_ f3_; have f4_ := f1_.symm; have f5_ := f3_.symm; clear f1_ f2_ f3_; subst f4_; subst f5_))
        refine hK.out _ _ ⟨((HB.out.cell (World.block_lt_of_cell? w _ hw39002_0)).trans hw39002_0), ((HB.out.cell (World.block_lt_of_cell? w _ hw39002_1)).trans hw39002_1), ((HB.out.cell (World.block_lt_of_cell? w _ hw39002_2)).trans hw39002_2), ((HB.out.cell (World.block_lt_of_cell? w _ hw39003_0)).trans hw39003_0), ((HB.out.cell (World.block_lt_of_cell? w _ hw39003_1)).trans hw39003_1), ((HB.out.cell (World.block_lt_of_cell? w _ hw39003_2)).trans hw39003_2), ((HB.out.cell (World.block_lt_of_cell? w _ hw39005_0)).trans hw39005_0), ((HB.out.cell (World.block_lt_of_cell? w _ hw39005_1)).trans hw39005_1), ((HB.out.cell (World.block_lt_of_cell? w _ hw39005_2)).trans hw39005_2), ((HB.out.cell (World.block_lt_of_cell? w _ hw39006_0)).trans hw39006_0), ((HB.out.cell (World.block_lt_of_cell? w _ hw39006_1)).trans hw39006_1), ((HB.out.cell (World.block_lt_of_cell? w _ hw39006_2)).trans hw39006_2), ((HB.out.cell (World.block_lt_of_cell? w _ hw39010_0)).trans hw39010_0), ((HB.out.cell (World.block_lt_of_cell? w _ hw39010_1)).trans hw39010_1), ((HB.out.cell (World.block_lt_of_cell? w _ hw39010_2)).trans hw39010_2)⟩ (fun hHeld => ?_)
        clear hK K
        refine norm_ (a' := ?_) ?_ ?_
        rotate_left
        ·show Act.put _ (some 30) _ = _
         simp only [Act.put, List.setIfInBounds_toArray, List.set_cons_zero, List.set_cons_succ, i64_w, i32_w]
         rfl
        refine pu_ 23 (some 42) HT_ ?_
        refine pu_ 24 (some 43) HT_ ?_
        refine pu_ 25 (some 44) HT_ ?_
        refine pu_ 26 (some 45) HT_ ?_
        refine pu_ 27 (some 46) HT_ ?_
        refine tk_ 28 (some 47) HT_ HW_ hHeld ?_ (hy := .inl ⟨by rfl, by rintro w' ⟨s0, s1, s2, s3, s4, s5, s6, s7, s8, s9, s10, s11, s12, s13, s14⟩; go_simp; with_reducible rfl⟩)
        refine pu_ 29 (some 48) HT_ ?_
        refine pu_ 30 (some 49) HT_ ?_
        refine pu_ 31 (some 50) HT_ ?_
        refine one_ (i := 32) (N := some 51) #[true, true, true, true, true, true, true, true, true, true, true, true, true, true, true, true, true, true, true, true, true, true, true, true, true, true, true, true, true, true, true, true, true, false] rfl rfl (one_of HT_.out (by kernel_rfl)) (by decide) (fun K hK => ?_)
        refine goes_ Try.func60 (by kernel_rfl) rfl #[.slice Ao19 x5_1.length co19, .agg #[.int .i64 t39004, .int .i64 ((rd_T44 l0 x6_1).f1), .bool (decide (((rd_T44 l0 x6_1).f1) > 1))]] (by rfl) rfl rfl (by (try simp only [List.map_toArray, List.map_cons, List.map_nil]); first | done | rfl | (simp only [List.length_drop, List.length_take]; rfl)) ?_
        with_reducible refine (papermillref13_more.calls k1 _ _ x5_1 t39004 ((rd_T44 l0 x6_1).f1) (decide (((rd_T44 l0 x6_1).f1) > 1)) t39011 _ ?side1 ?side2 A16.out).mono ?_
        (case side1 => exact (Kd.R_reads' HO_5.out).2.2)
        (case side2 => exact (Kd.R_reads' HO_5.out).2.1)
        rintro e w20 ⟨v39012, rfl, ho0, hb⟩
        refine ⟨_, rfl, ?_⟩
        have HO39013 := Aside0.mk (Kd.R_lower (Kd.R_new' ho0 (Kd.R_lt (HO_5.out))) (below_size (by repeat (first | exact HB.out | apply below_alloc | apply pw_below_drewN | apply below_drew1))))
        replace HO_5 := Aside0.mk (Kd.R_elder' (HO_5.out) (Kd.R_base ho0) hb)
        replace HB := Aside0.mk (below_step (by repeat (first | exact HB.out | apply below_alloc | apply pw_below_drewN | apply below_drew1)) hb)
        (try clear hb)
        (try clear hb2)
        (try clear hk)
        (try clear hi)
        (try clear ho0)
        refine hK.out _ _ ⟨((HB.out.cell (World.block_lt_of_cell? w _ hw39002_0)).trans hw39002_0), ((HB.out.cell (World.block_lt_of_cell? w _ hw39002_1)).trans hw39002_1), ((HB.out.cell (World.block_lt_of_cell? w _ hw39002_2)).trans hw39002_2), ((HB.out.cell (World.block_lt_of_cell? w _ hw39003_0)).trans hw39003_0), ((HB.out.cell (World.block_lt_of_cell? w _ hw39003_1)).trans hw39003_1), ((HB.out.cell (World.block_lt_of_cell? w _ hw39003_2)).trans hw39003_2), ((HB.out.cell (World.block_lt_of_cell? w _ hw39005_0)).trans hw39005_0), ((HB.out.cell (World.block_lt_of_cell? w _ hw39005_1)).trans hw39005_1), ((HB.out.cell (World.block_lt_of_cell? w _ hw39005_2)).trans hw39005_2), ((HB.out.cell (World.block_lt_of_cell? w _ hw39006_0)).trans hw39006_0), ((HB.out.cell (World.block_lt_of_cell? w _ hw39006_1)).trans hw39006_1), ((HB.out.cell (World.block_lt_of_cell? w _ hw39006_2)).trans hw39006_2), ((HB.out.cell (World.block_lt_of_cell? w _ hw39010_0)).trans hw39010_0), ((HB.out.cell (World.block_lt_of_cell? w _ hw39010_1)).trans hw39010_1), ((HB.out.cell (World.block_lt_of_cell? w _ hw39010_2)).trans hw39010_2)⟩ (fun hHeld => ?_)
        clear hK K
        refine norm_ (a' := ?_) ?_ ?_
        rotate_left
        ·show Act.put _ (some 51) _ = _
         simp only [Act.put, List.setIfInBounds_toArray, List.set_cons_zero, List.set_cons_succ, i64_w, i32_w]
         rfl
        refine pu_ 33 (some 5) HT_ ?_
        refine done_ (done_of HT_.out (by kernel_rfl)) ?_
        try go_wp2
        go_roundg k1
        case measure => have := HK1.out; omega
        case rel => exact ⟨(t39011), (wrap64 (x6_1 - 1)), (by first | rfl | (simp; done) | (simp [*]; done)), H', ⟨by have := HK1.out; omega⟩, ⟨by exact Kd.R_mono HO39013.out (fun _ hk => trivial)⟩, ⟨by repeat (first | exact HB.out | apply below_alloc | apply pw_below_drewN | apply below_drew1)⟩⟩
      ·rw [if_neg c7] at H
       exact absurd H (by simp)
     ·rw [if_neg c6] at H
      exact absurd H (by simp)
    ·rw [if_neg c5] at H
     have c5b0 : decide (0 ≤ x6_1) = false := decide_eq_false c5
     clear c5
     simp only [Option.some.injEq, Prod.mk.injEq] at H
     obtain ⟨rfl, rfl⟩ := H
     go_wp2
     go_ret2
     exact ⟨_, by first | rfl | (simp [errW_none, errW_some] <;> rfl) | (simp [*, errW_none, errW_some] <;> rfl), by exact HO_5.out, by repeat (first | exact HB.out | apply below_alloc | apply pw_below_drewN | apply below_drew1)⟩
 ·rw [if_neg c3] at H
  have c3b0 : (t39001 == 0) = false := beq_eq_false_iff_ne.mpr c3
  have c3b1 : (t39001 != 0) = true := bne_iff_ne.mpr c3
  simp only [Option.some.injEq, Prod.mk.injEq] at H
  obtain ⟨rfl, rfl⟩ := H
  go_enter Try.func38, Try.ntmps38
  go_wp2_with (first | ((with_reducible refine gate_callee (f := 25) rfl ?_); refine goesL_ (some 8) rfl rfl Try.func25 (by kernel_rfl) rfl #[.slice A0 l0.length c0] rfl (by (try simp only [List.map_toArray, List.map_cons, List.map_nil]); first | done | rfl | (simp only [List.length_drop, List.length_take]; rfl)) ?_; (with_reducible refine (papermillref13_Check.calls k _ _ l0 t39001 _ ?side1 ?side2 A2.out).mono ?_); (case side1 => exact HR0.out); (case side2 => exact HC0.out); rintro e w21 ⟨rfl, hb⟩; refine ⟨_, rfl, ?_⟩; replace HB := Aside0.mk (below_step (by repeat (first | exact HB.out | apply below_alloc | apply pw_below_drewN | apply below_drew1)) hb); (try clear hb); (try clear hb2); (try clear hk); (try clear hi)))
  go_ret2
  exact ⟨_, by first | rfl | (simp [errW_none, errW_some] <;> rfl) | (simp [*, errW_none, errW_some] <;> rfl), by first | exact Kd.R_nil _ _ _ _ _ | exact Kd.N_nil _ _ _ _ _ | exact Kd.V_nil _ _ _ _ _ | exact Kd.Q_nil _ _ _ _ _ | exact Kd.S_nil _ _ _ _ _, by repeat (first | exact HB.out | apply below_alloc | apply pw_below_drewN | apply below_drew1)⟩

end Go.Proofs.Ytalpegglbfobiaa.G

namespace Go.Proofs.Ytalpegglbfobiaa.G
open Go.RowKit Go.Proofs.YtalpegglbfobiaaW.PrintWords Go.Proofs.YtalpegglbfobiaaW.PrintLast Go.Proofs.YtalpegglbfobiaaW.PrintMore
attribute [local go_sem] max2_int min2_int max_two min_two max_three min_three max_four min_four   -- for this text's walks alone
set_option linter.unusedVariables false
set_option linter.unusedSimpArgs false

def papermillref41_Cull.f (k : Nat) (a0 : Int) (l1 : List (S55)) (a2 : Int) : Option ((List (S44)) × Int) := (papermillref40_Keep.f k a0 l1 a2).bind fun bt17001 => (if bt17001.2 = 0 then (if (bt17001.1.length : Int) = 0 then (some (([] : List (S44)), 10)) else ((papermillref40_Runs.f k bt17001.1).bind fun bt17005 => (if bt17005.2 = 0 then ((papermillref13_Reverse.f k bt17005.1).bind fun bt17009 => (some (bt17009.1, bt17009.2))) else (some (([] : List (S44)), bt17005.2))))) else (some (([] : List (S44)), bt17001.2)))
set_option maxHeartbeats 8000000 in
set_option maxRecDepth 100000 in
theorem papermillref41_Cull.calls (k : Nat) (a0 : Int) (A1 : Option Addr) (c1 : Nat) (l1 : List (S55)) (a2 : Int) (r1 : List (S44)) (r2 : Int) (w : World) (hr1 : Kd.C k55 w A1 l1.length l1) (hc1 : l1.length ≤ c1) (h : papermillref41_Cull.f k a0 l1 a2 = some (r1, r2)) :
  Calls Try.prog 16 #[.int .i64 a0, .slice A1 l1.length c1, .int .i64 a2] w fun e w' => ∃ v0_ : Value, e = .returned (.tuple #[v0_, .int .i64 r2]) ∧ Kd.R k44 44 w' w.heap.size (fun _ => True) v0_ r1 ∧ Below w.heap.size w w' := by
 have HR1 := Aside0.mk hr1
 have HC1 := Aside0.mk hc1
 clear hr1 hc1
 have HB := Aside0.mk (Below.refl w.heap.size w)
 have H : ((papermillref40_Keep.f k a0 l1 a2).bind fun bt17001 => (if bt17001.2 = 0 then (if (bt17001.1.length : Int) = 0 then (some (([] : List (S44)), 10)) else ((papermillref40_Runs.f k bt17001.1).bind fun bt17005 => (if bt17005.2 = 0 then ((papermillref13_Reverse.f k bt17005.1).bind fun bt17009 => (some (bt17009.1, bt17009.2))) else (some (([] : List (S44)), bt17005.2))))) else (some (([] : List (S44)), bt17001.2)))) = some (r1, r2) := h
 clear h
 replace H := Option.bind_eq_some_iff.mp H
 obtain ⟨⟨t17001, t17002⟩, A40, H⟩ := H
 try dsimp only at H
 have A4 := Aside0.mk A40
 clear A40
 by_cases c5 : t17002 = 0
 ·rw [if_pos c5] at H
  have c5b0 : (t17002 == 0) = true := beq_iff_eq.mpr c5
  have c5b1 : (t17002 != 0) = false := bne_eq_false_iff_eq.mpr c5
  clear c5
  by_cases c6 : (t17001.length : Int) = 0
  ·rw [if_pos c6] at H
   have c6b0 : ((t17001.length : Int) == 0) = true := beq_iff_eq.mpr c6
   have c6b1 : ((t17001.length : Int) != 0) = false := bne_eq_false_iff_eq.mpr c6
   clear c6
   simp only [Option.some.injEq, Prod.mk.injEq] at H
   obtain ⟨rfl, rfl⟩ := H
   go_enter Try.func16, Try.ntmps16
   go_wp2_with (first | ((with_reducible refine gate_callee (f := 36) rfl ?_); refine goesL_ (some 15) rfl rfl Try.func36 (by kernel_rfl) rfl #[.int .i64 a0, .slice A1 l1.length c1, .int .i64 a2] rfl (by (try simp only [List.map_toArray, List.map_cons, List.map_nil]); first | done | rfl | (simp only [List.length_drop, List.length_take]; rfl)) ?_; (with_reducible refine (papermillref40_Keep.calls k a0 _ _ l1 a2 t17001 t17002 _ ?side1 ?side2 A4.out).mono ?_); (case side1 => exact HR1.out); (case side2 => exact HC1.out); rintro e w7 ⟨v17003, rfl, ho0, hb⟩; refine ⟨_, rfl, ?_⟩; have HO17004 := Aside0.mk (Kd.R_lower ho0 (below_size (by repeat (first | exact HB.out | apply below_alloc | apply pw_below_drewN | apply below_drew1)))); replace HB := Aside0.mk (below_step (by repeat (first | exact HB.out | apply below_alloc | apply pw_below_drewN | apply below_drew1)) hb); (try clear hb); (try clear hb2); (try clear hk); (try clear hi); (try clear ho0); obtain ⟨Ao8, co8, eo8⟩ := Kd.R_slice HO17004.out; subst eo8))
   go_ret2
   exact ⟨_, by first | rfl | (simp [errW_none, errW_some] <;> rfl) | (simp [*, errW_none, errW_some] <;> rfl), by first | exact Kd.R_nil _ _ _ _ _ | exact Kd.N_nil _ _ _ _ _ | exact Kd.V_nil _ _ _ _ _ | exact Kd.Q_nil _ _ _ _ _ | exact Kd.S_nil _ _ _ _ _, by repeat (first | exact HB.out | apply below_alloc | apply pw_below_drewN | apply below_drew1)⟩
  ·rw [if_neg c6] at H
   have c6b0 : ((t17001.length : Int) == 0) = false := beq_eq_false_iff_ne.mpr c6
   have c6b1 : ((t17001.length : Int) != 0) = true := bne_iff_ne.mpr c6
   have c6b2 : ¬ (t17001 = []) := fun h_ => c6 (by rw [h_]; rfl)
   replace H := Option.bind_eq_some_iff.mp H
   obtain ⟨⟨t17005, t17006⟩, A90, H⟩ := H
   try dsimp only at H
   have A9 := Aside0.mk A90
   clear A90
   by_cases c10 : t17006 = 0
   ·rw [if_pos c10] at H
    have c10b0 : (t17006 == 0) = true := beq_iff_eq.mpr c10
    have c10b1 : (t17006 != 0) = false := bne_eq_false_iff_eq.mpr c10
    clear c10
    replace H := Option.bind_eq_some_iff.mp H
    obtain ⟨⟨t17009, t17010⟩, A110, H⟩ := H
    try dsimp only at H
    have A11 := Aside0.mk A110
    clear A110
    simp only [Option.some.injEq, Prod.mk.injEq] at H
    obtain ⟨rfl, rfl⟩ := H
    go_enter Try.func16, Try.ntmps16
    go_wp2_with (first | ((with_reducible refine gate_callee (f := 36) rfl ?_); refine goesL_ (some 15) rfl rfl Try.func36 (by kernel_rfl) rfl #[.int .i64 a0, .slice A1 l1.length c1, .int .i64 a2] rfl (by (try simp only [List.map_toArray, List.map_cons, List.map_nil]); first | done | rfl | (simp only [List.length_drop, List.length_take]; rfl)) ?_; (with_reducible refine (papermillref40_Keep.calls k a0 _ _ l1 a2 t17001 t17002 _ ?side1 ?side2 A4.out).mono ?_); (case side1 => exact HR1.out); (case side2 => exact HC1.out); rintro e w12 ⟨v17003, rfl, ho0, hb⟩; refine ⟨_, rfl, ?_⟩; have HO17004 := Aside0.mk (Kd.R_lower ho0 (below_size (by repeat (first | exact HB.out | apply below_alloc | apply pw_below_drewN | apply below_drew1)))); replace HB := Aside0.mk (below_step (by repeat (first | exact HB.out | apply below_alloc | apply pw_below_drewN | apply below_drew1)) hb); (try clear hb); (try clear hb2); (try clear hk); (try clear hi); (try clear ho0); obtain ⟨Ao13, co13, eo13⟩ := Kd.R_slice HO17004.out; subst eo13) | ((with_reducible refine gate_callee (f := 37) rfl ?_); refine goesL_ (some 26) rfl rfl Try.func37 (by kernel_rfl) rfl #[.slice Ao13 t17001.length co13] rfl (by (try simp only [List.map_toArray, List.map_cons, List.map_nil]); first | done | rfl | (simp only [List.length_drop, List.length_take]; rfl)) ?_; (with_reducible refine (papermillref40_Runs.calls k _ _ t17001 t17005 t17006 _ ?side1 ?side2 A9.out).mono ?_); (case side1 => exact (Kd.R_reads' HO17004.out).2.2); (case side2 => exact (Kd.R_reads' HO17004.out).2.1); rintro e w14 ⟨v17007, rfl, ho0, hb⟩; refine ⟨_, rfl, ?_⟩; replace HO17004 := Aside0.mk (Kd.R_below (HO17004.out) hb); have HO17008 := Aside0.mk (Kd.R_lower ho0 (below_size (by repeat (first | exact HB.out | apply below_alloc | apply pw_below_drewN | apply below_drew1)))); replace HB := Aside0.mk (below_step (by repeat (first | exact HB.out | apply below_alloc | apply pw_below_drewN | apply below_drew1)) hb); (try clear hb); (try clear hb2); (try clear hk); (try clear hi); (try clear ho0); obtain ⟨Ao15, co15, eo15⟩ := Kd.R_slice HO17008.out; subst eo15) | ((with_reducible refine gate_callee (f := 38) rfl ?_); refine goesL_ (some 33) rfl rfl Try.func38 (by kernel_rfl) rfl #[.slice Ao15 t17005.length co15] rfl (by (try simp only [List.map_toArray, List.map_cons, List.map_nil]); first | done | rfl | (simp only [List.length_drop, List.length_take]; rfl)) ?_; (with_reducible refine (papermillref13_Reverse.calls k _ _ t17005 t17009 t17010 _ ?side1 ?side2 A11.out).mono ?_); (case side1 => exact (Kd.R_reads' HO17008.out).2.2); (case side2 => exact (Kd.R_reads' HO17008.out).2.1); rintro e w16 ⟨v17011, rfl, ho0, hb⟩; refine ⟨_, rfl, ?_⟩; replace HO17004 := Aside0.mk (Kd.R_below (HO17004.out) hb); have HO17012 := Aside0.mk (Kd.R_lower (Kd.R_new' ho0 (Kd.R_lt (HO17008.out))) (below_size (by repeat (first | exact HB.out | apply below_alloc | apply pw_below_drewN | apply below_drew1)))); replace HO17008 := Aside0.mk (Kd.R_elder' (HO17008.out) (Kd.R_base ho0) hb); replace HB := Aside0.mk (below_step (by repeat (first | exact HB.out | apply below_alloc | apply pw_below_drewN | apply below_drew1)) hb); (try clear hb); (try clear hb2); (try clear hk); (try clear hi); (try clear ho0)))
    go_ret2
    exact ⟨_, by first | rfl | (simp [errW_none, errW_some] <;> rfl) | (simp [*, errW_none, errW_some] <;> rfl), by exact Kd.R_mono HO17012.out (fun _ hk => trivial), by repeat (first | exact HB.out | apply below_alloc | apply pw_below_drewN | apply below_drew1)⟩
   ·rw [if_neg c10] at H
    have c10b0 : (t17006 == 0) = false := beq_eq_false_iff_ne.mpr c10
    have c10b1 : (t17006 != 0) = true := bne_iff_ne.mpr c10
    simp only [Option.some.injEq, Prod.mk.injEq] at H
    obtain ⟨rfl, rfl⟩ := H
    go_enter Try.func16, Try.ntmps16
    go_wp2_with (first | ((with_reducible refine gate_callee (f := 36) rfl ?_); refine goesL_ (some 15) rfl rfl Try.func36 (by kernel_rfl) rfl #[.int .i64 a0, .slice A1 l1.length c1, .int .i64 a2] rfl (by (try simp only [List.map_toArray, List.map_cons, List.map_nil]); first | done | rfl | (simp only [List.length_drop, List.length_take]; rfl)) ?_; (with_reducible refine (papermillref40_Keep.calls k a0 _ _ l1 a2 t17001 t17002 _ ?side1 ?side2 A4.out).mono ?_); (case side1 => exact HR1.out); (case side2 => exact HC1.out); rintro e w17 ⟨v17003, rfl, ho0, hb⟩; refine ⟨_, rfl, ?_⟩; have HO17004 := Aside0.mk (Kd.R_lower ho0 (below_size (by repeat (first | exact HB.out | apply below_alloc | apply pw_below_drewN | apply below_drew1)))); replace HB := Aside0.mk (below_step (by repeat (first | exact HB.out | apply below_alloc | apply pw_below_drewN | apply below_drew1)) hb); (try clear hb); (try clear hb2); (try clear hk); (try clear hi); (try clear ho0); obtain ⟨Ao18, co18, eo18⟩ := Kd.R_slice HO17004.out; subst eo18) | ((with_reducible refine gate_callee (f := 37) rfl ?_); refine goesL_ (some 26) rfl rfl Try.func37 (by kernel_rfl) rfl #[.slice Ao18 t17001.length co18] rfl (by (try simp only [List.map_toArray, List.map_cons, List.map_nil]); first | done | rfl | (simp only [List.length_drop, List.length_take]; rfl)) ?_; (with_reducible refine (papermillref40_Runs.calls k _ _ t17001 t17005 t17006 _ ?side1 ?side2 A9.out).mono ?_); (case side1 => exact (Kd.R_reads' HO17004.out).2.2); (case side2 => exact (Kd.R_reads' HO17004.out).2.1); rintro e w19 ⟨v17007, rfl, ho0, hb⟩; refine ⟨_, rfl, ?_⟩; replace HO17004 := Aside0.mk (Kd.R_below (HO17004.out) hb); have HO17008 := Aside0.mk (Kd.R_lower ho0 (below_size (by repeat (first | exact HB.out | apply below_alloc | apply pw_below_drewN | apply below_drew1)))); replace HB := Aside0.mk (below_step (by repeat (first | exact HB.out | apply below_alloc | apply pw_below_drewN | apply below_drew1)) hb); (try clear hb); (try clear hb2); (try clear hk); (try clear hi); (try clear ho0)))
    go_ret2
    exact ⟨_, by first | rfl | (simp [errW_none, errW_some] <;> rfl) | (simp [*, errW_none, errW_some] <;> rfl), by first | exact Kd.R_nil _ _ _ _ _ | exact Kd.N_nil _ _ _ _ _ | exact Kd.V_nil _ _ _ _ _ | exact Kd.Q_nil _ _ _ _ _ | exact Kd.S_nil _ _ _ _ _, by repeat (first | exact HB.out | apply below_alloc | apply pw_below_drewN | apply below_drew1)⟩
 ·rw [if_neg c5] at H
  have c5b0 : (t17002 == 0) = false := beq_eq_false_iff_ne.mpr c5
  have c5b1 : (t17002 != 0) = true := bne_iff_ne.mpr c5
  simp only [Option.some.injEq, Prod.mk.injEq] at H
  obtain ⟨rfl, rfl⟩ := H
  go_enter Try.func16, Try.ntmps16
  go_wp2_with (first | ((with_reducible refine gate_callee (f := 36) rfl ?_); refine goesL_ (some 15) rfl rfl Try.func36 (by kernel_rfl) rfl #[.int .i64 a0, .slice A1 l1.length c1, .int .i64 a2] rfl (by (try simp only [List.map_toArray, List.map_cons, List.map_nil]); first | done | rfl | (simp only [List.length_drop, List.length_take]; rfl)) ?_; (with_reducible refine (papermillref40_Keep.calls k a0 _ _ l1 a2 t17001 t17002 _ ?side1 ?side2 A4.out).mono ?_); (case side1 => exact HR1.out); (case side2 => exact HC1.out); rintro e w20 ⟨v17003, rfl, ho0, hb⟩; refine ⟨_, rfl, ?_⟩; have HO17004 := Aside0.mk (Kd.R_lower ho0 (below_size (by repeat (first | exact HB.out | apply below_alloc | apply pw_below_drewN | apply below_drew1)))); replace HB := Aside0.mk (below_step (by repeat (first | exact HB.out | apply below_alloc | apply pw_below_drewN | apply below_drew1)) hb); (try clear hb); (try clear hb2); (try clear hk); (try clear hi); (try clear ho0)))
  go_ret2
  exact ⟨_, by first | rfl | (simp [errW_none, errW_some] <;> rfl) | (simp [*, errW_none, errW_some] <;> rfl), by first | exact Kd.R_nil _ _ _ _ _ | exact Kd.N_nil _ _ _ _ _ | exact Kd.V_nil _ _ _ _ _ | exact Kd.Q_nil _ _ _ _ _ | exact Kd.S_nil _ _ _ _ _, by repeat (first | exact HB.out | apply below_alloc | apply pw_below_drewN | apply below_drew1)⟩

end Go.Proofs.Ytalpegglbfobiaa.G

namespace Go.Proofs.Ytalpegglbfobiaa.G
open Go.RowKit Go.Proofs.YtalpegglbfobiaaW.PrintWords Go.Proofs.YtalpegglbfobiaaW.PrintLast Go.Proofs.YtalpegglbfobiaaW.PrintMore
attribute [local go_sem] max2_int min2_int max_two min_two max_three min_three max_four min_four   -- for this text's walks alone
set_option linter.unusedVariables false
set_option linter.unusedSimpArgs false

def papermilllaw41_RewindCulls.f (k : Nat) (a0 : Int) (l1 : List (S55)) (a2 : Int) : Option (Bool) := if (l1.length : Int) > 300 then ((papermilllaw41_awake.f).bind fun t5001 => (some t5001)) else ((rewind_Cull.f k a0 l1 a2).bind fun bt5002 => ((papermillref41_Cull.f k a0 l1 a2).bind fun bt5006 => ((papermillref41_Same.f k bt5002.1 bt5006.1).bind fun t5010 => (if t5010 = true then (if bt5002.2 = bt5006.2 then ((papermilllaw41_awake.f).bind fun t5011 => (some t5011)) else none) else none))))
set_option maxHeartbeats 8000000 in
set_option maxRecDepth 100000 in
theorem papermilllaw41_RewindCulls.calls (k : Nat) (a0 : Int) (A1 : Option Addr) (c1 : Nat) (l1 : List (S55)) (a2 : Int) (r : Bool) (w : World) (hr1 : Kd.C k55 w A1 l1.length l1) (hc1 : l1.length ≤ c1) (h : papermilllaw41_RewindCulls.f k a0 l1 a2 = some r) :
  Calls Try.prog 4 #[.int .i64 a0, .slice A1 l1.length c1, .int .i64 a2] w fun e w' => e = .returned (.bool r) ∧ Below w.heap.size w w' := by
 have HR1 := Aside0.mk hr1
 have HC1 := Aside0.mk hc1
 clear hr1 hc1
 have HB := Aside0.mk (Below.refl w.heap.size w)
 have H : (if (l1.length : Int) > 300 then ((papermilllaw41_awake.f).bind fun t5001 => (some t5001)) else ((rewind_Cull.f k a0 l1 a2).bind fun bt5002 => ((papermillref41_Cull.f k a0 l1 a2).bind fun bt5006 => ((papermillref41_Same.f k bt5002.1 bt5006.1).bind fun t5010 => (if t5010 = true then (if bt5002.2 = bt5006.2 then ((papermilllaw41_awake.f).bind fun t5011 => (some t5011)) else none) else none))))) = some r := h
 clear h
 by_cases c4 : (l1.length : Int) > 300
 ·rw [if_pos c4] at H
  have c4b0 : decide (300 < (l1.length : Int)) = true := decide_eq_true c4
  have c4b1 : decide (300 < l1.length) = true := decide_eq_true (by omega)
  clear c4
  replace H := Option.bind_eq_some_iff.mp H
  obtain ⟨t5001, A50, H⟩ := H
  have A5 := Aside0.mk A50
  clear A50
  obtain rfl := Option.some.inj H
  go_enter Try.func4, Try.ntmps4
  go_wp2_with (first | ((with_reducible refine gate_callee (f := 14) rfl ?_); refine goesL_ (some 14) rfl rfl Try.func14 (by kernel_rfl) rfl #[] rfl (by (try simp only [List.map_toArray, List.map_cons, List.map_nil]); first | done | rfl | (simp only [List.length_drop, List.length_take]; rfl)) ?_; (with_reducible refine (papermilllaw41_awake.calls  t5001 _ A5.out).mono ?_); rintro e w6 ⟨rfl, hb⟩; refine ⟨_, rfl, ?_⟩; replace HB := Aside0.mk (below_step (by repeat (first | exact HB.out | apply below_alloc | apply pw_below_drewN | apply below_drew1)) hb); (try clear hb); (try clear hb2); (try clear hk); (try clear hi)))
  go_ret
  exact ⟨by first | rfl | (simp [errW_none, errW_some] <;> rfl) | (simp [*, errW_none, errW_some] <;> rfl), by repeat (first | exact HB.out | apply below_alloc | apply pw_below_drewN | apply below_drew1)⟩
 ·rw [if_neg c4] at H
  have c4b0 : decide (300 < (l1.length : Int)) = false := decide_eq_false c4
  have c4b1 : decide (300 < l1.length) = false := decide_eq_false (by omega)
  clear c4
  replace H := Option.bind_eq_some_iff.mp H
  obtain ⟨⟨t5002, t5003⟩, A70, H⟩ := H
  try dsimp only at H
  have A7 := Aside0.mk A70
  clear A70
  replace H := Option.bind_eq_some_iff.mp H
  obtain ⟨⟨t5006, t5007⟩, A80, H⟩ := H
  try dsimp only at H
  have A8 := Aside0.mk A80
  clear A80
  replace H := Option.bind_eq_some_iff.mp H
  obtain ⟨t5010, A90, H⟩ := H
  have A9 := Aside0.mk A90
  clear A90
  by_cases c10 : t5010 = true
  ·subst c10
   rw [if_pos rfl] at H
   by_cases c11 : t5003 = t5007
   ·rw [if_pos c11] at H
    have c11b0 : (t5003 == t5007) = true := beq_iff_eq.mpr c11
    have c11b1 : (t5003 != t5007) = false := bne_eq_false_iff_eq.mpr c11
    clear c11
    replace H := Option.bind_eq_some_iff.mp H
    obtain ⟨t5011, A120, H⟩ := H
    have A12 := Aside0.mk A120
    clear A120
    obtain rfl := Option.some.inj H
    go_enter Try.func4, Try.ntmps4
    go_wp2_with (first | ((with_reducible refine gate_callee (f := 15) rfl ?_); refine goesL_ (some 19) rfl rfl Try.func15 (by kernel_rfl) rfl #[.int .i64 a0, .slice A1 l1.length c1, .int .i64 a2] rfl (by (try simp only [List.map_toArray, List.map_cons, List.map_nil]); first | done | rfl | (simp only [List.length_drop, List.length_take]; rfl)) ?_; (with_reducible refine (rewind_Cull.calls k a0 _ _ l1 a2 t5002 t5003 _ ?side1 ?side2 A7.out).mono ?_); (case side1 => repeat (first | exact HR1.out | (with_reducible refine Kd.C_alloc ?_ _) | (with_reducible refine Kd.C_drewN ?_ _) | (with_reducible refine Kd.C_drew ?_))); (case side2 => exact HC1.out); rintro e w13 ⟨v5004, rfl, ho0, hb⟩; refine ⟨_, rfl, ?_⟩; have HO5005 := Aside0.mk (Kd.R_lower ho0 (below_size (by repeat (first | exact HB.out | apply below_alloc | apply pw_below_drewN | apply below_drew1)))); replace HB := Aside0.mk (below_step (by repeat (first | exact HB.out | apply below_alloc | apply pw_below_drewN | apply below_drew1)) hb); (try clear hb); (try clear hb2); (try clear hk); (try clear hi); (try clear ho0)) | ((with_reducible refine gate_callee (f := 16) rfl ?_); refine goesL_ (some 26) rfl rfl Try.func16 (by kernel_rfl) rfl #[.int .i64 a0, .slice A1 l1.length c1, .int .i64 a2] rfl (by (try simp only [List.map_toArray, List.map_cons, List.map_nil]); first | done | rfl | (simp only [List.length_drop, List.length_take]; rfl)) ?_; (with_reducible refine (papermillref41_Cull.calls k a0 _ _ l1 a2 t5006 t5007 _ ?side1 ?side2 A8.out).mono ?_); (case side1 => repeat (first | exact (Kd.C_below HR1.out HB.out) | (with_reducible refine Kd.C_alloc ?_ _) | (with_reducible refine Kd.C_drewN ?_ _) | (with_reducible refine Kd.C_drew ?_))); (case side2 => exact HC1.out); rintro e w14 ⟨v5008, rfl, ho0, hb⟩; refine ⟨_, rfl, ?_⟩; have HO5009 := Aside0.mk (Kd.R_lower (Kd.R_new' ho0 (Kd.R_lt (by (with_reducible repeat (first | apply Kd.R_alloc | apply Kd.R_drewN | apply Kd.R_drew)); exact HO5005.out))) (below_size (by repeat (first | exact HB.out | apply below_alloc | apply pw_below_drewN | apply below_drew1)))); replace HO5005 := Aside0.mk (Kd.R_elder' (by (with_reducible repeat (first | apply Kd.R_alloc | apply Kd.R_drewN | apply Kd.R_drew)); exact HO5005.out) (Kd.R_base ho0) hb); replace HB := Aside0.mk (below_step (by repeat (first | exact HB.out | apply below_alloc | apply pw_below_drewN | apply below_drew1)) hb); (try clear hb); (try clear hb2); (try clear hk); (try clear hi); (try clear ho0); obtain ⟨Ao15, co15, eo15⟩ := Kd.R_slice HO5005.out; subst eo15; obtain ⟨Ao16, co16, eo16⟩ := Kd.R_slice HO5009.out; subst eo16) | ((with_reducible refine gate_callee (f := 13) rfl ?_); refine goesL_ (some 31) rfl rfl Try.func13 (by kernel_rfl) rfl #[.slice Ao15 t5002.length co15, .slice Ao16 t5006.length co16] rfl (by (try simp only [List.map_toArray, List.map_cons, List.map_nil]); first | done | rfl | (simp only [List.length_drop, List.length_take]; rfl)) ?_; (with_reducible refine (papermillref41_Same.calls k _ _ t5002 _ _ t5006 true _ ?side1 ?side2 ?side3 ?side4 A9.out).mono ?_); (case side1 => repeat (first | exact (Kd.R_reads' HO5005.out).2.2 | (with_reducible refine Kd.C_alloc ?_ _) | (with_reducible refine Kd.C_drewN ?_ _) | (with_reducible refine Kd.C_drew ?_))); (case side2 => exact (Kd.R_reads' HO5005.out).2.1); (case side3 => repeat (first | exact (Kd.R_reads' HO5009.out).2.2 | (with_reducible refine Kd.C_alloc ?_ _) | (with_reducible refine Kd.C_drewN ?_ _) | (with_reducible refine Kd.C_drew ?_))); (case side4 => exact (Kd.R_reads' HO5009.out).2.1); rintro e w' ⟨rfl, ⟨nd, rfl⟩⟩; refine ⟨_, rfl, ?_⟩) | (go_at_call 14; (with_reducible refine (papermilllaw41_awake.calls  t5011 _ A12.out).mono ?_); rintro e w17 ⟨rfl, hb⟩; replace HO5005 := Aside0.mk (Kd.R_below (by (with_reducible repeat (first | apply Kd.R_alloc | apply Kd.R_drewN | apply Kd.R_drew)); exact HO5005.out) hb); replace HO5009 := Aside0.mk (Kd.R_below (by (with_reducible repeat (first | apply Kd.R_alloc | apply Kd.R_drewN | apply Kd.R_drew)); exact HO5009.out) hb); replace HB := Aside0.mk (below_step (by repeat (first | exact HB.out | apply below_alloc | apply pw_below_drewN | apply below_drew1)) hb); (try clear hb); (try clear hb2); (try clear hk); (try clear hi)))
    go_ret
    exact ⟨by first | rfl | (simp [errW_none, errW_some] <;> rfl) | (simp [*, errW_none, errW_some] <;> rfl), by repeat (first | exact HB.out | apply below_alloc | apply pw_below_drewN | apply below_drew1)⟩
   ·rw [if_neg c11] at H
    have c11b0 : (t5003 == t5007) = false := beq_eq_false_iff_ne.mpr c11
    have c11b1 : (t5003 != t5007) = true := bne_iff_ne.mpr c11
    cases H
  ·replace c10 := Bool.eq_false_iff.mpr c10
   subst c10
   have H1 : none = some r := by rw [if_neg (show ¬ (false = true) by decide)] at H; first | exact H | simpa using H
   clear H
   have H := H1
   clear H1
   cases H

end Go.Proofs.Ytalpegglbfobiaa.G

namespace Go.Proofs.Ytalpegglbfobiaa.G
open Go.RowKit Go.Proofs.YtalpegglbfobiaaW.PrintWords Go.Proofs.YtalpegglbfobiaaW.PrintLast Go.Proofs.YtalpegglbfobiaaW.PrintMore
set_option linter.unusedVariables false
set_option linter.unusedSimpArgs false
theorem comb_ends (a b : List S55) (ha : a.length ≤ 256) (hb : b.length ≤ 256) (w : Int) (hw : w = 0 ∨ w = 1 ∨ w = 2) : Ends (fun _ => papermillref04_combine.f a b w) (combOf a b w) :=
 Ends.const (by unfold papermillref04_combine.f; rw [if_pos ⟨ha, hb, hw⟩])
theorem check_l0 (l : List S55) (hl : l.length ≤ 256) : ∀ (d i : Nat), l.length - i = d → i ≤ l.length → Ends (fun k => papermillref04_Check.l0 k l (i : Int)) (if ∃ s ∈ l.drop i, badS s then 1 else 0) := by
 intro d
 induction d with
 | zero =>
  intro i hd hi
  rw [List.drop_of_length_le (by omega)]
  refine Ends.succ ?_
  simp only [papermillref04_Check.l0]
  exact Ends.neg (by omega) (by simpa using Ends.ret (0 : Int))
 | succ d ih =>
  intro i hd hi
  have := ih (i + 1) (by omega) (by omega)
  rw [drop36 l i (by omega)]
  refine Ends.succ ?_
  simp only [papermillref04_Check.l0, wrap_nat i (by omega)]
  refine Ends.pos (by omega) (Ends.pos (by omega) ?_)
  by_cases hb : badS (rd_T55 l i)
  ·rw [if_pos ⟨_, by simp, hb⟩]
   unfold badS at hb
   by_cases h1 : (rd_T55 l i).f0 < 0
   ·exact Ends.pos h1 (Ends.ret _)
   ·refine Ends.neg h1 ?_
    by_cases h2 : (rd_T55 l i).f0 > (rd_T55 l i).f1
    ·exact Ends.pos h2 (Ends.ret _)
    ·exact Ends.neg h2 (Ends.pos (by omega) (Ends.ret _))
  ·have e : (∃ s ∈ rd_T55 l i :: l.drop (i + 1), badS s) ↔ ∃ s ∈ l.drop (i + 1), badS s := by
    constructor
    ·rintro ⟨s, hs, k⟩
     rcases List.mem_cons.1 hs with rfl | hs
     ·exact absurd k hb
     ·exact ⟨s, hs, k⟩
    ·rintro ⟨s, hs, k⟩; exact ⟨s, by simp [hs], k⟩
   simp only [e]
   unfold badS at hb
   exact Ends.neg (by omega) (Ends.neg (by omega) (Ends.neg (by omega) this))
theorem check04_ends (l : List S55) : Ends (fun k => papermillref04_Check.f k l) (check04 l) := by
 simp only [papermillref04_Check.f, check04]
 by_cases h : l.length > 256
 ·rw [if_pos h]; exact Ends.pos (by omega) (Ends.ret _)
 ·rw [if_neg h]; exact Ends.neg (by omega) (by simpa using check_l0 l (by omega) l.length 0 rfl (Nat.zero_le _))
theorem both_ends (a b : List S55) (w : Int) (hw : w = 0 ∨ w = 1 ∨ w = 2) : Ends (fun k => papermillref04_both.f k a b w) (bothOf a b w) := by
 unfold papermillref04_both.f bothOf
 refine Ends.bind (check04_ends a) ?_
 by_cases h1 : check04 a = 0
 ·rw [if_pos h1]; refine Ends.pos h1 (Ends.bind (check04_ends b) ?_)
  by_cases h2 : check04 b = 0
  ·simp only [if_pos h2]; refine Ends.bind (comb_ends a b (check04_zero h1).1 (check04_zero h2).1 w hw) ?_
   by_cases h3 : (combOf a b w).length > 256
   ·rw [if_pos h3]; exact Ends.pos (by omega) (Ends.ret _)
   ·rw [if_neg h3]; exact Ends.neg (by omega) (Ends.ret _)
  ·simp only [if_neg h2]; exact Ends.ret _
 ·rw [if_neg h1]; exact Ends.neg h1 (Ends.ret _)
end Go.Proofs.Ytalpegglbfobiaa.G

namespace Go.Proofs.Ytalpegglbfobiaa.G
open Go.RowKit Go.Proofs.YtalpegglbfobiaaW.PrintWords Go.Proofs.YtalpegglbfobiaaW.PrintLast Go.Proofs.YtalpegglbfobiaaW.PrintMore
set_option linter.unusedVariables false
set_option linter.unusedSimpArgs false
theorem same_l0 (l : List S55) (hl : l.length ≤ 1000000) : ∀ (d i : Nat), l.length - i = d → i ≤ l.length → Ends (fun k => papermillref04_Same.l0 k l l (i : Int)) true := by
 intro d
 induction d with
 | zero =>
  intro i hd hi
  refine Ends.succ ?_
  simp only [papermillref04_Same.l0]
  exact Ends.neg (by omega) (Ends.ret _)
 | succ d ih =>
  intro i hd hi
  refine Ends.succ ?_
  simp only [papermillref04_Same.l0, wrap_nat i (by omega)]
  exact Ends.pos (by omega) (Ends.pos (by omega) (Ends.pos (by omega) (Ends.neg (by simp) (ih (i + 1) (by omega) (by omega)))))
theorem same_ends (l : List S55) (hl : l.length ≤ 1000000) : Ends (fun k => papermillref04_Same.f k l l) true := by
 unfold papermillref04_Same.f
 exact Ends.pos rfl (same_l0 l hl _ 0 rfl (by omega))
end Go.Proofs.Ytalpegglbfobiaa.G

namespace Go.Proofs.Ytalpegglbfobiaa.G
open Go.RowKit Go.Proofs.YtalpegglbfobiaaW.PrintWords Go.Proofs.YtalpegglbfobiaaW.PrintLast Go.Proofs.YtalpegglbfobiaaW.PrintMore
set_option linter.unusedVariables false
set_option linter.unusedSimpArgs false
theorem rnorm_ends (l : List S55) : Ends (fun k => papermillref04_Norm.f k l) (bothOf l [] 0) := by
 unfold papermillref04_Norm.f
 exact Ends.bind (both_ends l [] 0 (.inl rfl)) (Ends.ret _)
end Go.Proofs.Ytalpegglbfobiaa.G

namespace Go.Proofs.Ytalpegglbfobiaa.G
open Go.RowKit Go.Proofs.YtalpegglbfobiaaW.PrintWords Go.Proofs.YtalpegglbfobiaaW.PrintLast Go.Proofs.YtalpegglbfobiaaW.PrintMore
set_option linter.unusedVariables false
set_option linter.unusedSimpArgs false
def capF (o : List S55) : List S55 × Int := if o.length > 256 then ([], 8) else (o, 0)
theorem rkeep_l0 (n least : Int) (hn : 0 ≤ n ∧ n ≤ 17179869184) (g l : List S55) (hg : g = l ++ [⟨17179869184, 17179869184⟩]) (hl : l.length ≤ 256) (hv : ∀ s ∈ l, 0 ≤ s.f0 ∧ s.f0 ≤ s.f1 ∧ s.f1 ≤ 17179869184) : ∀ (d i : Nat) (o : List S55) (a : Int), l.length - i = d → i ≤ l.length → o.length ≤ i → 0 ≤ a → a ≤ 17179869184 → Ends (fun k => papermillref40_Keep.l0 k n least g o a (i : Int)) (capF (o ++ keepGo n least a (l.drop i))) := by
 intro d
 have hgl : g.length = l.length + 1 := by rw [hg]; simp
 induction d with
 | zero =>
  intro i o a hd hi ho h0 h1
  refine Ends.succ ?_
  obtain rfl : i = l.length := by omega
  have hx : rd_T55 g (l.length : Int) = ⟨17179869184, 17179869184⟩ := by
   rw [rd36 g l.length (by omega)]
   simp [hg]
  have hm : mn 17179869184 n = n := by unfold mn; split <;> omega
  have hw : wrap64 (n - a) = n - a := by unfold wrap64; omega
  simp only [papermillref40_Keep.l0, wrap_nat l.length (by omega), hx, hm, hw]
  rw [List.drop_of_length_le (by omega)]
  have hend : ∀ (o : List S55) (b : Int), Ends (fun k => papermillref40_Keep.l0 k n least g o b ((l.length + 1 : Nat) : Int)) (capF o) := by
   intro o b
   refine Ends.succ ?_
   simp only [papermillref40_Keep.l0]
   refine Ends.neg (by omega) ?_
   unfold capF
   by_cases hc : o.length > 256
   ·rw [if_pos hc]; exact Ends.pos (by omega) (Ends.ret _)
   ·rw [if_neg hc]; exact Ends.neg (by omega) (Ends.ret _)
  unfold keepGo
  refine Ends.pos (by omega) (Ends.pos (by omega) ?_)
  by_cases hk : least ≤ n - a
  ·rw [if_pos hk]
   exact Ends.pos hk (Ends.pos (by omega) (hend _ _))
  ·rw [if_neg hk, List.append_nil]
   exact Ends.neg hk (hend _ _)
 | succ d ih =>
  intro i o a hd hi ho h0 h1
  refine Ends.succ ?_
  have hx : rd_T55 g (i : Int) = rd_T55 l (i : Int) := by
   rw [rd36 g i (by omega), rd36 l i (by omega)]
   simp only [hg]
   rw [List.getElem_append_left (by omega)]
  have hs := hv (rd_T55 l (i : Int)) (by rw [rd36 l i (by omega)]; exact List.getElem_mem _)
  rw [drop36 l i (by omega)]
  simp only [papermillref40_Keep.l0, wrap_nat i (by omega), hx]
  generalize rd_T55 l (i : Int) = s at *
  have hm : mn s.f0 n = min n s.f0 := by unfold mn; split <;> omega
  have hw : wrap64 (min n s.f0 - a) = min n s.f0 - a := by unfold wrap64; omega
  rw [hm, hw]
  unfold keepGo
  refine Ends.pos (by omega) (Ends.pos (by omega) ?_)
  by_cases hk : least ≤ min n s.f0 - a
  ·rw [if_pos hk]
   exact Ends.pos hk (Ends.pos (by omega) ((ih (i + 1) (o ++ [⟨a, min n s.f0⟩]) s.f1 (by omega) (by omega) (by simp; omega) (by omega) (by omega)).congr (by rw [List.append_assoc])))
  ·rw [if_neg hk, List.nil_append]
   exact Ends.neg hk (ih (i + 1) o s.f1 (by omega) (by omega) (by omega) (by omega) (by omega))
theorem rkeep_j0 (n : Int) (bad : List S55) (least : Int) (z : Bool) (hz : z = true → wide n least) (hz2 : z = false → ¬ wide n least) : Ends (fun k => papermillref40_Keep.j0 k n bad least z) (keepOf n bad least) := by
 refine Ends.succ ?_
 simp only [papermillref40_Keep.j0]
 unfold keepOf
 cases z with
 | true => rw [if_pos (hz rfl)]; exact Ends.pos rfl (Ends.ret _)
 | false =>
  have hw := hz2 rfl
  rw [if_neg hw]
  unfold wide at hw
  refine Ends.neg (by simp) (Ends.bind (rnorm_ends bad) ?_)
  by_cases hc : check04 bad = 0
  ·obtain ⟨h1, h2, h3⟩ := joinOf_fit hc
   have hj := joinOf_few hc
   rw [norm_fits hc, if_pos hc]
   simp only [Option.bind_some, List.nil_append]
   refine Ends.pos trivial (Ends.pos (by simp; omega) (Ends.pos (by omega) ?_))
   refine (rkeep_l0 n least (by omega) _ (joinOf bad) rfl hj (fun s hs => by have := h3 s hs; omega) _ 0 [] 0 rfl (by omega) (by simp) (by omega) (by omega)).congr ?_
   rfl
  ·have e : bothOf bad [] 0 = ([], check04 bad) := by unfold bothOf; rw [if_neg hc]
   rw [e, if_neg hc]
   exact Ends.neg hc (Ends.ret _)
theorem rkeep_ends (n : Int) (bad : List S55) (least : Int) : Ends (fun k => papermillref40_Keep.f k n bad least) (keepOf n bad least) := by
 unfold papermillref40_Keep.f
 by_cases h1 : n < 0
 ·exact Ends.pos h1 (rkeep_j0 n bad least true (fun _ => .inl h1) (by simp))
 ·refine Ends.neg h1 ?_
  by_cases h2 : n > 17179869184
  ·exact Ends.pos h2 (rkeep_j0 n bad least true (fun _ => .inr (.inl h2)) (by simp))
  ·refine Ends.neg h2 ?_
   by_cases h3 : least < 1
   ·exact Ends.pos h3 (rkeep_j0 n bad least true (fun _ => .inr (.inr (.inl h3))) (by simp))
   ·refine Ends.neg h3 (rkeep_j0 n bad least _ (fun h => ?_) (fun h => ?_))
    ·exact .inr (.inr (.inr (by simpa using h)))
    ·have := of_decide_eq_false h
     unfold wide
     omega
end Go.Proofs.Ytalpegglbfobiaa.G

namespace Go.Proofs.Ytalpegglbfobiaa.G
open Go.RowKit Go.Proofs.YtalpegglbfobiaaW.PrintWords Go.Proofs.YtalpegglbfobiaaW.PrintLast Go.Proofs.YtalpegglbfobiaaW.PrintMore
set_option linter.unusedVariables false
set_option linter.unusedSimpArgs false
def lowT (t : S44) : Prop := (-1099511627776 ≤ t.f0 ∧ t.f0 ≤ 1099511627776) ∧ 1 ≤ t.f1 ∧ t.f1 ≤ 1125899906842623
theorem rcut_is (r : S44) (x n : Int) (h : nearR r) (h0 : -1099511627776 ≤ x) (h1 : x ≤ 1099511627776) : papermillref13_cut.f r.f0 r.f1 r.f2 x n = some ((partR r x n).f0, (partR r x n).f1, (partR r x n).f2) := part_is r x n h h0 h1
theorem rmore_j1 (k0 : Unit) (l : List S44) (m : Int) (s : Int) (r t : S44) (hn : nearR r) (hl : l.length ≤ 20000000000) : Ends (fun k => papermillref13_more.j1 k l m s true r.f0 r.f1 r.f2 t.f0 t.f1 t.f2) (l ++ [partR r 0 r.f1]) := by
 refine Ends.succ ?_
 simp only [papermillref13_more.j1]
 exact Ends.pos (by simp) (Ends.bind (Ends.const (rcut_is r 0 r.f1 hn (by omega) (by omega))) (Ends.pos (by omega) (Ends.ret _)))
theorem joins_z1 {r t : S44} (h : goes r t = 1) : (if t.f1 > 1 then (t.f2 != (goes r t == -1)) else false) = !decide (joins r t) := by
 have hj : joins r t ↔ (t.f1 > 1 → t.f2 = false) := by
  constructor
  ·intro k h2; have := k.2 h2; rw [← this]; simp [h]
  ·intro k; exact ⟨.inl h, fun h2 => by rw [k h2]; simp [h]⟩
 rw [show (goes r t == -1) = false by rw [h]; rfl]
 by_cases h2 : t.f1 > 1
 ·rw [if_pos h2]
  cases hb : t.f2 with
  | false => rw [decide_eq_true (hj.mpr (fun _ => hb))]; rfl
  | true => rw [decide_eq_false (fun k => by have := hj.mp k h2; rw [hb] at this; cases this)]; rfl
 ·rw [if_neg h2, decide_eq_true (hj.mpr (fun k => absurd k h2))]; rfl
theorem joins_zm {r t : S44} (h : goes r t = -1) : (if t.f1 > 1 then (t.f2 != (goes r t == -1)) else false) = !decide (joins r t) := by
 have hj : joins r t ↔ (t.f1 > 1 → t.f2 = true) := by
  constructor
  ·intro k h2; have := k.2 h2; rw [← this]; simp [h]
  ·intro k; exact ⟨.inr h, fun h2 => by rw [k h2]; simp [h]⟩
 rw [show (goes r t == -1) = true by rw [h]; rfl]
 by_cases h2 : t.f1 > 1
 ·rw [if_pos h2]
  cases hb : t.f2 with
  | true => rw [decide_eq_true (hj.mpr (fun _ => hb))]; rfl
  | false => rw [decide_eq_false (fun k => by have := hj.mp k h2; rw [hb] at this; cases this)]; rfl
 ·rw [if_neg h2, decide_eq_true (hj.mpr (fun k => absurd k h2))]; rfl
theorem rmore_last (d : List S44) (t r : S44) (hl : (d ++ [t]).length ≤ 20000000000) (ht : lowT t) (hn : nearR r) (h1 : 1 ≤ r.f1) (q : List S44)
  (hj1 : ∀ z : Bool, z = !decide (joins r t) → Ends (fun k => papermillref13_more.j1 k (d ++ [t]) (d.length : Int) (goes r t) z r.f0 r.f1 r.f2 t.f0 t.f1 t.f2) q) : Ends (fun k => papermillref13_more.l0 k (d ++ [t]) r.f0 r.f1 r.f2) q := by
 refine Ends.succ ?_
 have hlen : (d ++ [t]).length = d.length + 1 := by simp
 have hw : wrap64 (((d ++ [t]).length : Int) - 1) = (d.length : Int) := by unfold wrap64; omega
 have hrd : rd_T44 (d ++ [t]) (d.length : Int) = t := by simp [rd_T44]
 have hlo := ht.1
 have hlo2 := ht.2
 have hnn := hn.1
 have hnn2 := hn.2.1
 have ew : wrap64 (t.f1 - 1) = t.f1 - 1 := by unfold wrap64; omega
 have eg : wrap64 (r.f0 - img t (t.f1 - 1)) = goes r t := by
  unfold wrap64 goes img
  split <;> omega
 have ei : papermillref13_image.f t.f0 t.f1 t.f2 (t.f1 - 1) = some (img t (t.f1 - 1)) := image_far t (t.f1 - 1) ⟨hlo, hlo2.1, by omega⟩ (by omega) (by omega)
 simp only [papermillref13_more.l0, hw, hrd, ew, ei, Option.bind_some, eg]
 refine Ends.pos (by omega) (Ends.neg (by omega) (Ends.pos (by omega) (Ends.pos (by omega) ?_)))
 by_cases e1 : goes r t = 1
 ·refine Ends.pos e1 ?_
  have hz := joins_z1 e1
  by_cases e2 : t.f1 > 1
  ·rw [if_pos e2] at hz; exact Ends.pos e2 (hj1 _ hz)
  ·rw [if_neg e2] at hz; exact Ends.neg e2 (hj1 _ hz)
 ·refine Ends.neg e1 ?_
  by_cases e3 : goes r t = -1
  ·refine Ends.pos e3 ?_
   have hz := joins_zm e3
   by_cases e2 : t.f1 > 1
   ·rw [if_pos e2] at hz; exact Ends.pos e2 (hj1 _ hz)
   ·rw [if_neg e2] at hz; exact Ends.neg e2 (hj1 _ hz)
  ·exact Ends.neg e3 (hj1 _ (by rw [decide_eq_false (fun k => by rcases k.1 with h | h; exact e1 h; exact e3 h)]; rfl))
theorem rmore_new (d : List S44) (t r : S44) (hl : (d ++ [t]).length ≤ 20000000000) (ht : lowT t) (hn : nearR r) (h1 : 1 ≤ r.f1) (hj : ¬ joins r t) : Ends (fun k => papermillref13_more.l0 k (d ++ [t]) r.f0 r.f1 r.f2) (d ++ [t] ++ [partR r 0 r.f1]) :=
 rmore_last d t r hl ht hn h1 _ (fun z hz => by
  have : z = true := by rw [hz]; simpa using hj
  rw [this]
  exact rmore_j1 () (d ++ [t]) _ _ r t hn hl)
theorem rmore_l0 (l : List S44) (r : S44) (hr : sane r) (hl : l.length ≤ 19999999990) (hlow : ∀ t ∈ l, lowT t ∧ t.f1 ≤ 1125899906842622) : Ends (fun k => papermillref13_more.l0 k l r.f0 r.f1 r.f2) (addOf l r) := by
 by_cases h0 : r.f1 < 1
 ·refine Ends.succ ?_
  simp only [papermillref13_more.l0]
  rw [addOf, if_pos h0]
  exact Ends.neg (by omega) (Ends.ret _)
 have h1 : 1 ≤ r.f1 := by omega
 rcases List.eq_nil_or_concat l with rfl | ⟨d, t, rfl⟩
 ·refine Ends.succ ?_
  simp only [papermillref13_more.l0]
  rw [addOf, if_neg h0]
  exact Ends.pos (by omega) (Ends.pos (by simp only [List.length_nil]; unfold wrap64; omega) (Ends.bind (Ends.const (rcut_is r 0 r.f1 hr.near (by omega) (by omega))) (Ends.pos (by simp) (Ends.ret _))))
 ·rw [List.concat_eq_append] at *
  obtain ⟨ht, ht9⟩ := hlow t (by simp)
  have hset : ∀ x, (d ++ [t]).set (d.length : Int).toNat x = d ++ [x] := fun x => by simp
  by_cases hj : joins r t
  ·have hadd : addOf (d ++ [t]) r = if r.f1 > 1 ∧ r.f2 ≠ decide (goes r t = -1) then d ++ [⟨t.f0, t.f1 + 1, decide (goes r t = -1)⟩] ++ [partR r 1 (r.f1 - 1)] else d ++ [⟨t.f0, t.f1 + r.f1, decide (goes r t = -1)⟩] := by
    rw [addOf, if_neg h0]
    simp only [List.reverse_append, List.reverse_cons, List.reverse_nil, List.nil_append, List.singleton_append, addR, if_pos hj]
    split <;> simp
   refine rmore_last d t r (by omega) ht hr.near h1 _ (fun z hz => ?_)
   have : z = false := by rw [hz]; simpa using hj
   rw [this]
   have hlo2 := ht.2
   have hs3 := hr.2.2
   have e1 : wrap64 (t.f1 + 1) = t.f1 + 1 := by unfold wrap64; omega
   have e2 : wrap64 (t.f1 + r.f1) = t.f1 + r.f1 := by unfold wrap64; omega
   have e3 : wrap64 (r.f1 - 1) = r.f1 - 1 := by unfold wrap64; omega
   have eb : (goes r t == -1) = decide (goes r t = -1) := rfl
   have hlen : (d ++ [t]).length = d.length + 1 := by simp
   have j2f : ¬ (r.f1 > 1 ∧ r.f2 ≠ decide (goes r t = -1)) → Ends (fun k => papermillref13_more.j2 k (d ++ [t]) (d.length : Int) (goes r t) r.f1 false r.f0 r.f1 r.f2 t.f0 t.f1 t.f2) (addOf (d ++ [t]) r) := fun hc => by
    refine Ends.succ ?_
    simp only [papermillref13_more.j2, Option.bind_some, hset, e2, eb]
    rw [hadd, if_neg hc]
    exact Ends.neg (by simp) (Ends.pos (by omega) (Ends.pos (by omega) (Ends.pos (by simp) (Ends.ret _))))
   refine Ends.succ ?_
   simp only [papermillref13_more.j1]
   refine Ends.neg (by simp) ?_
   by_cases h2 : r.f1 > 1
   ·refine Ends.pos h2 ?_
    by_cases hf : r.f2 = decide (goes r t = -1)
    ·have hb : (r.f2 != (goes r t == -1)) = false := by rw [eb, ← hf]; simp
     rw [hb]
     exact j2f (fun k => k.2 hf)
    ·have hb : (r.f2 != (goes r t == -1)) = true := by rw [eb]; simpa using hf
     rw [hb]
     refine Ends.succ ?_
     simp only [papermillref13_more.j2, Option.bind_some, hset, e1, e3, eb]
     have hp := rcut_is r 1 (r.f1 - 1) hr.near (by omega) (by omega)
     refine Ends.pos (by simp) (Ends.pos (by omega) (Ends.pos (by omega) (Ends.neg (by omega) (Ends.bind (Ends.const hp) ?_))))
     rw [hadd, if_pos ⟨h2, hf⟩]
     exact (rmore_new d ⟨t.f0, t.f1 + 1, decide (goes r t = -1)⟩ (partR r 1 (r.f1 - 1)) (by simp at hl ⊢; omega) ⟨ht.1, by dsimp only; omega, by dsimp only; omega⟩ (hr.part (by omega) (by omega) (by omega)) (by simp only [partR]; omega) (not_joins r t ht.2.1 hj hf _)).congr (by rw [show (partR r 1 (r.f1 - 1)).f1 = r.f1 - 1 from rfl, partR_part])
   ·exact Ends.neg h2 (j2f (fun k => h2 k.1))
  ·have hadd : addOf (d ++ [t]) r = d ++ [t] ++ [partR r 0 r.f1] := by
    rw [addOf, if_neg h0]
    simp only [List.reverse_append, List.reverse_cons, List.reverse_nil, List.nil_append, List.singleton_append, addR, if_neg hj]
    simp
   rw [hadd]
   exact rmore_new d t r (by omega) ht hr.near h1 hj
theorem rmore_ends (l : List S44) (r : S44) (hr : sane r) (hl : l.length ≤ 19999999990) (hlow : ∀ t ∈ l, lowT t ∧ t.f1 ≤ 1125899906842622) : Ends (fun k => papermillref13_more.f k l r.f0 r.f1 r.f2) (addOf l r) := by
 unfold papermillref13_more.f
 simp only [Option.bind_some, List.nil_append]
 exact Ends.pos (by simp; omega) (rmore_l0 l r hr hl hlow)
end Go.Proofs.Ytalpegglbfobiaa.G

namespace Go.Proofs.Ytalpegglbfobiaa.G
open Go.RowKit Go.Proofs.YtalpegglbfobiaaW.PrintWords Go.Proofs.YtalpegglbfobiaaW.PrintLast Go.Proofs.YtalpegglbfobiaaW.PrintMore
set_option linter.unusedVariables false
set_option linter.unusedSimpArgs false
theorem addOf_nrm (xs : List Int) (p : S44) (h : 1 ≤ p.f1) : addOf (nrm xs) p = nrm (xs ++ imgs p) := by
 unfold nrm
 rw [List.foldl_append, ← addR_fold p h _ (fold_ok xs [] (by simp))]
 rw [addOf, if_neg (by omega), List.reverse_reverse]
theorem nrm_short (xs : List Int) : (nrm xs).length ≤ xs.length := by
 have key : ∀ (xs : List Int) (l : List S44), (xs.foldl one l).length ≤ l.length + xs.length := by
  intro xs
  induction xs with
  | nil => intro l; simp
  | cons x xs ih => intro l; have := ih (one l x); have := addR_len ⟨x, 1, false⟩ l; simp only [List.foldl_cons, List.length_cons]; unfold one at *; omega
 have := key xs []
 unfold nrm
 simpa using this
theorem nrm_low (xs : List Int) (hf : fitX xs) (hl : xs.length ≤ 17179869184) : ∀ t ∈ nrm xs, lowT t ∧ t.f1 ≤ 1125899906842622 := by
 intro t ht
 have h1 := (nrm_ok xs t ht).1
 have m0 := mem_sem ht 0 (by omega)
 have hlen := len_sem_mem ht
 rw [sem_nrm] at m0 hlen
 have b0 := hf _ m0
 have e0 : img t ((0 : Nat) : Int) = t.f0 := by unfold img; split <;> simp
 rw [e0] at b0
 unfold lowT
 omega
theorem rmore_nrm (xs : List Int) (hf : fitX xs) (r : S44) (h1 : 1 ≤ r.f1) (hr : sane r) (hl : xs.length ≤ 17179869184) : Ends (fun k => papermillref13_more.f k (nrm xs) r.f0 r.f1 r.f2) (nrm (xs ++ imgs r)) :=
 (rmore_ends (nrm xs) r hr (by have := nrm_short xs; omega) (nrm_low xs hf hl)).congr (addOf_nrm xs r h1)
end Go.Proofs.Ytalpegglbfobiaa.G
