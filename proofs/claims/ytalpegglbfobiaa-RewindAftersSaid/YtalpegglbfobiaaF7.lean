import Derived.Test.YtalpegglbfobiaaQ1
import Derived.Test.YtalpegglbfobiaaF6
import Derived.Test.YtalpegglbfobiaaQ4
import Derived.Test.YtalpegglbfobiaaQ5
import Derived.Deep.Slices
import Derived.Deep.Fields
import Derived.ChangeSame
import Derived.ChangeArms
import Derived.Test.YtalpegglbfobiaaQ3
namespace Go.Proofs.Ytalpegglbfobiaa.G
open Go.RowKit Go.Proofs.YtalpegglbfobiaaW.PrintWords Go.Proofs.YtalpegglbfobiaaW.PrintLast Go.Proofs.YtalpegglbfobiaaW.PrintMore
attribute [local go_sem] max2_int min2_int max_two min_two max_three min_three max_four min_four   -- for this text's walks alone
set_option linter.unusedVariables false
set_option linter.unusedSimpArgs false

mutual
def papermillref13_Compose.l0 : Nat → List (S44) → List (S44) → List (S44) → Int → Option ((List (S44)) × Int)
 | 0, _, _, _, _ => none
 | k + 1, x0, x1, x8, x9 => if x9 < (x0.length : Int) then (if 0 ≤ x9 then (papermillref13_Compose.l1 k x0 x1 x8 x9 ((rd_T44 x0 x9).f0) ((rd_T44 x0 x9).f1) ((rd_T44 x0 x9).f2)) else (none)) else ((papermillref13_limited.f x8).bind fun bt43003 => (some (bt43003.1, bt43003.2)))
def papermillref13_Compose.l1 : Nat → List (S44) → List (S44) → List (S44) → Int → Int → Int → Bool → Option ((List (S44)) × Int)
 | 0, _, _, _, _, _, _, _ => none
 | k + 1, x0, x1, x8, x9, x43009000, x43009001, x43009002 => if x43009001 > 0 then ((papermillref13_place.f k x1 x43009000).bind fun bt43009 => (if bt43009.1 < 0 then (some (([] : List (S44)), 21)) else (if 0 ≤ bt43009.1 then (if bt43009.1 < (x1.length : Int) then (if x43009002 = true then (papermillref13_Compose.j2 k x0 x1 x8 x9 bt43009.2 (mn x43009001 (wrap64 (bt43009.2 + 1))) (!((rd_T44 x1 bt43009.1).f2)) x43009000 x43009001 x43009002 ((rd_T44 x1 bt43009.1).f0) ((rd_T44 x1 bt43009.1).f1) ((rd_T44 x1 bt43009.1).f2)) else (papermillref13_Compose.j2 k x0 x1 x8 x9 bt43009.2 (mn x43009001 (wrap64 (((rd_T44 x1 bt43009.1).f1) - bt43009.2))) ((rd_T44 x1 bt43009.1).f2) x43009000 x43009001 x43009002 ((rd_T44 x1 bt43009.1).f0) ((rd_T44 x1 bt43009.1).f1) ((rd_T44 x1 bt43009.1).f2))) else (none)) else (none)))) else (papermillref13_Compose.l0 k x0 x1 x8 (wrap64 (x9 + 1)))
def papermillref13_Compose.j2 : Nat → List (S44) → List (S44) → List (S44) → Int → Int → Int → Bool → Int → Int → Bool → Int → Int → Bool → Option ((List (S44)) × Int)
 | 0, _, _, _, _, _, _, _, _, _, _, _, _, _ => none
 | k + 1, x0, x1, x8, x9, x12, x14, x15, x43009000, x43009001, x43009002, x43013000, x43013001, x43013002 => (papermillref13_image.f x43013000 x43013001 x43013002 x12).bind fun t43013 => (if x15 = true then ((papermillref13_more.f k x8 t43013 x14 (decide (x14 > 1))).bind fun t43014 => (if x14 = x43009001 then (papermillref13_Compose.l0 k x0 x1 t43014 (wrap64 (x9 + 1))) else ((papermillref13_image.f x43009000 x43009001 x43009002 x14).bind fun t43017 => (papermillref13_Compose.l1 k x0 x1 t43014 x9 t43017 (wrap64 (x43009001 - x14)) x43009002)))) else ((papermillref13_more.f k x8 t43013 x14 false).bind fun t43018 => (if x14 = x43009001 then (papermillref13_Compose.l0 k x0 x1 t43018 (wrap64 (x9 + 1))) else ((papermillref13_image.f x43009000 x43009001 x43009002 x14).bind fun t43021 => (papermillref13_Compose.l1 k x0 x1 t43018 x9 t43021 (wrap64 (x43009001 - x14)) x43009002)))))
end
def papermillref13_Compose.f (k : Nat) (l0 : List (S44)) (l1 : List (S44)) : Option ((List (S44)) × Int) := (papermillref13_Check.f k l0).bind fun t43001 => (if t43001 = 0 then ((papermillref13_Check.f k l1).bind fun t43002 => (if t43002 = 0 then (papermillref13_Compose.l0 k l0 l1 ([] : List (S44)) 0) else (some (([] : List (S44)), t43002)))) else (some (([] : List (S44)), t43001)))
def papermillref13_Compose.T24 : Bool × List (List Nat × List Nat) := (true, [([], []), ([], []), ([0, 1], [0, 1]), ([], []), ([3], [3]), ([], []), ([4, 5], [4, 5]), ([], []), ([7], [7]), ([2, 6, 8], [2, 6, 8]), ([9, 2, 0, 1, 2, 3, 4, 5, 6, 7, 8, 9], [9])])
def papermillref13_Compose.B24 : List Nat := [0, 0, 3, 0, 8, 0, 56, 0, 128, 511, 1023]
theorem papermillref13_Compose.tab24 : rtab .any (opsOf Try.f42 24) = papermillref13_Compose.T24 := by kernel_rfl
theorem papermillref13_Compose.bits24 : waitsOk papermillref13_Compose.T24.2 papermillref13_Compose.B24 = true := by kernel_rfl
set_option maxHeartbeats 8000000 in
set_option maxRecDepth 100000 in
theorem papermillref13_Compose.calls (k : Nat) (A0 : Option Addr) (c0 : Nat) (l0 : List (S44)) (A1 : Option Addr) (c1 : Nat) (l1 : List (S44)) (r1 : List (S44)) (r2 : Int) (w : World) (hr0 : Kd.C k44 w A0 l0.length l0) (hc0 : l0.length ≤ c0) (hr1 : Kd.C k44 w A1 l1.length l1) (hc1 : l1.length ≤ c1) (h : papermillref13_Compose.f k l0 l1 = some (r1, r2)) :
  Calls Try.prog 42 #[.slice A0 l0.length c0, .slice A1 l1.length c1] w fun e w' => ∃ v0_ : Value, e = .returned (.tuple #[v0_, .int .i64 r2]) ∧ Kd.R k44 44 w' w.heap.size (fun _ => True) v0_ r1 ∧ Below w.heap.size w w' := by
 have hu44 := Try.underlying44
 have HR0 := Aside0.mk hr0
 have HC0 := Aside0.mk hc0
 clear hr0 hc0
 have HR1 := Aside0.mk hr1
 have HC1 := Aside0.mk hc1
 clear hr1 hc1
 have HB := Aside0.mk (Below.refl w.heap.size w)
 have H : ((papermillref13_Check.f k l0).bind fun t43001 => (if t43001 = 0 then ((papermillref13_Check.f k l1).bind fun t43002 => (if t43002 = 0 then (papermillref13_Compose.l0 k l0 l1 ([] : List (S44)) 0) else (some (([] : List (S44)), t43002)))) else (some (([] : List (S44)), t43001)))) = some (r1, r2) := h
 clear h
 replace H := Option.bind_eq_some_iff.mp H
 obtain ⟨t43001, A30, H⟩ := H
 replace H : (if t43001 = 0 then ((papermillref13_Check.f k l1).bind fun t43002 => (if t43002 = 0 then (papermillref13_Compose.l0 k l0 l1 ([] : List (S44)) 0) else (some (([] : List (S44)), t43002)))) else (some (([] : List (S44)), t43001))) = some (r1, r2) := H
 have A3 := Aside0.mk A30
 clear A30
 by_cases c4 : t43001 = 0
 ·rw [if_pos c4] at H
  have c4b0 : (t43001 == 0) = true := beq_iff_eq.mpr c4
  have c4b1 : (t43001 != 0) = false := bne_eq_false_iff_eq.mpr c4
  clear c4
  replace H := Option.bind_eq_some_iff.mp H
  obtain ⟨t43002, A50, H⟩ := H
  replace H : (if t43002 = 0 then (papermillref13_Compose.l0 k l0 l1 ([] : List (S44)) 0) else (some (([] : List (S44)), t43002))) = some (r1, r2) := H
  have A5 := Aside0.mk A50
  clear A50
  by_cases c6 : t43002 = 0
  ·rw [if_pos c6] at H
   have c6b0 : (t43002 == 0) = true := beq_iff_eq.mpr c6
   have c6b1 : (t43002 != 0) = false := bne_eq_false_iff_eq.mpr c6
   clear c6
   have H' := Aside0.mk H
   clear H
   go_enter Try.func42, Try.ntmps42
   go_wp2_with (first | ((with_reducible refine gate_callee (f := 25) rfl ?_); refine goesL_ (some 17) rfl rfl Try.func25 (by kernel_rfl) rfl #[.slice A0 l0.length c0] rfl (by (try simp only [List.map_toArray, List.map_cons, List.map_nil]); first | done | rfl | (simp only [List.length_drop, List.length_take]; rfl)) ?_; (with_reducible refine (papermillref13_Check.calls k _ _ l0 t43001 _ ?side1 ?side2 A3.out).mono ?_); (case side1 => exact HR0.out); (case side2 => exact HC0.out); rintro e w7 ⟨rfl, hb⟩; refine ⟨_, rfl, ?_⟩; have n0_ := Aside0.mk (below_step (by repeat (first | exact HB.out | apply below_alloc | apply pw_below_drewN | apply below_drew1)) hb); clear HB; have HB := n0_; clear n0_; (try clear hb); (try clear hb2); (try clear hk); (try clear hi)) | ((with_reducible refine gate_callee (f := 25) rfl ?_); refine goesL_ (some 22) rfl rfl Try.func25 (by kernel_rfl) rfl #[.slice A1 l1.length c1] rfl (by (try simp only [List.map_toArray, List.map_cons, List.map_nil]); first | done | rfl | (simp only [List.length_drop, List.length_take]; rfl)) ?_; (with_reducible refine (papermillref13_Check.calls k _ _ l1 t43002 _ ?side1 ?side2 A5.out).mono ?_); (case side1 => exact (Kd.C_below HR1.out HB.out)); (case side2 => exact HC1.out); rintro e w8 ⟨rfl, hb⟩; refine ⟨_, rfl, ?_⟩; have n0_ := Aside0.mk (below_step (by repeat (first | exact HB.out | apply below_alloc | apply pw_below_drewN | apply below_drew1)) hb); clear HB; have HB := n0_; clear n0_; (try clear hb); (try clear hb2); (try clear hk); (try clear hi)))
   go_loopg [8, 9] k (fun kq v8 v9 w' => ∃ (x8_1 : List (S44)) (x9_1 : Int), v9 = .int .i64 x9_1 ∧ Aside0 (papermillref13_Compose.l0 kq l0 l1 x8_1 x9_1 = some (r1, r2)) ∧ Aside0 (kq ≤ k) ∧ Aside0 (Kd.R k44 44 w' w.heap.size (fun _ => True) v8 x8_1) ∧ Aside0 (Below w.heap.size w w'))
   case atStart => exact ⟨(([] : List (S44))), (0), (by first | rfl | (simp; done) | (simp [*]; done)), H', ⟨Nat.le_refl _⟩, ⟨by first | exact Kd.R_nil _ _ _ _ _ | exact Kd.N_nil _ _ _ _ _ | exact Kd.V_nil _ _ _ _ _ | exact Kd.Q_nil _ _ _ _ _ | exact Kd.S_nil _ _ _ _ _⟩, ⟨by repeat (first | exact HB.out | apply below_alloc | apply pw_below_drewN | apply below_drew1)⟩⟩
   case round =>
    clear H'
    try clear c1
    try clear c2
    try clear p2
    try clear c4
    try clear c4b0
    try clear c4b1
    try clear c6
    try clear c6b0
    try clear c6b1
    obtain ⟨x8_1, x9_1, rfl, HA, HK1, HO_8, HB⟩ := hrel
    cases gk with
    | zero => exact absurd HA.out (by simp [papermillref13_Compose.l0])
    | succ k1 =>
     have H := HA.out
     clear HA
     simp only [papermillref13_Compose.l0] at H
     by_cases c9 : x9_1 < (l0.length : Int)
     ·rw [if_pos c9] at H
      have c9b0 : decide (x9_1 < (l0.length : Int)) = true := decide_eq_true c9
      clear c9
      by_cases c10 : 0 ≤ x9_1
      ·rw [if_pos c10] at H
       have c10b0 : decide (0 ≤ x9_1) = true := decide_eq_true c10
       clear c10
       have H' := Aside0.mk H
       clear H
       have p43007 : 0 ≤ (x9_1 : Int) := of_decide_eq_true (by assumption)
       have q43007 : x9_1 < (l0.length : Int) := of_decide_eq_true (by assumption)
       obtain ⟨ad43007, e43007, hx43007_0, hx43007_1, hx43007_2⟩ := at_T44 HR0.out x9_1 p43007 q43007
       cases e43007
       replace hx43007_0 := (HB.out.cell (World.block_lt_of_cell? w _ hx43007_0)).trans hx43007_0
       replace hx43007_1 := (HB.out.cell (World.block_lt_of_cell? w _ hx43007_1)).trans hx43007_1
       replace hx43007_2 := (HB.out.cell (World.block_lt_of_cell? w _ hx43007_2)).trans hx43007_2
       replace p43007 := eq_true p43007
       replace q43007 := eq_true q43007
       go_wp2_with (first | ((with_reducible refine gate_dst (N := 10) rfl ?_); refine box_event ?hg (N := 10) ?hd (cs := #[.int .i64 0, .int .i64 0, .bool false]) (t := 44) ?hr ?_; (case hd => rfl); (case hg => rfl); (case hr => first | (go_simp; done) | (go_simp; rfl)); intro gb43008 hg w11 hbox hb; have n0_ := Aside0.mk (Kd.R_below (Kd.R_elderB (HO_8.out) gb43008 (Nat.le_of_eq hg.symm)) hb); have n1_ := Aside0.mk (below_step (by repeat (first | exact HB.out | apply below_alloc | apply pw_below_drewN | apply below_drew1)) hb); have n2_ := Aside0.mk (hbox); have n3_ := Aside0.mk ((by rw [hg]; exact (below_size (by repeat (first | exact HB.out | apply below_alloc | apply pw_below_drewN | apply below_drew1))) : w.heap.size ≤ gb43008)); have n4_ := Aside0.mk ((by rw [hg]; exact (below_size (by repeat (first | exact HB.out | apply below_alloc | apply pw_below_drewN | apply below_drew1))) : w.heap.size ≤ gb43008)); clear HO_8; clear HB; have HO_8 := n0_; have HB := n1_; have BK43008 := n2_; have GW43008 := n3_; have GE43008 := n4_; clear n0_ n1_ n2_ n3_ n4_; clear hb hbox hg; have hcz12_0 : w11.cell? ⟨gb43008, 0, none⟩ = some (.int .i64 0) := (blk_cell BK43008.out 0).trans rfl; have hcz12_1 : w11.cell? ⟨gb43008, 1, none⟩ = some (.int .i64 0) := (blk_cell BK43008.out 1).trans rfl; have hcz12_2 : w11.cell? ⟨gb43008, 2, none⟩ = some (.bool false) := (blk_cell BK43008.out 2).trans rfl; have hfz12_0 := blk_frozen BK43008.out 0; have hfz12_1 := blk_frozen BK43008.out 1; have hfz12_2 := blk_frozen BK43008.out 2))
       go_loopg [8] k1 (fun kq v8 w' => ∃ (x8_2 : List (S44)) (x43009000_2 : Int) (x43009001_2 : Int) (x43009002_2 : Bool), Aside0 (papermillref13_Compose.l1 kq l0 l1 x8_2 x9_1 x43009000_2 x43009001_2 x43009002_2 = some (r1, r2)) ∧ Aside0 (kq ≤ k1) ∧ Aside0 (Kd.R k44 44 w' w.heap.size (fun k_ => k_ ≠ gb43008) v8 x8_2) ∧ Aside0 (w'.heap[gb43008]? = some (.cells #[.int .i64 x43009000_2, .int .i64 x43009001_2, .bool x43009002_2] 44 (0, 0))) ∧ Aside0 (Below w.heap.size w w'))
       case atStart => exact ⟨(x8_1), ((rd_T44 l0 x9_1).f0), ((rd_T44 l0 x9_1).f1), ((rd_T44 l0 x9_1).f2), H', ⟨Nat.le_refl _⟩, ⟨by exact Kd.R_mono (Kd.R_far (p := ⟨gb43008, 2, none⟩) (Kd.R_far (p := ⟨gb43008, 1, none⟩) (Kd.R_far (p := ⟨gb43008, 0, none⟩) (Kd.R_mono HO_8.out (fun k_ hk => (⟨hk, hk.2⟩ : _ ∧ k_ ≠ gb43008))) (fun _ hk => hk.2) (.int .i64 ((rd_T44 l0 x9_1).f0))) (fun _ hk => hk.2) (.int .i64 ((rd_T44 l0 x9_1).f1))) (fun _ hk => hk.2) (.bool ((rd_T44 l0 x9_1).f2))) (fun _ hk => hk.1.2)⟩, ⟨by refine blk_put (cs := #[.int .i64 ((rd_T44 l0 x9_1).f0), .int .i64 ((rd_T44 l0 x9_1).f1), .bool false]) ?_ 2 _ rfl; refine blk_put (cs := #[.int .i64 ((rd_T44 l0 x9_1).f0), .int .i64 0, .bool false]) ?_ 1 _ rfl; refine blk_put (cs := #[.int .i64 0, .int .i64 0, .bool false]) ?_ 0 _ rfl; exact BK43008.out⟩, ⟨by repeat (first | exact HB.out | apply below_alloc | apply pw_below_drewN | apply below_drew1 | refine below_set ?_ GE43008.out)⟩⟩
       case round =>
        clear H'
        try clear c1
        try clear c2
        try clear p2
        try clear c4
        try clear c4b0
        try clear c4b1
        try clear p4
        try clear q4
        try clear hx4
        try clear c6
        try clear c6b0
        try clear c6b1
        try clear c9
        try clear c9b0
        try clear c10
        try clear c10b0
        try clear hcz12_0
        try clear hcz12_1
        try clear hcz12_2
        try clear hfz12_0
        try clear hfz12_1
        try clear hfz12_2
        try clear hx43007_0
        try clear hx43007_1
        try clear hx43007_2
        try clear p2
        try clear p43007
        try clear q43007
        obtain ⟨x8_2, x43009000_2, x43009001_2, x43009002_2, HA, HK2, HO_8, BK43008, HB⟩ := hrel
        cases gk with
        | zero => exact absurd HA.out (by simp [papermillref13_Compose.l1])
        | succ k2 =>
         have H := HA.out
         clear HA
         simp only [papermillref13_Compose.l1] at H
         by_cases c13 : x43009001_2 > 0
         ·rw [if_pos c13] at H
          have c13b0 : decide (0 < x43009001_2) = true := decide_eq_true c13
          clear c13
          replace H := Option.bind_eq_some_iff.mp H
          obtain ⟨⟨t43009, t43010⟩, A140, H⟩ := H
          replace H : (if t43009 < 0 then (some (([] : List (S44)), 21)) else (if 0 ≤ t43009 then (if t43009 < (l1.length : Int) then (if x43009002_2 = true then (papermillref13_Compose.j2 k2 l0 l1 x8_2 x9_1 t43010 (mn x43009001_2 (wrap64 (t43010 + 1))) (!((rd_T44 l1 t43009).f2)) x43009000_2 x43009001_2 x43009002_2 ((rd_T44 l1 t43009).f0) ((rd_T44 l1 t43009).f1) ((rd_T44 l1 t43009).f2)) else (papermillref13_Compose.j2 k2 l0 l1 x8_2 x9_1 t43010 (mn x43009001_2 (wrap64 (((rd_T44 l1 t43009).f1) - t43010))) ((rd_T44 l1 t43009).f2) x43009000_2 x43009001_2 x43009002_2 ((rd_T44 l1 t43009).f0) ((rd_T44 l1 t43009).f1) ((rd_T44 l1 t43009).f2))) else (none)) else (none))) = some (r1, r2) := H
          have A14 := Aside0.mk A140
          clear A140
          by_cases c15 : t43009 < 0
          ·rw [if_pos c15] at H
           have c15b0 : decide (t43009 < 0) = true := decide_eq_true c15
           clear c15
           simp only [Option.some.injEq, Prod.mk.injEq] at H
           obtain ⟨rfl, rfl⟩ := H
           have hcz16_0 : wr.cell? ⟨gb43008, 0, none⟩ = some (.int .i64 x43009000_2) := (blk_cell BK43008.out 0).trans rfl
           have hcz16_1 : wr.cell? ⟨gb43008, 1, none⟩ = some (.int .i64 x43009001_2) := (blk_cell BK43008.out 1).trans rfl
           have hcz16_2 : wr.cell? ⟨gb43008, 2, none⟩ = some (.bool x43009002_2) := (blk_cell BK43008.out 2).trans rfl
           have hfz16_0 := blk_frozen BK43008.out 0
           have hfz16_1 := blk_frozen BK43008.out 1
           have hfz16_2 := blk_frozen BK43008.out 2
           go_wp2_with (first | ((with_reducible refine gate_callee (f := 47) rfl ?_); refine goesL_ (some 43) rfl rfl Try.func47 (by kernel_rfl) rfl #[.slice A1 l1.length c1, .int .i64 x43009000_2] rfl (by (try simp only [List.map_toArray, List.map_cons, List.map_nil]); first | done | rfl | (simp only [List.length_drop, List.length_take]; rfl)) ?_; (with_reducible refine (papermillref13_place.calls k2 _ _ l1 x43009000_2 t43009 t43010 _ ?side1 ?side2 A14.out).mono ?_); (case side1 => exact (Kd.C_below HR1.out HB.out)); (case side2 => exact HC1.out); rintro e w' ⟨rfl, ⟨nd, rfl⟩⟩; refine ⟨_, rfl, ?_⟩))
           go_ret2
           exact ⟨_, by first | rfl | (simp [errW_none, errW_some] <;> rfl) | (simp [*, errW_none, errW_some] <;> rfl), by first | exact Kd.R_nil _ _ _ _ _ | exact Kd.N_nil _ _ _ _ _ | exact Kd.V_nil _ _ _ _ _ | exact Kd.Q_nil _ _ _ _ _ | exact Kd.S_nil _ _ _ _ _, by repeat (first | exact HB.out | apply below_alloc | apply pw_below_drewN | apply below_drew1 | refine below_set ?_ GE43008.out)⟩
          ·rw [if_neg c15] at H
           have c15b0 : decide (t43009 < 0) = false := decide_eq_false c15
           clear c15
           by_cases c17 : 0 ≤ t43009
           ·rw [if_pos c17] at H
            have c17b0 : decide (0 ≤ t43009) = true := decide_eq_true c17
            clear c17
            by_cases c18 : t43009 < (l1.length : Int)
            ·rw [if_pos c18] at H
             have c18b0 : decide (t43009 < (l1.length : Int)) = true := decide_eq_true c18
             clear c18
             obtain ⟨ji19, hji19⟩ : ∃ j_ : Int, (mn x43009001_2 (wrap64 (((rd_T44 l1 t43009).f1) - t43010))) = j_ := ⟨_, rfl⟩
             replace H : (if x43009002_2 = true then (papermillref13_Compose.j2 k2 l0 l1 x8_2 x9_1 t43010 (mn x43009001_2 (wrap64 (t43010 + 1))) (!((rd_T44 l1 t43009).f2)) x43009000_2 x43009001_2 x43009002_2 ((rd_T44 l1 t43009).f0) ((rd_T44 l1 t43009).f1) ((rd_T44 l1 t43009).f2)) else (papermillref13_Compose.j2 k2 l0 l1 x8_2 x9_1 t43010 ji19 ((rd_T44 l1 t43009).f2) x43009000_2 x43009001_2 x43009002_2 ((rd_T44 l1 t43009).f0) ((rd_T44 l1 t43009).f1) ((rd_T44 l1 t43009).f2))) = some (r1, r2) := by first | (rw [hji19] at H; exact H) | (simp only [hji19] at H ⊢; exact H)
             (try rw [hji19] at A14)
             have hji19_ : (if (wrap64 (((rd_T44 l1 t43009).f1) - t43010)) < x43009001_2 then (wrap64 (((rd_T44 l1 t43009).f1) - t43010)) else x43009001_2) = ji19 := hji19
             have HC20 := Aside0.mk H
             clear H
             have hcz21_0 : wr.cell? ⟨gb43008, 0, none⟩ = some (.int .i64 x43009000_2) := (blk_cell BK43008.out 0).trans rfl
             have hcz21_1 : wr.cell? ⟨gb43008, 1, none⟩ = some (.int .i64 x43009001_2) := (blk_cell BK43008.out 1).trans rfl
             have hcz21_2 : wr.cell? ⟨gb43008, 2, none⟩ = some (.bool x43009002_2) := (blk_cell BK43008.out 2).trans rfl
             have hfz21_0 := blk_frozen BK43008.out 0
             have hfz21_1 := blk_frozen BK43008.out 1
             have hfz21_2 := blk_frozen BK43008.out 2
             go_upto_if 62 with (first | ((with_reducible refine gate_callee (f := 47) rfl ?_); refine goesL_ (some 43) rfl rfl Try.func47 (by kernel_rfl) rfl #[.slice A1 l1.length c1, .int .i64 x43009000_2] rfl (by (try simp only [List.map_toArray, List.map_cons, List.map_nil]); first | done | rfl | (simp only [List.length_drop, List.length_take]; rfl)) ?_; (with_reducible refine (papermillref13_place.calls k2 _ _ l1 x43009000_2 t43009 t43010 _ ?side1 ?side2 A14.out).mono ?_); (case side1 => exact (Kd.C_below HR1.out HB.out)); (case side2 => exact HC1.out); rintro e w' ⟨rfl, ⟨nd, rfl⟩⟩; refine ⟨_, rfl, ?_⟩; (try (rw [drewN_self wr]; generalize hq_ : World.drewN wr _ = wr; have n0_ : Aside0 (Kd.R k44 44 wr w.heap.size (fun k_ => k_ ≠ gb43008) u8 x8_2) := ⟨by rw [← hq_]; exact (HO_8.out)⟩; have n1_ : Aside0 (wr.heap[gb43008]? = some (.cells #[.int .i64 x43009000_2, .int .i64 x43009001_2, .bool x43009002_2] 44 (0, 0))) := ⟨by rw [← hq_]; exact (BK43008.out)⟩; have n2_ : Aside0 (Below w.heap.size w wr) := ⟨by rw [← hq_]; exact (by repeat (first | exact HB.out | apply below_alloc | apply pw_below_drewN | apply below_drew1 | refine below_set ?_ GE43008.out))⟩; clear HO_8 BK43008 HB hq_; have HO_8 := n0_; have BK43008 := n1_; have HB := n2_; clear n0_ n1_ n2_)); have p43011 : 0 ≤ (t43009 : Int) := of_decide_eq_true (by assumption); have q43011 : t43009 < (l1.length : Int) := of_decide_eq_true (by assumption); obtain ⟨ad43011, e43011, hx43011_0, hx43011_1, hx43011_2⟩ := at_T44 HR1.out t43009 p43011 q43011; cases e43011; replace hx43011_0 := (HB.out.cell (World.block_lt_of_cell? w _ hx43011_0)).trans hx43011_0; replace hx43011_1 := (HB.out.cell (World.block_lt_of_cell? w _ hx43011_1)).trans hx43011_1; replace hx43011_2 := (HB.out.cell (World.block_lt_of_cell? w _ hx43011_2)).trans hx43011_2; replace p43011 := eq_true p43011; replace q43011 := eq_true q43011) | ((with_reducible refine gate_dst (N := 13) rfl ?_); refine box_event ?hg (N := 13) ?hd (cs := #[.int .i64 0, .int .i64 0, .bool false]) (t := 44) ?hr ?_; (case hd => rfl); (case hg => rfl); (case hr => first | (go_simp; done) | (go_simp; rfl)); intro gb43012 hg w22 hbox hb; have n0_ := Aside0.mk (Kd.R_below (Kd.R_elderB (HO_8.out) gb43012 (Nat.le_of_eq hg.symm)) hb); have n1_ := Aside0.mk (blk_below (g := gb43008) (o := .cells #[.int .i64 x43009000_2, .int .i64 x43009001_2, .bool x43009002_2] 44 (0, 0)) (BK43008.out) hb); have n2_ := Aside0.mk (below_step (by repeat (first | exact HB.out | apply below_alloc | apply pw_below_drewN | apply below_drew1 | refine below_set ?_ GE43008.out)) hb); have n3_ := Aside0.mk (hbox); have n4_ := Aside0.mk ((by rw [hg]; exact (below_size (by repeat (first | exact HB.out | apply below_alloc | apply pw_below_drewN | apply below_drew1 | refine below_set ?_ GE43008.out))) : w.heap.size ≤ gb43012)); have n5_ := Aside0.mk ((by rw [hg]; exact (below_size (by repeat (first | exact HB.out | apply below_alloc | apply pw_below_drewN | apply below_drew1 | refine below_set ?_ GE43008.out))) : w.heap.size ≤ gb43012)); have n6_ := Aside0.mk ((by rw [hg]; exact Nat.ne_of_lt (blk_lt (g := gb43008) (o := .cells #[.int .i64 x43009000_2, .int .i64 x43009001_2, .bool x43009002_2] 44 (0, 0)) (BK43008.out)) : gb43008 ≠ gb43012)); have n7_ := Aside0.mk ((by rw [hg]; exact Nat.ne_of_gt (blk_lt (g := gb43008) (o := .cells #[.int .i64 x43009000_2, .int .i64 x43009001_2, .bool x43009002_2] 44 (0, 0)) (BK43008.out)) : gb43012 ≠ gb43008)); clear HO_8; clear BK43008; clear HB; have HO_8 := n0_; have BK43008 := n1_; have HB := n2_; have BK43012 := n3_; have GW43012 := n4_; have GE43012 := n5_; have NB43008_43012 := n6_; have NB43012_43008 := n7_; clear n0_ n1_ n2_ n3_ n4_ n5_ n6_ n7_; clear hb hbox hg; have hnb23 := NB43012_43008.out; have hnc23 := NB43008_43012.out; have hcz24_0 : w22.cell? ⟨gb43012, 0, none⟩ = some (.int .i64 0) := (blk_cell BK43012.out 0).trans rfl; have hcz24_1 : w22.cell? ⟨gb43012, 1, none⟩ = some (.int .i64 0) := (blk_cell BK43012.out 1).trans rfl; have hcz24_2 : w22.cell? ⟨gb43012, 2, none⟩ = some (.bool false) := (blk_cell BK43012.out 2).trans rfl; have hfz24_0 := blk_frozen BK43012.out 0; have hfz24_1 := blk_frozen BK43012.out 1; have hfz24_2 := blk_frozen BK43012.out 2; have hcz25_0 : w22.cell? ⟨gb43008, 0, none⟩ = some (.int .i64 x43009000_2) := (blk_cell BK43008.out 0).trans rfl; have hcz25_1 : w22.cell? ⟨gb43008, 1, none⟩ = some (.int .i64 x43009001_2) := (blk_cell BK43008.out 1).trans rfl; have hcz25_2 : w22.cell? ⟨gb43008, 2, none⟩ = some (.bool x43009002_2) := (blk_cell BK43008.out 2).trans rfl; have hfz25_0 := blk_frozen BK43008.out 0; have hfz25_1 := blk_frozen BK43008.out 1; have hfz25_2 := blk_frozen BK43008.out 2))
             (try simp only [Act.put, List.setIfInBounds_toArray, List.set_cons_zero, List.set_cons_succ])
             go_cut [14, 15] (fun v14 v15 wc => ∃ (kq : Nat) (x14_19 : Int) (x15_19 : Bool), v14 = .int .i64 x14_19 ∧ v15 = .bool x15_19 ∧ Aside0 (papermillref13_Compose.j2 kq l0 l1 x8_2 x9_1 t43010 x14_19 x15_19 x43009000_2 x43009001_2 x43009002_2 ((rd_T44 l1 t43009).f0) ((rd_T44 l1 t43009).f1) ((rd_T44 l1 t43009).f2) = some (r1, r2)) ∧ Aside0 (kq ≤ k2) ∧ Aside0 (Kd.R k44 44 wc w.heap.size (fun k_ => k_ ≠ gb43008 ∧ k_ ≠ gb43012) u8 x8_2) ∧ Aside0 (wc.heap[gb43008]? = some (.cells #[.int .i64 x43009000_2, .int .i64 x43009001_2, .bool x43009002_2] 44 (0, 0))) ∧ Aside0 (wc.heap[gb43012]? = some (.cells #[.int .i64 ((rd_T44 l1 t43009).f0), .int .i64 ((rd_T44 l1 t43009).f1), .bool ((rd_T44 l1 t43009).f2)] 44 (0, 0))) ∧ Aside0 (Below w.heap.size w wc))
             case first =>
              have H := HC20.out
              clear HC20
              by_cases c26 : x43009002_2 = true
              ·subst c26
               have H1 : (papermillref13_Compose.j2 k2 l0 l1 x8_2 x9_1 t43010 (mn x43009001_2 (wrap64 (t43010 + 1))) (!((rd_T44 l1 t43009).f2)) x43009000_2 x43009001_2 true ((rd_T44 l1 t43009).f0) ((rd_T44 l1 t43009).f1) ((rd_T44 l1 t43009).f2)) = some (r1, r2) := by rw [if_pos rfl] at H; exact H
               clear H
               have H := H1
               clear H1
               obtain ⟨ji27, hji27⟩ : ∃ j_ : Int, (mn x43009001_2 (wrap64 (t43010 + 1))) = j_ := ⟨_, rfl⟩
               replace H : (papermillref13_Compose.j2 k2 l0 l1 x8_2 x9_1 t43010 ji27 (!((rd_T44 l1 t43009).f2)) x43009000_2 x43009001_2 true ((rd_T44 l1 t43009).f0) ((rd_T44 l1 t43009).f1) ((rd_T44 l1 t43009).f2)) = some (r1, r2) := by first | (rw [hji27] at H; exact H) | (simp only [hji27] at H ⊢; exact H)
               have hji27_ : (if (wrap64 (t43010 + 1)) < x43009001_2 then (wrap64 (t43010 + 1)) else x43009001_2) = ji27 := hji27
               have H' := Aside0.mk H
               clear H
               have hnb28 := NB43008_43012.out
               have hnc28 := NB43012_43008.out
               have hcz29_0 : w22.cell? ⟨gb43008, 0, none⟩ = some (.int .i64 x43009000_2) := (blk_cell BK43008.out 0).trans rfl
               have hcz29_1 : w22.cell? ⟨gb43008, 1, none⟩ = some (.int .i64 x43009001_2) := (blk_cell BK43008.out 1).trans rfl
               have hcz29_2 : w22.cell? ⟨gb43008, 2, none⟩ = some (.bool true) := (blk_cell BK43008.out 2).trans rfl
               have hfz29_0 := blk_frozen BK43008.out 0
               have hfz29_1 := blk_frozen BK43008.out 1
               have hfz29_2 := blk_frozen BK43008.out 2
               have hcz30_0 : w22.cell? ⟨gb43012, 0, none⟩ = some (.int .i64 0) := (blk_cell BK43012.out 0).trans rfl
               have hcz30_1 : w22.cell? ⟨gb43012, 1, none⟩ = some (.int .i64 0) := (blk_cell BK43012.out 1).trans rfl
               have hcz30_2 : w22.cell? ⟨gb43012, 2, none⟩ = some (.bool false) := (blk_cell BK43012.out 2).trans rfl
               have hfz30_0 := blk_frozen BK43012.out 0
               have hfz30_1 := blk_frozen BK43012.out 1
               have hfz30_2 := blk_frozen BK43012.out 2
               go_wp2
               go_meet
               case rel => exact ⟨_, (ji27), (!((rd_T44 l1 t43009).f2)), (by first | rfl | (simp; done) | (simp only [← hji27] <;> (first | rfl | (simp; done))) | (simp [*]; done)), (by first | rfl | (simp; done) | (simp [*]; done)), H', ⟨by have := HK1.out; have := HK2.out; first | omega | exact Nat.le_refl _⟩, ⟨by exact Kd.R_mono (Kd.R_far (p := ⟨gb43012, 2, none⟩) (Kd.R_far (p := ⟨gb43012, 1, none⟩) (Kd.R_far (p := ⟨gb43012, 0, none⟩) (Kd.R_mono HO_8.out (fun k_ hk => (⟨hk, hk.2⟩ : _ ∧ k_ ≠ gb43012))) (fun _ hk => hk.2) (.int .i64 ((rd_T44 l1 t43009).f0))) (fun _ hk => hk.2) (.int .i64 ((rd_T44 l1 t43009).f1))) (fun _ hk => hk.2) (.bool ((rd_T44 l1 t43009).f2))) (fun _ hk => ⟨hk.1.1, hk.1.2⟩)⟩, ⟨by refine blk_far ?_ NB43008_43012.out _; refine blk_far ?_ NB43008_43012.out _; refine blk_far ?_ NB43008_43012.out _; exact BK43008.out⟩, ⟨by refine blk_put (cs := #[.int .i64 ((rd_T44 l1 t43009).f0), .int .i64 ((rd_T44 l1 t43009).f1), .bool false]) ?_ 2 _ rfl; refine blk_put (cs := #[.int .i64 ((rd_T44 l1 t43009).f0), .int .i64 0, .bool false]) ?_ 1 _ rfl; refine blk_put (cs := #[.int .i64 0, .int .i64 0, .bool false]) ?_ 0 _ rfl; exact BK43012.out⟩, ⟨by repeat (first | exact HB.out | apply below_alloc | apply pw_below_drewN | apply below_drew1 | refine below_set ?_ GE43008.out | refine below_set ?_ GE43012.out)⟩⟩
              ·replace c26 := Bool.eq_false_iff.mpr c26
               subst c26
               have H1 : (papermillref13_Compose.j2 k2 l0 l1 x8_2 x9_1 t43010 ji19 ((rd_T44 l1 t43009).f2) x43009000_2 x43009001_2 false ((rd_T44 l1 t43009).f0) ((rd_T44 l1 t43009).f1) ((rd_T44 l1 t43009).f2)) = some (r1, r2) := by rw [if_neg (show ¬ (false = true) by decide)] at H; first | exact H | simpa using H
               clear H
               have H := H1
               clear H1
               have H' := Aside0.mk H
               clear H
               go_wp2
               go_meet
               case rel => exact ⟨_, (ji19), ((rd_T44 l1 t43009).f2), (by first | rfl | (simp; done) | (simp only [← hji19] <;> (first | rfl | (simp; done))) | (simp [*]; done)), (by first | rfl | (simp; done) | (simp [*]; done)), H', ⟨by have := HK1.out; have := HK2.out; first | omega | exact Nat.le_refl _⟩, ⟨by exact Kd.R_mono (Kd.R_far (p := ⟨gb43012, 2, none⟩) (Kd.R_far (p := ⟨gb43012, 1, none⟩) (Kd.R_far (p := ⟨gb43012, 0, none⟩) (Kd.R_mono HO_8.out (fun k_ hk => (⟨hk, hk.2⟩ : _ ∧ k_ ≠ gb43012))) (fun _ hk => hk.2) (.int .i64 ((rd_T44 l1 t43009).f0))) (fun _ hk => hk.2) (.int .i64 ((rd_T44 l1 t43009).f1))) (fun _ hk => hk.2) (.bool ((rd_T44 l1 t43009).f2))) (fun _ hk => ⟨hk.1.1, hk.1.2⟩)⟩, ⟨by refine blk_far ?_ NB43008_43012.out _; refine blk_far ?_ NB43008_43012.out _; refine blk_far ?_ NB43008_43012.out _; exact BK43008.out⟩, ⟨by refine blk_put (cs := #[.int .i64 ((rd_T44 l1 t43009).f0), .int .i64 ((rd_T44 l1 t43009).f1), .bool false]) ?_ 2 _ rfl; refine blk_put (cs := #[.int .i64 ((rd_T44 l1 t43009).f0), .int .i64 0, .bool false]) ?_ 1 _ rfl; refine blk_put (cs := #[.int .i64 0, .int .i64 0, .bool false]) ?_ 0 _ rfl; exact BK43012.out⟩, ⟨by repeat (first | exact HB.out | apply below_alloc | apply pw_below_drewN | apply below_drew1 | refine below_set ?_ GE43008.out | refine below_set ?_ GE43012.out)⟩⟩
             case rest =>
              clear HC20
              try clear c1
              try clear c2
              try clear p2
              try clear c4
              try clear c4b0
              try clear c4b1
              try clear p4
              try clear q4
              try clear hx4
              try clear c6
              try clear c6b0
              try clear c6b1
              try clear p6
              try clear c9
              try clear c9b0
              try clear c10
              try clear c10b0
              try clear c13
              try clear c13b0
              try clear c15
              try clear c15b0
              try clear c17
              try clear c17b0
              try clear c18
              try clear c18b0
              try clear c23
              try clear c25
              try clear c26
              try clear c28
              try clear hcz12_0
              try clear hcz12_1
              try clear hcz12_2
              try clear hcz16_0
              try clear hcz16_1
              try clear hcz16_2
              try clear hcz21_0
              try clear hcz21_1
              try clear hcz21_2
              try clear hcz24_0
              try clear hcz24_1
              try clear hcz24_2
              try clear hcz25_0
              try clear hcz25_1
              try clear hcz25_2
              try clear hcz29_0
              try clear hcz29_1
              try clear hcz29_2
              try clear hcz30_0
              try clear hcz30_1
              try clear hcz30_2
              try clear hfz12_0
              try clear hfz12_1
              try clear hfz12_2
              try clear hfz16_0
              try clear hfz16_1
              try clear hfz16_2
              try clear hfz21_0
              try clear hfz21_1
              try clear hfz21_2
              try clear hfz24_0
              try clear hfz24_1
              try clear hfz24_2
              try clear hfz25_0
              try clear hfz25_1
              try clear hfz25_2
              try clear hfz29_0
              try clear hfz29_1
              try clear hfz29_2
              try clear hfz30_0
              try clear hfz30_1
              try clear hfz30_2
              try clear hx43007_0
              try clear hx43007_1
              try clear hx43007_2
              try clear hx43011_0
              try clear hx43011_1
              try clear hx43011_2
              try clear p2
              try clear p4
              try clear p43007
              try clear p43011
              try clear q4
              try clear q43007
              try clear q43011
              obtain ⟨kq, x14_19, x15_19, rfl, rfl, HA, HJ19, HO_8, BK43008, BK43012, HB⟩ := hcut
              cases kq with
              | zero => exact absurd HA.out (by simp [papermillref13_Compose.j2])
              | succ kj19 =>
               have H := HA.out
               clear HA
               simp only [papermillref13_Compose.j2] at H
               replace H := Option.bind_eq_some_iff.mp H
               obtain ⟨t43013, A310, H⟩ := H
               replace H : (if x15_19 = true then ((papermillref13_more.f kj19 x8_2 t43013 x14_19 (decide (x14_19 > 1))).bind fun t43014 => (if x14_19 = x43009001_2 then (papermillref13_Compose.l0 kj19 l0 l1 t43014 (wrap64 (x9_1 + 1))) else ((papermillref13_image.f x43009000_2 x43009001_2 x43009002_2 x14_19).bind fun t43017 => (papermillref13_Compose.l1 kj19 l0 l1 t43014 x9_1 t43017 (wrap64 (x43009001_2 - x14_19)) x43009002_2)))) else ((papermillref13_more.f kj19 x8_2 t43013 x14_19 false).bind fun t43018 => (if x14_19 = x43009001_2 then (papermillref13_Compose.l0 kj19 l0 l1 t43018 (wrap64 (x9_1 + 1))) else ((papermillref13_image.f x43009000_2 x43009001_2 x43009002_2 x14_19).bind fun t43021 => (papermillref13_Compose.l1 kj19 l0 l1 t43018 x9_1 t43021 (wrap64 (x43009001_2 - x14_19)) x43009002_2))))) = some (r1, r2) := H
               have A31 := Aside0.mk A310
               clear A310
               by_cases c32 : x15_19 = true
               ·subst c32
                have H1 : ((papermillref13_more.f kj19 x8_2 t43013 x14_19 (decide (x14_19 > 1))).bind fun t43014 => (if x14_19 = x43009001_2 then (papermillref13_Compose.l0 kj19 l0 l1 t43014 (wrap64 (x9_1 + 1))) else ((papermillref13_image.f x43009000_2 x43009001_2 x43009002_2 x14_19).bind fun t43017 => (papermillref13_Compose.l1 kj19 l0 l1 t43014 x9_1 t43017 (wrap64 (x43009001_2 - x14_19)) x43009002_2)))) = some (r1, r2) := by rw [if_pos rfl] at H; exact H
                clear H
                have H := H1
                clear H1
                replace H := Option.bind_eq_some_iff.mp H
                obtain ⟨t43014, A330, H⟩ := H
                replace H : (if x14_19 = x43009001_2 then (papermillref13_Compose.l0 kj19 l0 l1 t43014 (wrap64 (x9_1 + 1))) else ((papermillref13_image.f x43009000_2 x43009001_2 x43009002_2 x14_19).bind fun t43017 => (papermillref13_Compose.l1 kj19 l0 l1 t43014 x9_1 t43017 (wrap64 (x43009001_2 - x14_19)) x43009002_2))) = some (r1, r2) := H
                have A33 := Aside0.mk A330
                clear A330
                by_cases c34 : x14_19 = x43009001_2
                ·rw [if_pos c34] at H
                 have c34b0 : (x14_19 == x43009001_2) = true := beq_iff_eq.mpr c34
                 have c34b1 : (x14_19 != x43009001_2) = false := bne_eq_false_iff_eq.mpr c34
                 clear c34
                 have H' := Aside0.mk H
                 clear H
                 have hnb35 := NB43012_43008.out
                 have hnc35 := NB43008_43012.out
                 have hcz36_0 : wc.cell? ⟨gb43012, 0, none⟩ = some (.int .i64 ((rd_T44 l1 t43009).f0)) := (blk_cell BK43012.out 0).trans rfl
                 have hcz36_1 : wc.cell? ⟨gb43012, 1, none⟩ = some (.int .i64 ((rd_T44 l1 t43009).f1)) := (blk_cell BK43012.out 1).trans rfl
                 have hcz36_2 : wc.cell? ⟨gb43012, 2, none⟩ = some (.bool ((rd_T44 l1 t43009).f2)) := (blk_cell BK43012.out 2).trans rfl
                 have hfz36_0 := blk_frozen BK43012.out 0
                 have hfz36_1 := blk_frozen BK43012.out 1
                 have hfz36_2 := blk_frozen BK43012.out 2
                 go_wp2_with (first | ((with_reducible refine gate_callee (f := 48) rfl ?_); refine goesL_ (some 74) rfl rfl Try.func48 (by kernel_rfl) rfl #[.agg #[.int .i64 ((rd_T44 l1 t43009).f0), .int .i64 ((rd_T44 l1 t43009).f1), .bool ((rd_T44 l1 t43009).f2)], .int .i64 t43010] rfl (by (try simp only [List.map_toArray, List.map_cons, List.map_nil]); first | done | rfl | (simp only [List.length_drop, List.length_take]; rfl)) ?_; (with_reducible refine (papermillref13_image.calls ((rd_T44 l1 t43009).f0) ((rd_T44 l1 t43009).f1) ((rd_T44 l1 t43009).f2) t43010 t43013 _ A31.out).mono ?_); rintro e w37 ⟨rfl, hb⟩; refine ⟨_, rfl, ?_⟩; have n0_ := Aside0.mk (Kd.R_below (HO_8.out) hb); have n1_ := Aside0.mk (blk_below (g := gb43008) (o := .cells #[.int .i64 x43009000_2, .int .i64 x43009001_2, .bool x43009002_2] 44 (0, 0)) (BK43008.out) hb); have n2_ := Aside0.mk (blk_below (g := gb43012) (o := .cells #[.int .i64 ((rd_T44 l1 t43009).f0), .int .i64 ((rd_T44 l1 t43009).f1), .bool ((rd_T44 l1 t43009).f2)] 44 (0, 0)) (BK43012.out) hb); have n3_ := Aside0.mk (below_step (by repeat (first | exact HB.out | apply below_alloc | apply pw_below_drewN | apply below_drew1 | refine below_set ?_ GE43008.out | refine below_set ?_ GE43012.out)) hb); clear HO_8; clear BK43008; clear BK43012; clear HB; have HO_8 := n0_; have BK43008 := n1_; have BK43012 := n2_; have HB := n3_; clear n0_ n1_ n2_ n3_; (try clear hb); (try clear hb2); (try clear hk); (try clear hi); obtain ⟨Ao38, co38, eo38⟩ := Kd.R_slice HO_8.out; subst eo38) | ((with_reducible refine gate_callee (f := 60) rfl ?_); refine goesL_ (some 82) rfl rfl Try.func60 (by kernel_rfl) rfl #[.slice Ao38 x8_2.length co38, .agg #[.int .i64 t43013, .int .i64 x14_19, .bool (decide (x14_19 > 1))]] rfl (by (try simp only [List.map_toArray, List.map_cons, List.map_nil]); first | done | rfl | (simp only [List.length_drop, List.length_take]; rfl)) ?_; (with_reducible refine (papermillref13_more.calls kj19 _ _ x8_2 t43013 x14_19 (decide (x14_19 > 1)) t43014 _ ?side1 ?side2 A33.out).mono ?_); (case side1 => exact (Kd.R_reads' HO_8.out).2.2); (case side2 => exact (Kd.R_reads' HO_8.out).2.1); rintro e w39 ⟨v43015, rfl, ho0, hb⟩; refine ⟨_, rfl, ?_⟩; have n0_ := Aside0.mk (Kd.R_elder' (HO_8.out) (Kd.R_base ho0) hb); have n1_ := Aside0.mk (Kd.R_lower (Kd.R_newB (Kd.R_newB (Kd.R_new' ho0 (Kd.R_lt (HO_8.out))) (g := gb43008) (o := .cells #[.int .i64 x43009000_2, .int .i64 x43009001_2, .bool x43009002_2] 44 (0, 0)) (BK43008.out)) (g := gb43012) (o := .cells #[.int .i64 ((rd_T44 l1 t43009).f0), .int .i64 ((rd_T44 l1 t43009).f1), .bool ((rd_T44 l1 t43009).f2)] 44 (0, 0)) (BK43012.out)) (below_size (by repeat (first | exact HB.out | apply below_alloc | apply pw_below_drewN | apply below_drew1 | refine below_set ?_ GE43008.out | refine below_set ?_ GE43012.out)))); have n2_ := Aside0.mk (blk_below (g := gb43008) (o := .cells #[.int .i64 x43009000_2, .int .i64 x43009001_2, .bool x43009002_2] 44 (0, 0)) (BK43008.out) hb); have n3_ := Aside0.mk (blk_below (g := gb43012) (o := .cells #[.int .i64 ((rd_T44 l1 t43009).f0), .int .i64 ((rd_T44 l1 t43009).f1), .bool ((rd_T44 l1 t43009).f2)] 44 (0, 0)) (BK43012.out) hb); have n4_ := Aside0.mk (below_step (by repeat (first | exact HB.out | apply below_alloc | apply pw_below_drewN | apply below_drew1 | refine below_set ?_ GE43008.out | refine below_set ?_ GE43012.out)) hb); clear HO_8; clear BK43008; clear BK43012; clear HB; have HO_8 := n0_; have HO43016 := n1_; have BK43008 := n2_; have BK43012 := n3_; have HB := n4_; clear n0_ n1_ n2_ n3_ n4_; (try clear hb); (try clear hb2); (try clear hk); (try clear hi); (try clear ho0); have hcz40_0 : w39.cell? ⟨gb43008, 0, none⟩ = some (.int .i64 x43009000_2) := (blk_cell BK43008.out 0).trans rfl; have hcz40_1 : w39.cell? ⟨gb43008, 1, none⟩ = some (.int .i64 x43009001_2) := (blk_cell BK43008.out 1).trans rfl; have hcz40_2 : w39.cell? ⟨gb43008, 2, none⟩ = some (.bool x43009002_2) := (blk_cell BK43008.out 2).trans rfl; have hfz40_0 := blk_frozen BK43008.out 0; have hfz40_1 := blk_frozen BK43008.out 1; have hfz40_2 := blk_frozen BK43008.out 2))
                 go_roundg kj19
                 case measure => have := HK1.out; have := HK2.out; have := HJ19.out; omega
                 case rel => exact ⟨(t43014), (wrap64 (x9_1 + 1)), (by first | rfl | (simp; done) | (simp [*]; done)), H', ⟨by have := HK1.out; have := HK2.out; have := HJ19.out; omega⟩, ⟨by exact Kd.R_mono HO43016.out (fun _ hk => trivial)⟩, ⟨by repeat (first | exact HB.out | apply below_alloc | apply pw_below_drewN | apply below_drew1 | refine below_set ?_ GE43008.out | refine below_set ?_ GE43012.out)⟩⟩
                ·rw [if_neg c34] at H
                 have c34b0 : (x14_19 == x43009001_2) = false := beq_eq_false_iff_ne.mpr c34
                 have c34b1 : (x14_19 != x43009001_2) = true := bne_iff_ne.mpr c34
                 replace H := Option.bind_eq_some_iff.mp H
                 obtain ⟨t43017, A410, H⟩ := H
                 replace H : (papermillref13_Compose.l1 kj19 l0 l1 t43014 x9_1 t43017 (wrap64 (x43009001_2 - x14_19)) x43009002_2) = some (r1, r2) := H
                 have A41 := Aside0.mk A410
                 clear A410
                 have H' := Aside0.mk H
                 clear H
                 have hnb42 := NB43012_43008.out
                 have hnc42 := NB43008_43012.out
                 have hcz43_0 : wc.cell? ⟨gb43012, 0, none⟩ = some (.int .i64 ((rd_T44 l1 t43009).f0)) := (blk_cell BK43012.out 0).trans rfl
                 have hcz43_1 : wc.cell? ⟨gb43012, 1, none⟩ = some (.int .i64 ((rd_T44 l1 t43009).f1)) := (blk_cell BK43012.out 1).trans rfl
                 have hcz43_2 : wc.cell? ⟨gb43012, 2, none⟩ = some (.bool ((rd_T44 l1 t43009).f2)) := (blk_cell BK43012.out 2).trans rfl
                 have hfz43_0 := blk_frozen BK43012.out 0
                 have hfz43_1 := blk_frozen BK43012.out 1
                 have hfz43_2 := blk_frozen BK43012.out 2
                 try go_wp2_with (first | ((with_reducible refine gate_callee (f := 48) rfl ?_); refine goesL_ (some 74) rfl rfl Try.func48 (by kernel_rfl) rfl #[.agg #[.int .i64 ((rd_T44 l1 t43009).f0), .int .i64 ((rd_T44 l1 t43009).f1), .bool ((rd_T44 l1 t43009).f2)], .int .i64 t43010] rfl (by (try simp only [List.map_toArray, List.map_cons, List.map_nil]); first | done | rfl | (simp only [List.length_drop, List.length_take]; rfl)) ?_; (with_reducible refine (papermillref13_image.calls ((rd_T44 l1 t43009).f0) ((rd_T44 l1 t43009).f1) ((rd_T44 l1 t43009).f2) t43010 t43013 _ A31.out).mono ?_); rintro e w44 ⟨rfl, hb⟩; refine ⟨_, rfl, ?_⟩; have n0_ := Aside0.mk (Kd.R_below (HO_8.out) hb); have n1_ := Aside0.mk (blk_below (g := gb43008) (o := .cells #[.int .i64 x43009000_2, .int .i64 x43009001_2, .bool x43009002_2] 44 (0, 0)) (BK43008.out) hb); have n2_ := Aside0.mk (blk_below (g := gb43012) (o := .cells #[.int .i64 ((rd_T44 l1 t43009).f0), .int .i64 ((rd_T44 l1 t43009).f1), .bool ((rd_T44 l1 t43009).f2)] 44 (0, 0)) (BK43012.out) hb); have n3_ := Aside0.mk (below_step (by repeat (first | exact HB.out | apply below_alloc | apply pw_below_drewN | apply below_drew1 | refine below_set ?_ GE43008.out | refine below_set ?_ GE43012.out)) hb); clear HO_8; clear BK43008; clear BK43012; clear HB; have HO_8 := n0_; have BK43008 := n1_; have BK43012 := n2_; have HB := n3_; clear n0_ n1_ n2_ n3_; (try clear hb); (try clear hb2); (try clear hk); (try clear hi); obtain ⟨Ao45, co45, eo45⟩ := Kd.R_slice HO_8.out; subst eo45) | ((with_reducible refine gate_callee (f := 60) rfl ?_); refine goesL_ (some 82) rfl rfl Try.func60 (by kernel_rfl) rfl #[.slice Ao45 x8_2.length co45, .agg #[.int .i64 t43013, .int .i64 x14_19, .bool (decide (x14_19 > 1))]] rfl (by (try simp only [List.map_toArray, List.map_cons, List.map_nil]); first | done | rfl | (simp only [List.length_drop, List.length_take]; rfl)) ?_; (with_reducible refine (papermillref13_more.calls kj19 _ _ x8_2 t43013 x14_19 (decide (x14_19 > 1)) t43014 _ ?side1 ?side2 A33.out).mono ?_); (case side1 => exact (Kd.R_reads' HO_8.out).2.2); (case side2 => exact (Kd.R_reads' HO_8.out).2.1); rintro e w46 ⟨v43015, rfl, ho0, hb⟩; refine ⟨_, rfl, ?_⟩; have n0_ := Aside0.mk (Kd.R_elder' (HO_8.out) (Kd.R_base ho0) hb); have n1_ := Aside0.mk (Kd.R_lower (Kd.R_newB (Kd.R_newB (Kd.R_new' ho0 (Kd.R_lt (HO_8.out))) (g := gb43008) (o := .cells #[.int .i64 x43009000_2, .int .i64 x43009001_2, .bool x43009002_2] 44 (0, 0)) (BK43008.out)) (g := gb43012) (o := .cells #[.int .i64 ((rd_T44 l1 t43009).f0), .int .i64 ((rd_T44 l1 t43009).f1), .bool ((rd_T44 l1 t43009).f2)] 44 (0, 0)) (BK43012.out)) (below_size (by repeat (first | exact HB.out | apply below_alloc | apply pw_below_drewN | apply below_drew1 | refine below_set ?_ GE43008.out | refine below_set ?_ GE43012.out)))); have n2_ := Aside0.mk (blk_below (g := gb43008) (o := .cells #[.int .i64 x43009000_2, .int .i64 x43009001_2, .bool x43009002_2] 44 (0, 0)) (BK43008.out) hb); have n3_ := Aside0.mk (blk_below (g := gb43012) (o := .cells #[.int .i64 ((rd_T44 l1 t43009).f0), .int .i64 ((rd_T44 l1 t43009).f1), .bool ((rd_T44 l1 t43009).f2)] 44 (0, 0)) (BK43012.out) hb); have n4_ := Aside0.mk (below_step (by repeat (first | exact HB.out | apply below_alloc | apply pw_below_drewN | apply below_drew1 | refine below_set ?_ GE43008.out | refine below_set ?_ GE43012.out)) hb); clear HO_8; clear BK43008; clear BK43012; clear HB; have HO_8 := n0_; have HO43016 := n1_; have BK43008 := n2_; have BK43012 := n3_; have HB := n4_; clear n0_ n1_ n2_ n3_ n4_; (try clear hb); (try clear hb2); (try clear hk); (try clear hi); (try clear ho0); have hcz47_0 : w46.cell? ⟨gb43008, 0, none⟩ = some (.int .i64 x43009000_2) := (blk_cell BK43008.out 0).trans rfl; have hcz47_1 : w46.cell? ⟨gb43008, 1, none⟩ = some (.int .i64 x43009001_2) := (blk_cell BK43008.out 1).trans rfl; have hcz47_2 : w46.cell? ⟨gb43008, 2, none⟩ = some (.bool x43009002_2) := (blk_cell BK43008.out 2).trans rfl; have hfz47_0 := blk_frozen BK43008.out 0; have hfz47_1 := blk_frozen BK43008.out 1; have hfz47_2 := blk_frozen BK43008.out 2))
                 have n0_ := Aside0.mk (Kd.R_drew HO_8.out)
                 have n1_ := Aside0.mk (Kd.R_drew HO43016.out)
                 have n2_ := Aside0.mk (blk_drew BK43008.out)
                 have n3_ := Aside0.mk (blk_drew BK43012.out)
                 have n4_ := Aside0.mk (below_drew1 HB.out)
                 clear HO_8
                 clear HO43016
                 clear BK43008
                 clear BK43012
                 clear HB
                 have HO_8 := n0_
                 have HO43016 := n1_
                 have BK43008 := n2_
                 have BK43012 := n3_
                 have HB := n4_
                 clear n0_ n1_ n2_ n3_ n4_
                 refine start_ (n := 11) (S := fun w' => w'.cell? ⟨gb43008, 0, none⟩ = some (.int .i64 x43009000_2) ∧ w'.cell? ⟨gb43008, 1, none⟩ = some (.int .i64 x43009001_2) ∧ w'.cell? ⟨gb43008, 2, none⟩ = some (.bool x43009002_2)) (ds := [10]) #[false, false, false, false, false, false, false, false, false, false, false] (by kernel_rfl) rfl rfl ⟨(blk_cell BK43008.out 0).trans rfl, (blk_cell BK43008.out 1).trans rfl, (blk_cell BK43008.out 2).trans rfl⟩ (fun hHeld => ?_); refine with_tabW papermillref13_Compose.tab24 papermillref13_Compose.bits24 (fun HT_ HW_ => ?_)
                 generalize w46.drew = w48 at HO_8 HO43016 BK43008 BK43012 HB hHeld ⊢
                 refine pure_ (i := 1) (N := some 88) (v := ?_) (a' := ?_) #[false, true, false, false, false, false, false, false, false, false, false] rfl rfl (any_of HT_.out (by kernel_rfl)) (fun _ _ _ h => h) (Or.inl ⟨by rfl, ?_⟩) ?_ ?_
                 rotate_left
                 ·intro w'
                  go_simp
                  with_reducible rfl
                 rotate_left
                 ·simp only [Act.put, List.setIfInBounds_toArray, List.set_cons_zero, List.set_cons_succ, i64_w, i32_w]
                  rfl
                 refine pure_ (i := 3) (N := some 90) (v := ?_) (a' := ?_) #[false, true, false, true, false, false, false, false, false, false, false] rfl rfl (any_of HT_.out (by kernel_rfl)) (fun _ _ _ h => h) (Or.inl ⟨by rfl, ?_⟩) ?_ ?_
                 rotate_left
                 ·intro w'
                  go_simp
                  with_reducible rfl
                 rotate_left
                 ·simp only [Act.put, List.setIfInBounds_toArray, List.set_cons_zero, List.set_cons_succ, i64_w, i32_w]
                  rfl
                 refine pure_ (i := 5) (N := some 92) (v := ?_) (a' := ?_) #[false, true, false, true, false, true, false, false, false, false, false] rfl rfl (any_of HT_.out (by kernel_rfl)) (fun _ _ _ h => h) (Or.inl ⟨by rfl, ?_⟩) ?_ ?_
                 rotate_left
                 ·intro w'
                  go_simp
                  with_reducible rfl
                 rotate_left
                 ·simp only [Act.put, List.setIfInBounds_toArray, List.set_cons_zero, List.set_cons_succ, i64_w, i32_w]
                  rfl
                 refine pure_ (i := 7) (N := some 94) (v := ?_) (a' := ?_) #[false, true, false, true, false, true, false, true, false, false, false] rfl rfl (any_of HT_.out (by kernel_rfl)) (fun _ _ _ h => h) (Or.inl ⟨by rfl, ?_⟩) ?_ ?_
                 rotate_left
                 ·intro w'
                  go_simp
                  with_reducible rfl
                 rotate_left
                 ·simp only [Act.put, List.setIfInBounds_toArray, List.set_cons_zero, List.set_cons_succ, i64_w, i32_w]
                  rfl
                 refine take_ (i := 0) (N := some 87) (v := ?_) (a' := ?_) #[true, true, false, true, false, true, false, true, false, false, false] rfl rfl (take_ofW HT_.out HW_.out (by kernel_rfl)) (fun _ _ _ h => h) (Or.inl ⟨by rfl, ?_⟩) hHeld ?_ ?_
                 rotate_left
                 ·rintro w' ⟨s0, s1, s2⟩
                  go_simp
                  with_reducible rfl
                 rotate_left
                 ·simp only [Act.put, List.setIfInBounds_toArray, List.set_cons_zero, List.set_cons_succ, i64_w, i32_w]
                  rfl
                 refine take_ (i := 4) (N := some 91) (v := ?_) (a' := ?_) #[true, true, false, true, true, true, false, true, false, false, false] rfl rfl (take_ofW HT_.out HW_.out (by kernel_rfl)) (fun _ _ _ h => h) (Or.inl ⟨by rfl, ?_⟩) hHeld ?_ ?_
                 rotate_left
                 ·rintro w' ⟨s0, s1, s2⟩
                  go_simp
                  with_reducible rfl
                 rotate_left
                 ·simp only [Act.put, List.setIfInBounds_toArray, List.set_cons_zero, List.set_cons_succ, i64_w, i32_w]
                  rfl
                 refine pure_ (i := 6) (N := some 93) (v := ?_) (a' := ?_) #[true, true, false, true, true, true, true, true, false, false, false] rfl rfl (any_of HT_.out (by kernel_rfl)) (fun _ _ _ h => h) (Or.inl ⟨by rfl, ?_⟩) ?_ ?_
                 rotate_left
                 ·intro w'
                  go_simp
                  with_reducible rfl
                 rotate_left
                 ·simp only [Act.put, List.setIfInBounds_toArray, List.set_cons_zero, List.set_cons_succ, i64_w, i32_w]
                  rfl
                 refine take_ (i := 8) (N := some 95) (v := ?_) (a' := ?_) #[true, true, false, true, true, true, true, true, true, false, false] rfl rfl (take_ofW HT_.out HW_.out (by kernel_rfl)) (fun _ _ _ h => h) (Or.inl ⟨by rfl, ?_⟩) hHeld ?_ ?_
                 rotate_left
                 ·rintro w' ⟨s0, s1, s2⟩
                  go_simp
                  with_reducible rfl
                 rotate_left
                 ·simp only [Act.put, List.setIfInBounds_toArray, List.set_cons_zero, List.set_cons_succ, i64_w, i32_w]
                  rfl
                 refine one_ (i := 2) (N := some 89) #[true, true, true, true, true, true, true, true, true, false, false] rfl rfl (one_of HT_.out (by kernel_rfl)) (by decide) (fun K hK => ?_)
                 refine goes_ Try.func48 (by kernel_rfl) rfl #[.agg #[.int .i64 x43009000_2, .int .i64 x43009001_2, .bool x43009002_2], .int .i64 x14_19] (by rfl) rfl rfl (by (try simp only [List.map_toArray, List.map_cons, List.map_nil]); first | done | rfl | (simp only [List.length_drop, List.length_take]; rfl)) ?_
                 with_reducible refine (papermillref13_image.calls x43009000_2 x43009001_2 x43009002_2 x14_19 t43017 _ A41.out).mono ?_
                 rintro e w49 ⟨rfl, hb⟩
                 refine ⟨_, rfl, ?_⟩
                 have n0_ := Aside0.mk (Kd.R_below (HO_8.out) hb)
                 have n1_ := Aside0.mk (Kd.R_below (HO43016.out) hb)
                 have n2_ := Aside0.mk (blk_below (g := gb43008) (o := .cells #[.int .i64 x43009000_2, .int .i64 x43009001_2, .bool x43009002_2] 44 (0, 0)) (BK43008.out) hb)
                 have n3_ := Aside0.mk (blk_below (g := gb43012) (o := .cells #[.int .i64 ((rd_T44 l1 t43009).f0), .int .i64 ((rd_T44 l1 t43009).f1), .bool ((rd_T44 l1 t43009).f2)] 44 (0, 0)) (BK43012.out) hb)
                 have n4_ := Aside0.mk (below_step (by repeat (first | exact HB.out | apply below_alloc | apply pw_below_drewN | apply below_drew1 | refine below_set ?_ GE43008.out | refine below_set ?_ GE43012.out)) hb)
                 clear HO_8
                 clear HO43016
                 clear BK43008
                 clear BK43012
                 clear HB
                 have HO_8 := n0_
                 have HO43016 := n1_
                 have BK43008 := n2_
                 have BK43012 := n3_
                 have HB := n4_
                 clear n0_ n1_ n2_ n3_ n4_
                 (try clear hb)
                 (try clear hb2)
                 (try clear hk)
                 (try clear hi)
                 refine hK.out _ _ ⟨(blk_cell BK43008.out 0).trans rfl, (blk_cell BK43008.out 1).trans rfl, (blk_cell BK43008.out 2).trans rfl⟩ (fun hHeld => ?_)
                 clear hK K
                 refine norm_ (a' := ?_) ?_ ?_
                 rotate_left
                 ·show Act.put _ (some 89) _ = _
                  simp only [Act.put, List.setIfInBounds_toArray, List.set_cons_zero, List.set_cons_succ, i64_w, i32_w]
                  rfl
                 refine pure_ (i := 9) (N := some 96) (v := ?_) (a' := ?_) #[true, true, true, true, true, true, true, true, true, true, false] rfl rfl (any_of HT_.out (by kernel_rfl)) (fun _ _ _ h => h) (Or.inl ⟨by rfl, ?_⟩) ?_ ?_
                 rotate_left
                 ·intro w'
                  go_simp
                  with_reducible rfl
                 rotate_left
                 ·simp only [Act.put, List.setIfInBounds_toArray, List.set_cons_zero, List.set_cons_succ, i64_w, i32_w]
                  rfl
                 refine last_ (i := 10) (N := none) #[true, true, true, true, true, true, true, true, true, true, true] rfl rfl (one_of HT_.out (by kernel_rfl)) (by decide) (fun K hK => ?_)
                 have hs50 : w49.cell? ⟨gb43008, 0, none⟩ = some (.int .i64 x43009000_2) := (blk_cell BK43008.out 0).trans rfl
                 have hfs50 := blk_frozen BK43008.out 0
                 have hns50_1 := NB43012_43008.out
                 have hms50_1 := NB43008_43012.out
                 have hs51 : w49.cell? ⟨gb43008, 1, none⟩ = some (.int .i64 x43009001_2) := (blk_cell BK43008.out 1).trans rfl
                 have hfs51 := blk_frozen BK43008.out 1
                 have hns51_1 := NB43012_43008.out
                 have hms51_1 := NB43008_43012.out
                 have hs52 : w49.cell? ⟨gb43008, 2, none⟩ = some (.bool x43009002_2) := (blk_cell BK43008.out 2).trans rfl
                 have hfs52 := blk_frozen BK43008.out 2
                 have hns52_1 := NB43012_43008.out
                 have hms52_1 := NB43008_43012.out
                 refine skip_ (w1 := ?_) (by rfl) rfl ?_ ?_
                 rotate_left
                 ·go_simp
                  rfl
                 refine hK.out _ _ ?_
                 clear hK K
                 refine done_ (done_of HT_.out (by kernel_rfl)) ?_
                 try go_wp2
                 go_roundg kj19
                 case measure => have := HK1.out; have := HK2.out; have := HJ19.out; omega
                 case rel => exact ⟨(t43014), (t43017), (wrap64 (x43009001_2 - x14_19)), (x43009002_2), H', ⟨by have := HK1.out; have := HK2.out; have := HJ19.out; omega⟩, ⟨by exact Kd.R_mono (Kd.R_far (p := ⟨gb43008, 2, none⟩) (Kd.R_far (p := ⟨gb43008, 1, none⟩) (Kd.R_far (p := ⟨gb43008, 0, none⟩) (Kd.R_mono HO43016.out (fun k_ hk => (⟨hk, hk.1.2⟩ : _ ∧ k_ ≠ gb43008))) (fun _ hk => hk.2) (.int .i64 t43017)) (fun _ hk => hk.2) (.int .i64 (wrap64 (x43009001_2 - x14_19)))) (fun _ hk => hk.2) (.bool x43009002_2)) (fun _ hk => hk.1.1.2)⟩, ⟨by refine blk_put (cs := #[.int .i64 t43017, .int .i64 (wrap64 (x43009001_2 - x14_19)), .bool x43009002_2]) ?_ 2 _ rfl; refine blk_put (cs := #[.int .i64 t43017, .int .i64 x43009001_2, .bool x43009002_2]) ?_ 1 _ rfl; refine blk_put (cs := #[.int .i64 x43009000_2, .int .i64 x43009001_2, .bool x43009002_2]) ?_ 0 _ rfl; exact BK43008.out⟩, ⟨by repeat (first | exact HB.out | apply below_alloc | apply pw_below_drewN | apply below_drew1 | refine below_set ?_ GE43008.out | refine below_set ?_ GE43012.out)⟩⟩
               ·replace c32 := Bool.eq_false_iff.mpr c32
                subst c32
                have H1 : ((papermillref13_more.f kj19 x8_2 t43013 x14_19 false).bind fun t43018 => (if x14_19 = x43009001_2 then (papermillref13_Compose.l0 kj19 l0 l1 t43018 (wrap64 (x9_1 + 1))) else ((papermillref13_image.f x43009000_2 x43009001_2 x43009002_2 x14_19).bind fun t43021 => (papermillref13_Compose.l1 kj19 l0 l1 t43018 x9_1 t43021 (wrap64 (x43009001_2 - x14_19)) x43009002_2)))) = some (r1, r2) := by rw [if_neg (show ¬ (false = true) by decide)] at H; first | exact H | simpa using H
                clear H
                have H := H1
                clear H1
                replace H := Option.bind_eq_some_iff.mp H
                obtain ⟨t43018, A530, H⟩ := H
                replace H : (if x14_19 = x43009001_2 then (papermillref13_Compose.l0 kj19 l0 l1 t43018 (wrap64 (x9_1 + 1))) else ((papermillref13_image.f x43009000_2 x43009001_2 x43009002_2 x14_19).bind fun t43021 => (papermillref13_Compose.l1 kj19 l0 l1 t43018 x9_1 t43021 (wrap64 (x43009001_2 - x14_19)) x43009002_2))) = some (r1, r2) := H
                have A53 := Aside0.mk A530
                clear A530
                by_cases c54 : x14_19 = x43009001_2
                ·rw [if_pos c54] at H
                 have c54b0 : (x14_19 == x43009001_2) = true := beq_iff_eq.mpr c54
                 have c54b1 : (x14_19 != x43009001_2) = false := bne_eq_false_iff_eq.mpr c54
                 clear c54
                 have H' := Aside0.mk H
                 clear H
                 have hnb55 := NB43012_43008.out
                 have hnc55 := NB43008_43012.out
                 have hcz56_0 : wc.cell? ⟨gb43012, 0, none⟩ = some (.int .i64 ((rd_T44 l1 t43009).f0)) := (blk_cell BK43012.out 0).trans rfl
                 have hcz56_1 : wc.cell? ⟨gb43012, 1, none⟩ = some (.int .i64 ((rd_T44 l1 t43009).f1)) := (blk_cell BK43012.out 1).trans rfl
                 have hcz56_2 : wc.cell? ⟨gb43012, 2, none⟩ = some (.bool ((rd_T44 l1 t43009).f2)) := (blk_cell BK43012.out 2).trans rfl
                 have hfz56_0 := blk_frozen BK43012.out 0
                 have hfz56_1 := blk_frozen BK43012.out 1
                 have hfz56_2 := blk_frozen BK43012.out 2
                 go_wp2_with (first | ((with_reducible refine gate_callee (f := 48) rfl ?_); refine goesL_ (some 74) rfl rfl Try.func48 (by kernel_rfl) rfl #[.agg #[.int .i64 ((rd_T44 l1 t43009).f0), .int .i64 ((rd_T44 l1 t43009).f1), .bool ((rd_T44 l1 t43009).f2)], .int .i64 t43010] rfl (by (try simp only [List.map_toArray, List.map_cons, List.map_nil]); first | done | rfl | (simp only [List.length_drop, List.length_take]; rfl)) ?_; (with_reducible refine (papermillref13_image.calls ((rd_T44 l1 t43009).f0) ((rd_T44 l1 t43009).f1) ((rd_T44 l1 t43009).f2) t43010 t43013 _ A31.out).mono ?_); rintro e w57 ⟨rfl, hb⟩; refine ⟨_, rfl, ?_⟩; have n0_ := Aside0.mk (Kd.R_below (HO_8.out) hb); have n1_ := Aside0.mk (blk_below (g := gb43008) (o := .cells #[.int .i64 x43009000_2, .int .i64 x43009001_2, .bool x43009002_2] 44 (0, 0)) (BK43008.out) hb); have n2_ := Aside0.mk (blk_below (g := gb43012) (o := .cells #[.int .i64 ((rd_T44 l1 t43009).f0), .int .i64 ((rd_T44 l1 t43009).f1), .bool ((rd_T44 l1 t43009).f2)] 44 (0, 0)) (BK43012.out) hb); have n3_ := Aside0.mk (below_step (by repeat (first | exact HB.out | apply below_alloc | apply pw_below_drewN | apply below_drew1 | refine below_set ?_ GE43008.out | refine below_set ?_ GE43012.out)) hb); clear HO_8; clear BK43008; clear BK43012; clear HB; have HO_8 := n0_; have BK43008 := n1_; have BK43012 := n2_; have HB := n3_; clear n0_ n1_ n2_ n3_; (try clear hb); (try clear hb2); (try clear hk); (try clear hi); obtain ⟨Ao58, co58, eo58⟩ := Kd.R_slice HO_8.out; subst eo58) | ((with_reducible refine gate_callee (f := 60) rfl ?_); refine goesL_ (some 82) rfl rfl Try.func60 (by kernel_rfl) rfl #[.slice Ao58 x8_2.length co58, .agg #[.int .i64 t43013, .int .i64 x14_19, .bool false]] rfl (by (try simp only [List.map_toArray, List.map_cons, List.map_nil]); first | done | rfl | (simp only [List.length_drop, List.length_take]; rfl)) ?_; (with_reducible refine (papermillref13_more.calls kj19 _ _ x8_2 t43013 x14_19 false t43018 _ ?side1 ?side2 A53.out).mono ?_); (case side1 => exact (Kd.R_reads' HO_8.out).2.2); (case side2 => exact (Kd.R_reads' HO_8.out).2.1); rintro e w59 ⟨v43019, rfl, ho0, hb⟩; refine ⟨_, rfl, ?_⟩; have n0_ := Aside0.mk (Kd.R_elder' (HO_8.out) (Kd.R_base ho0) hb); have n1_ := Aside0.mk (Kd.R_lower (Kd.R_newB (Kd.R_newB (Kd.R_new' ho0 (Kd.R_lt (HO_8.out))) (g := gb43008) (o := .cells #[.int .i64 x43009000_2, .int .i64 x43009001_2, .bool x43009002_2] 44 (0, 0)) (BK43008.out)) (g := gb43012) (o := .cells #[.int .i64 ((rd_T44 l1 t43009).f0), .int .i64 ((rd_T44 l1 t43009).f1), .bool ((rd_T44 l1 t43009).f2)] 44 (0, 0)) (BK43012.out)) (below_size (by repeat (first | exact HB.out | apply below_alloc | apply pw_below_drewN | apply below_drew1 | refine below_set ?_ GE43008.out | refine below_set ?_ GE43012.out)))); have n2_ := Aside0.mk (blk_below (g := gb43008) (o := .cells #[.int .i64 x43009000_2, .int .i64 x43009001_2, .bool x43009002_2] 44 (0, 0)) (BK43008.out) hb); have n3_ := Aside0.mk (blk_below (g := gb43012) (o := .cells #[.int .i64 ((rd_T44 l1 t43009).f0), .int .i64 ((rd_T44 l1 t43009).f1), .bool ((rd_T44 l1 t43009).f2)] 44 (0, 0)) (BK43012.out) hb); have n4_ := Aside0.mk (below_step (by repeat (first | exact HB.out | apply below_alloc | apply pw_below_drewN | apply below_drew1 | refine below_set ?_ GE43008.out | refine below_set ?_ GE43012.out)) hb); clear HO_8; clear BK43008; clear BK43012; clear HB; have HO_8 := n0_; have HO43020 := n1_; have BK43008 := n2_; have BK43012 := n3_; have HB := n4_; clear n0_ n1_ n2_ n3_ n4_; (try clear hb); (try clear hb2); (try clear hk); (try clear hi); (try clear ho0); have hcz60_0 : w59.cell? ⟨gb43008, 0, none⟩ = some (.int .i64 x43009000_2) := (blk_cell BK43008.out 0).trans rfl; have hcz60_1 : w59.cell? ⟨gb43008, 1, none⟩ = some (.int .i64 x43009001_2) := (blk_cell BK43008.out 1).trans rfl; have hcz60_2 : w59.cell? ⟨gb43008, 2, none⟩ = some (.bool x43009002_2) := (blk_cell BK43008.out 2).trans rfl; have hfz60_0 := blk_frozen BK43008.out 0; have hfz60_1 := blk_frozen BK43008.out 1; have hfz60_2 := blk_frozen BK43008.out 2))
                 go_roundg kj19
                 case measure => have := HK1.out; have := HK2.out; have := HJ19.out; omega
                 case rel => exact ⟨(t43018), (wrap64 (x9_1 + 1)), (by first | rfl | (simp; done) | (simp [*]; done)), H', ⟨by have := HK1.out; have := HK2.out; have := HJ19.out; omega⟩, ⟨by exact Kd.R_mono HO43020.out (fun _ hk => trivial)⟩, ⟨by repeat (first | exact HB.out | apply below_alloc | apply pw_below_drewN | apply below_drew1 | refine below_set ?_ GE43008.out | refine below_set ?_ GE43012.out)⟩⟩
                ·rw [if_neg c54] at H
                 have c54b0 : (x14_19 == x43009001_2) = false := beq_eq_false_iff_ne.mpr c54
                 have c54b1 : (x14_19 != x43009001_2) = true := bne_iff_ne.mpr c54
                 replace H := Option.bind_eq_some_iff.mp H
                 obtain ⟨t43021, A610, H⟩ := H
                 replace H : (papermillref13_Compose.l1 kj19 l0 l1 t43018 x9_1 t43021 (wrap64 (x43009001_2 - x14_19)) x43009002_2) = some (r1, r2) := H
                 have A61 := Aside0.mk A610
                 clear A610
                 have H' := Aside0.mk H
                 clear H
                 have hnb62 := NB43012_43008.out
                 have hnc62 := NB43008_43012.out
                 have hcz63_0 : wc.cell? ⟨gb43012, 0, none⟩ = some (.int .i64 ((rd_T44 l1 t43009).f0)) := (blk_cell BK43012.out 0).trans rfl
                 have hcz63_1 : wc.cell? ⟨gb43012, 1, none⟩ = some (.int .i64 ((rd_T44 l1 t43009).f1)) := (blk_cell BK43012.out 1).trans rfl
                 have hcz63_2 : wc.cell? ⟨gb43012, 2, none⟩ = some (.bool ((rd_T44 l1 t43009).f2)) := (blk_cell BK43012.out 2).trans rfl
                 have hfz63_0 := blk_frozen BK43012.out 0
                 have hfz63_1 := blk_frozen BK43012.out 1
                 have hfz63_2 := blk_frozen BK43012.out 2
                 try go_wp2_with (first | ((with_reducible refine gate_callee (f := 48) rfl ?_); refine goesL_ (some 74) rfl rfl Try.func48 (by kernel_rfl) rfl #[.agg #[.int .i64 ((rd_T44 l1 t43009).f0), .int .i64 ((rd_T44 l1 t43009).f1), .bool ((rd_T44 l1 t43009).f2)], .int .i64 t43010] rfl (by (try simp only [List.map_toArray, List.map_cons, List.map_nil]); first | done | rfl | (simp only [List.length_drop, List.length_take]; rfl)) ?_; (with_reducible refine (papermillref13_image.calls ((rd_T44 l1 t43009).f0) ((rd_T44 l1 t43009).f1) ((rd_T44 l1 t43009).f2) t43010 t43013 _ A31.out).mono ?_); rintro e w64 ⟨rfl, hb⟩; refine ⟨_, rfl, ?_⟩; have n0_ := Aside0.mk (Kd.R_below (HO_8.out) hb); have n1_ := Aside0.mk (blk_below (g := gb43008) (o := .cells #[.int .i64 x43009000_2, .int .i64 x43009001_2, .bool x43009002_2] 44 (0, 0)) (BK43008.out) hb); have n2_ := Aside0.mk (blk_below (g := gb43012) (o := .cells #[.int .i64 ((rd_T44 l1 t43009).f0), .int .i64 ((rd_T44 l1 t43009).f1), .bool ((rd_T44 l1 t43009).f2)] 44 (0, 0)) (BK43012.out) hb); have n3_ := Aside0.mk (below_step (by repeat (first | exact HB.out | apply below_alloc | apply pw_below_drewN | apply below_drew1 | refine below_set ?_ GE43008.out | refine below_set ?_ GE43012.out)) hb); clear HO_8; clear BK43008; clear BK43012; clear HB; have HO_8 := n0_; have BK43008 := n1_; have BK43012 := n2_; have HB := n3_; clear n0_ n1_ n2_ n3_; (try clear hb); (try clear hb2); (try clear hk); (try clear hi); obtain ⟨Ao65, co65, eo65⟩ := Kd.R_slice HO_8.out; subst eo65) | ((with_reducible refine gate_callee (f := 60) rfl ?_); refine goesL_ (some 82) rfl rfl Try.func60 (by kernel_rfl) rfl #[.slice Ao65 x8_2.length co65, .agg #[.int .i64 t43013, .int .i64 x14_19, .bool false]] rfl (by (try simp only [List.map_toArray, List.map_cons, List.map_nil]); first | done | rfl | (simp only [List.length_drop, List.length_take]; rfl)) ?_; (with_reducible refine (papermillref13_more.calls kj19 _ _ x8_2 t43013 x14_19 false t43018 _ ?side1 ?side2 A53.out).mono ?_); (case side1 => exact (Kd.R_reads' HO_8.out).2.2); (case side2 => exact (Kd.R_reads' HO_8.out).2.1); rintro e w66 ⟨v43019, rfl, ho0, hb⟩; refine ⟨_, rfl, ?_⟩; have n0_ := Aside0.mk (Kd.R_elder' (HO_8.out) (Kd.R_base ho0) hb); have n1_ := Aside0.mk (Kd.R_lower (Kd.R_newB (Kd.R_newB (Kd.R_new' ho0 (Kd.R_lt (HO_8.out))) (g := gb43008) (o := .cells #[.int .i64 x43009000_2, .int .i64 x43009001_2, .bool x43009002_2] 44 (0, 0)) (BK43008.out)) (g := gb43012) (o := .cells #[.int .i64 ((rd_T44 l1 t43009).f0), .int .i64 ((rd_T44 l1 t43009).f1), .bool ((rd_T44 l1 t43009).f2)] 44 (0, 0)) (BK43012.out)) (below_size (by repeat (first | exact HB.out | apply below_alloc | apply pw_below_drewN | apply below_drew1 | refine below_set ?_ GE43008.out | refine below_set ?_ GE43012.out)))); have n2_ := Aside0.mk (blk_below (g := gb43008) (o := .cells #[.int .i64 x43009000_2, .int .i64 x43009001_2, .bool x43009002_2] 44 (0, 0)) (BK43008.out) hb); have n3_ := Aside0.mk (blk_below (g := gb43012) (o := .cells #[.int .i64 ((rd_T44 l1 t43009).f0), .int .i64 ((rd_T44 l1 t43009).f1), .bool ((rd_T44 l1 t43009).f2)] 44 (0, 0)) (BK43012.out) hb); have n4_ := Aside0.mk (below_step (by repeat (first | exact HB.out | apply below_alloc | apply pw_below_drewN | apply below_drew1 | refine below_set ?_ GE43008.out | refine below_set ?_ GE43012.out)) hb); clear HO_8; clear BK43008; clear BK43012; clear HB; have HO_8 := n0_; have HO43020 := n1_; have BK43008 := n2_; have BK43012 := n3_; have HB := n4_; clear n0_ n1_ n2_ n3_ n4_; (try clear hb); (try clear hb2); (try clear hk); (try clear hi); (try clear ho0); have hcz67_0 : w66.cell? ⟨gb43008, 0, none⟩ = some (.int .i64 x43009000_2) := (blk_cell BK43008.out 0).trans rfl; have hcz67_1 : w66.cell? ⟨gb43008, 1, none⟩ = some (.int .i64 x43009001_2) := (blk_cell BK43008.out 1).trans rfl; have hcz67_2 : w66.cell? ⟨gb43008, 2, none⟩ = some (.bool x43009002_2) := (blk_cell BK43008.out 2).trans rfl; have hfz67_0 := blk_frozen BK43008.out 0; have hfz67_1 := blk_frozen BK43008.out 1; have hfz67_2 := blk_frozen BK43008.out 2))
                 have n0_ := Aside0.mk (Kd.R_drew HO_8.out)
                 have n1_ := Aside0.mk (Kd.R_drew HO43020.out)
                 have n2_ := Aside0.mk (blk_drew BK43008.out)
                 have n3_ := Aside0.mk (blk_drew BK43012.out)
                 have n4_ := Aside0.mk (below_drew1 HB.out)
                 clear HO_8
                 clear HO43020
                 clear BK43008
                 clear BK43012
                 clear HB
                 have HO_8 := n0_
                 have HO43020 := n1_
                 have BK43008 := n2_
                 have BK43012 := n3_
                 have HB := n4_
                 clear n0_ n1_ n2_ n3_ n4_
                 refine start_ (n := 11) (S := fun w' => w'.cell? ⟨gb43008, 0, none⟩ = some (.int .i64 x43009000_2) ∧ w'.cell? ⟨gb43008, 1, none⟩ = some (.int .i64 x43009001_2) ∧ w'.cell? ⟨gb43008, 2, none⟩ = some (.bool x43009002_2)) (ds := [10]) #[false, false, false, false, false, false, false, false, false, false, false] (by kernel_rfl) rfl rfl ⟨(blk_cell BK43008.out 0).trans rfl, (blk_cell BK43008.out 1).trans rfl, (blk_cell BK43008.out 2).trans rfl⟩ (fun hHeld => ?_); refine with_tabW papermillref13_Compose.tab24 papermillref13_Compose.bits24 (fun HT_ HW_ => ?_)
                 generalize w66.drew = w68 at HO_8 HO43020 BK43008 BK43012 HB hHeld ⊢
                 refine pure_ (i := 1) (N := some 88) (v := ?_) (a' := ?_) #[false, true, false, false, false, false, false, false, false, false, false] rfl rfl (any_of HT_.out (by kernel_rfl)) (fun _ _ _ h => h) (Or.inl ⟨by rfl, ?_⟩) ?_ ?_
                 rotate_left
                 ·intro w'
                  go_simp
                  with_reducible rfl
                 rotate_left
                 ·simp only [Act.put, List.setIfInBounds_toArray, List.set_cons_zero, List.set_cons_succ, i64_w, i32_w]
                  rfl
                 refine pure_ (i := 3) (N := some 90) (v := ?_) (a' := ?_) #[false, true, false, true, false, false, false, false, false, false, false] rfl rfl (any_of HT_.out (by kernel_rfl)) (fun _ _ _ h => h) (Or.inl ⟨by rfl, ?_⟩) ?_ ?_
                 rotate_left
                 ·intro w'
                  go_simp
                  with_reducible rfl
                 rotate_left
                 ·simp only [Act.put, List.setIfInBounds_toArray, List.set_cons_zero, List.set_cons_succ, i64_w, i32_w]
                  rfl
                 refine pure_ (i := 5) (N := some 92) (v := ?_) (a' := ?_) #[false, true, false, true, false, true, false, false, false, false, false] rfl rfl (any_of HT_.out (by kernel_rfl)) (fun _ _ _ h => h) (Or.inl ⟨by rfl, ?_⟩) ?_ ?_
                 rotate_left
                 ·intro w'
                  go_simp
                  with_reducible rfl
                 rotate_left
                 ·simp only [Act.put, List.setIfInBounds_toArray, List.set_cons_zero, List.set_cons_succ, i64_w, i32_w]
                  rfl
                 refine pure_ (i := 7) (N := some 94) (v := ?_) (a' := ?_) #[false, true, false, true, false, true, false, true, false, false, false] rfl rfl (any_of HT_.out (by kernel_rfl)) (fun _ _ _ h => h) (Or.inl ⟨by rfl, ?_⟩) ?_ ?_
                 rotate_left
                 ·intro w'
                  go_simp
                  with_reducible rfl
                 rotate_left
                 ·simp only [Act.put, List.setIfInBounds_toArray, List.set_cons_zero, List.set_cons_succ, i64_w, i32_w]
                  rfl
                 refine take_ (i := 0) (N := some 87) (v := ?_) (a' := ?_) #[true, true, false, true, false, true, false, true, false, false, false] rfl rfl (take_ofW HT_.out HW_.out (by kernel_rfl)) (fun _ _ _ h => h) (Or.inl ⟨by rfl, ?_⟩) hHeld ?_ ?_
                 rotate_left
                 ·rintro w' ⟨s0, s1, s2⟩
                  go_simp
                  with_reducible rfl
                 rotate_left
                 ·simp only [Act.put, List.setIfInBounds_toArray, List.set_cons_zero, List.set_cons_succ, i64_w, i32_w]
                  rfl
                 refine take_ (i := 4) (N := some 91) (v := ?_) (a' := ?_) #[true, true, false, true, true, true, false, true, false, false, false] rfl rfl (take_ofW HT_.out HW_.out (by kernel_rfl)) (fun _ _ _ h => h) (Or.inl ⟨by rfl, ?_⟩) hHeld ?_ ?_
                 rotate_left
                 ·rintro w' ⟨s0, s1, s2⟩
                  go_simp
                  with_reducible rfl
                 rotate_left
                 ·simp only [Act.put, List.setIfInBounds_toArray, List.set_cons_zero, List.set_cons_succ, i64_w, i32_w]
                  rfl
                 refine pure_ (i := 6) (N := some 93) (v := ?_) (a' := ?_) #[true, true, false, true, true, true, true, true, false, false, false] rfl rfl (any_of HT_.out (by kernel_rfl)) (fun _ _ _ h => h) (Or.inl ⟨by rfl, ?_⟩) ?_ ?_
                 rotate_left
                 ·intro w'
                  go_simp
                  with_reducible rfl
                 rotate_left
                 ·simp only [Act.put, List.setIfInBounds_toArray, List.set_cons_zero, List.set_cons_succ, i64_w, i32_w]
                  rfl
                 refine take_ (i := 8) (N := some 95) (v := ?_) (a' := ?_) #[true, true, false, true, true, true, true, true, true, false, false] rfl rfl (take_ofW HT_.out HW_.out (by kernel_rfl)) (fun _ _ _ h => h) (Or.inl ⟨by rfl, ?_⟩) hHeld ?_ ?_
                 rotate_left
                 ·rintro w' ⟨s0, s1, s2⟩
                  go_simp
                  with_reducible rfl
                 rotate_left
                 ·simp only [Act.put, List.setIfInBounds_toArray, List.set_cons_zero, List.set_cons_succ, i64_w, i32_w]
                  rfl
                 refine one_ (i := 2) (N := some 89) #[true, true, true, true, true, true, true, true, true, false, false] rfl rfl (one_of HT_.out (by kernel_rfl)) (by decide) (fun K hK => ?_)
                 refine goes_ Try.func48 (by kernel_rfl) rfl #[.agg #[.int .i64 x43009000_2, .int .i64 x43009001_2, .bool x43009002_2], .int .i64 x14_19] (by rfl) rfl rfl (by (try simp only [List.map_toArray, List.map_cons, List.map_nil]); first | done | rfl | (simp only [List.length_drop, List.length_take]; rfl)) ?_
                 with_reducible refine (papermillref13_image.calls x43009000_2 x43009001_2 x43009002_2 x14_19 t43021 _ A61.out).mono ?_
                 rintro e w69 ⟨rfl, hb⟩
                 refine ⟨_, rfl, ?_⟩
                 have n0_ := Aside0.mk (Kd.R_below (HO_8.out) hb)
                 have n1_ := Aside0.mk (Kd.R_below (HO43020.out) hb)
                 have n2_ := Aside0.mk (blk_below (g := gb43008) (o := .cells #[.int .i64 x43009000_2, .int .i64 x43009001_2, .bool x43009002_2] 44 (0, 0)) (BK43008.out) hb)
                 have n3_ := Aside0.mk (blk_below (g := gb43012) (o := .cells #[.int .i64 ((rd_T44 l1 t43009).f0), .int .i64 ((rd_T44 l1 t43009).f1), .bool ((rd_T44 l1 t43009).f2)] 44 (0, 0)) (BK43012.out) hb)
                 have n4_ := Aside0.mk (below_step (by repeat (first | exact HB.out | apply below_alloc | apply pw_below_drewN | apply below_drew1 | refine below_set ?_ GE43008.out | refine below_set ?_ GE43012.out)) hb)
                 clear HO_8
                 clear HO43020
                 clear BK43008
                 clear BK43012
                 clear HB
                 have HO_8 := n0_
                 have HO43020 := n1_
                 have BK43008 := n2_
                 have BK43012 := n3_
                 have HB := n4_
                 clear n0_ n1_ n2_ n3_ n4_
                 (try clear hb)
                 (try clear hb2)
                 (try clear hk)
                 (try clear hi)
                 refine hK.out _ _ ⟨(blk_cell BK43008.out 0).trans rfl, (blk_cell BK43008.out 1).trans rfl, (blk_cell BK43008.out 2).trans rfl⟩ (fun hHeld => ?_)
                 clear hK K
                 refine norm_ (a' := ?_) ?_ ?_
                 rotate_left
                 ·show Act.put _ (some 89) _ = _
                  simp only [Act.put, List.setIfInBounds_toArray, List.set_cons_zero, List.set_cons_succ, i64_w, i32_w]
                  rfl
                 refine pure_ (i := 9) (N := some 96) (v := ?_) (a' := ?_) #[true, true, true, true, true, true, true, true, true, true, false] rfl rfl (any_of HT_.out (by kernel_rfl)) (fun _ _ _ h => h) (Or.inl ⟨by rfl, ?_⟩) ?_ ?_
                 rotate_left
                 ·intro w'
                  go_simp
                  with_reducible rfl
                 rotate_left
                 ·simp only [Act.put, List.setIfInBounds_toArray, List.set_cons_zero, List.set_cons_succ, i64_w, i32_w]
                  rfl
                 refine last_ (i := 10) (N := none) #[true, true, true, true, true, true, true, true, true, true, true] rfl rfl (one_of HT_.out (by kernel_rfl)) (by decide) (fun K hK => ?_)
                 have hs70 : w69.cell? ⟨gb43008, 0, none⟩ = some (.int .i64 x43009000_2) := (blk_cell BK43008.out 0).trans rfl
                 have hfs70 := blk_frozen BK43008.out 0
                 have hns70_1 := NB43012_43008.out
                 have hms70_1 := NB43008_43012.out
                 have hs71 : w69.cell? ⟨gb43008, 1, none⟩ = some (.int .i64 x43009001_2) := (blk_cell BK43008.out 1).trans rfl
                 have hfs71 := blk_frozen BK43008.out 1
                 have hns71_1 := NB43012_43008.out
                 have hms71_1 := NB43008_43012.out
                 have hs72 : w69.cell? ⟨gb43008, 2, none⟩ = some (.bool x43009002_2) := (blk_cell BK43008.out 2).trans rfl
                 have hfs72 := blk_frozen BK43008.out 2
                 have hns72_1 := NB43012_43008.out
                 have hms72_1 := NB43008_43012.out
                 refine skip_ (w1 := ?_) (by rfl) rfl ?_ ?_
                 rotate_left
                 ·go_simp
                  rfl
                 refine hK.out _ _ ?_
                 clear hK K
                 refine done_ (done_of HT_.out (by kernel_rfl)) ?_
                 try go_wp2
                 go_roundg kj19
                 case measure => have := HK1.out; have := HK2.out; have := HJ19.out; omega
                 case rel => exact ⟨(t43018), (t43021), (wrap64 (x43009001_2 - x14_19)), (x43009002_2), H', ⟨by have := HK1.out; have := HK2.out; have := HJ19.out; omega⟩, ⟨by exact Kd.R_mono (Kd.R_far (p := ⟨gb43008, 2, none⟩) (Kd.R_far (p := ⟨gb43008, 1, none⟩) (Kd.R_far (p := ⟨gb43008, 0, none⟩) (Kd.R_mono HO43020.out (fun k_ hk => (⟨hk, hk.1.2⟩ : _ ∧ k_ ≠ gb43008))) (fun _ hk => hk.2) (.int .i64 t43021)) (fun _ hk => hk.2) (.int .i64 (wrap64 (x43009001_2 - x14_19)))) (fun _ hk => hk.2) (.bool x43009002_2)) (fun _ hk => hk.1.1.2)⟩, ⟨by refine blk_put (cs := #[.int .i64 t43021, .int .i64 (wrap64 (x43009001_2 - x14_19)), .bool x43009002_2]) ?_ 2 _ rfl; refine blk_put (cs := #[.int .i64 t43021, .int .i64 x43009001_2, .bool x43009002_2]) ?_ 1 _ rfl; refine blk_put (cs := #[.int .i64 x43009000_2, .int .i64 x43009001_2, .bool x43009002_2]) ?_ 0 _ rfl; exact BK43008.out⟩, ⟨by repeat (first | exact HB.out | apply below_alloc | apply pw_below_drewN | apply below_drew1 | refine below_set ?_ GE43008.out | refine below_set ?_ GE43012.out)⟩⟩
            ·rw [if_neg c18] at H
             exact absurd H (by simp)
           ·rw [if_neg c17] at H
            exact absurd H (by simp)
         ·rw [if_neg c13] at H
          have c13b0 : decide (0 < x43009001_2) = false := decide_eq_false c13
          clear c13
          have H' := Aside0.mk H
          clear H
          have hcz73_0 : wr.cell? ⟨gb43008, 0, none⟩ = some (.int .i64 x43009000_2) := (blk_cell BK43008.out 0).trans rfl
          have hcz73_1 : wr.cell? ⟨gb43008, 1, none⟩ = some (.int .i64 x43009001_2) := (blk_cell BK43008.out 1).trans rfl
          have hcz73_2 : wr.cell? ⟨gb43008, 2, none⟩ = some (.bool x43009002_2) := (blk_cell BK43008.out 2).trans rfl
          have hfz73_0 := blk_frozen BK43008.out 0
          have hfz73_1 := blk_frozen BK43008.out 1
          have hfz73_2 := blk_frozen BK43008.out 2
          go_wp2
          go_roundg k2
          case measure => have := HK1.out; have := HK2.out; omega
          case rel => exact ⟨(x8_2), (wrap64 (x9_1 + 1)), (by first | rfl | (simp; done) | (simp [*]; done)), H', ⟨by have := HK1.out; have := HK2.out; omega⟩, ⟨by exact Kd.R_mono HO_8.out (fun _ hk => trivial)⟩, ⟨by repeat (first | exact HB.out | apply below_alloc | apply pw_below_drewN | apply below_drew1 | refine below_set ?_ GE43008.out)⟩⟩
      ·rw [if_neg c10] at H
       exact absurd H (by simp)
     ·rw [if_neg c9] at H
      have c9b0 : decide (x9_1 < (l0.length : Int)) = false := decide_eq_false c9
      clear c9
      replace H := Option.bind_eq_some_iff.mp H
      obtain ⟨⟨t43003, t43006⟩, A740, H⟩ := H
      replace H : (some (t43003, t43006)) = some (r1, r2) := H
      have A74 := Aside0.mk A740
      clear A740
      simp only [Option.some.injEq, Prod.mk.injEq] at H
      obtain ⟨rfl, rfl⟩ := H
      obtain ⟨Ao75, co75, eo75⟩ := Kd.R_slice HO_8.out
      subst eo75
      go_wp2_with (first | ((with_reducible refine gate_callee (f := 63) rfl ?_); refine goesL_ (some 98) rfl rfl Try.func63 (by kernel_rfl) rfl #[.slice Ao75 x8_1.length co75] rfl (by (try simp only [List.map_toArray, List.map_cons, List.map_nil]); first | done | rfl | (simp only [List.length_drop, List.length_take]; rfl)) ?_; (with_reducible refine (papermillref13_limited.calls (fun k_ => some k_ = (.slice Ao75 x8_1.length co75 : Value).ownBlock) (.slice Ao75 x8_1.length co75) x8_1 t43003 t43006 w _ ?side1 ?side2 A74.out).mono ?_); (case side1 => repeat (first | exact HB.out | apply below_alloc | apply pw_below_drewN | apply below_drew1)); (case side2 => exact Kd.R_tight rfl HO_8.out); rintro e w76 ⟨v43004, rfl, ho0, hb, hkp⟩; refine ⟨_, rfl, ?_⟩; have n0_ := Aside0.mk (Kd.R_mono (ok' := fun k_ => True) ho0 (fun k_ hk_ => trivial)); have n1_ := Aside0.mk (hb); clear HB; clear HO_8; have HO43005 := n0_; have HB := n1_; clear n0_ n1_; (try clear hb); (try clear hkp); (try clear ho0)))
      go_ret2
      exact ⟨_, by first | rfl | (simp [errW_none, errW_some] <;> rfl) | (simp [*, errW_none, errW_some] <;> rfl), by exact HO43005.out, by repeat (first | exact HB.out | apply below_alloc | apply pw_below_drewN | apply below_drew1)⟩
  ·rw [if_neg c6] at H
   have c6b0 : (t43002 == 0) = false := beq_eq_false_iff_ne.mpr c6
   have c6b1 : (t43002 != 0) = true := bne_iff_ne.mpr c6
   simp only [Option.some.injEq, Prod.mk.injEq] at H
   obtain ⟨rfl, rfl⟩ := H
   go_enter Try.func42, Try.ntmps42
   go_wp2_with (first | ((with_reducible refine gate_callee (f := 25) rfl ?_); refine goesL_ (some 17) rfl rfl Try.func25 (by kernel_rfl) rfl #[.slice A0 l0.length c0] rfl (by (try simp only [List.map_toArray, List.map_cons, List.map_nil]); first | done | rfl | (simp only [List.length_drop, List.length_take]; rfl)) ?_; (with_reducible refine (papermillref13_Check.calls k _ _ l0 t43001 _ ?side1 ?side2 A3.out).mono ?_); (case side1 => exact HR0.out); (case side2 => exact HC0.out); rintro e w77 ⟨rfl, hb⟩; refine ⟨_, rfl, ?_⟩; have n0_ := Aside0.mk (below_step (by repeat (first | exact HB.out | apply below_alloc | apply pw_below_drewN | apply below_drew1)) hb); clear HB; have HB := n0_; clear n0_; (try clear hb); (try clear hb2); (try clear hk); (try clear hi)) | ((with_reducible refine gate_callee (f := 25) rfl ?_); refine goesL_ (some 22) rfl rfl Try.func25 (by kernel_rfl) rfl #[.slice A1 l1.length c1] rfl (by (try simp only [List.map_toArray, List.map_cons, List.map_nil]); first | done | rfl | (simp only [List.length_drop, List.length_take]; rfl)) ?_; (with_reducible refine (papermillref13_Check.calls k _ _ l1 t43002 _ ?side1 ?side2 A5.out).mono ?_); (case side1 => exact (Kd.C_below HR1.out HB.out)); (case side2 => exact HC1.out); rintro e w78 ⟨rfl, hb⟩; refine ⟨_, rfl, ?_⟩; have n0_ := Aside0.mk (below_step (by repeat (first | exact HB.out | apply below_alloc | apply pw_below_drewN | apply below_drew1)) hb); clear HB; have HB := n0_; clear n0_; (try clear hb); (try clear hb2); (try clear hk); (try clear hi)))
   go_ret2
   exact ⟨_, by first | rfl | (simp [errW_none, errW_some] <;> rfl) | (simp [*, errW_none, errW_some] <;> rfl), by first | exact Kd.R_nil _ _ _ _ _ | exact Kd.N_nil _ _ _ _ _ | exact Kd.V_nil _ _ _ _ _ | exact Kd.Q_nil _ _ _ _ _ | exact Kd.S_nil _ _ _ _ _, by repeat (first | exact HB.out | apply below_alloc | apply pw_below_drewN | apply below_drew1)⟩
 ·rw [if_neg c4] at H
  have c4b0 : (t43001 == 0) = false := beq_eq_false_iff_ne.mpr c4
  have c4b1 : (t43001 != 0) = true := bne_iff_ne.mpr c4
  simp only [Option.some.injEq, Prod.mk.injEq] at H
  obtain ⟨rfl, rfl⟩ := H
  go_enter Try.func42, Try.ntmps42
  go_wp2_with (first | ((with_reducible refine gate_callee (f := 25) rfl ?_); refine goesL_ (some 17) rfl rfl Try.func25 (by kernel_rfl) rfl #[.slice A0 l0.length c0] rfl (by (try simp only [List.map_toArray, List.map_cons, List.map_nil]); first | done | rfl | (simp only [List.length_drop, List.length_take]; rfl)) ?_; (with_reducible refine (papermillref13_Check.calls k _ _ l0 t43001 _ ?side1 ?side2 A3.out).mono ?_); (case side1 => exact HR0.out); (case side2 => exact HC0.out); rintro e w79 ⟨rfl, hb⟩; refine ⟨_, rfl, ?_⟩; have n0_ := Aside0.mk (below_step (by repeat (first | exact HB.out | apply below_alloc | apply pw_below_drewN | apply below_drew1)) hb); clear HB; have HB := n0_; clear n0_; (try clear hb); (try clear hb2); (try clear hk); (try clear hi)))
  go_ret2
  exact ⟨_, by first | rfl | (simp [errW_none, errW_some] <;> rfl) | (simp [*, errW_none, errW_some] <;> rfl), by first | exact Kd.R_nil _ _ _ _ _ | exact Kd.N_nil _ _ _ _ _ | exact Kd.V_nil _ _ _ _ _ | exact Kd.Q_nil _ _ _ _ _ | exact Kd.S_nil _ _ _ _ _, by repeat (first | exact HB.out | apply below_alloc | apply pw_below_drewN | apply below_drew1)⟩

end Go.Proofs.Ytalpegglbfobiaa.G

namespace Go.Proofs.Ytalpegglbfobiaa.G
open Go.RowKit Go.Proofs.YtalpegglbfobiaaW.PrintWords Go.Proofs.YtalpegglbfobiaaW.PrintLast Go.Proofs.YtalpegglbfobiaaW.PrintMore
attribute [local go_sem] max2_int min2_int max_two min_two max_three min_three max_four min_four   -- for this text's walks alone
set_option linter.unusedVariables false
set_option linter.unusedSimpArgs false

mutual
def papermillref41_After.l0 : Nat → List (List (S44)) → Int → Option ((List (S44)) × Int)
 | 0, _, _ => none
 | k + 1, x0, x4 => if x4 < (x0.length : Int) then (if 0 ≤ x4 then ((papermillref13_Check.f k (rd_L6 x0 x4)).bind fun t23002 => (if t23002 = 0 then (papermillref41_After.l0 k x0 (wrap64 (x4 + 1))) else (some (([] : List (S44)), t23002)))) else (none)) else (if (x0.length : Int) = 0 then (some (([] : List (S44)), 0)) else (if 0 ≤ (wrap64 ((x0.length : Int) - 1)) then (if (wrap64 ((x0.length : Int) - 1)) < (x0.length : Int) then ((papermillref13_Norm.f k (rd_L6 x0 (wrap64 ((x0.length : Int) - 1)))).bind fun bt23004 => (papermillref41_After.l1 k x0 bt23004.1 (wrap64 ((x0.length : Int) - 2)))) else (none)) else (none)))
def papermillref41_After.l1 : Nat → List (List (S44)) → List (S44) → Int → Option ((List (S44)) × Int)
 | 0, _, _, _ => none
 | k + 1, x0, x6, x8 => if x8 ≥ 0 then (if 0 ≤ x8 then (if x8 < (x0.length : Int) then ((papermillref13_Compose.f k x6 (rd_L6 x0 x8)).bind fun bt23009 => (if bt23009.2 = 0 then (papermillref41_After.l1 k x0 bt23009.1 (wrap64 (x8 - 1))) else (some (([] : List (S44)), bt23009.2)))) else (none)) else (none)) else (some (x6, 0))
end
def papermillref41_After.f (k : Nat) (l0 : List (List (S44))) : Option ((List (S44)) × Int) := if (l0.length : Int) > 16 then (some (([] : List (S44)), 8)) else (papermillref41_After.l0 k l0 0)
set_option maxHeartbeats 8000000 in
set_option maxRecDepth 100000 in
theorem papermillref41_After.calls (k : Nat) (A0 : Option Addr) (c0 : Nat) (l0 : List (List (S44))) (r1 : List (S44)) (r2 : Int) (w : World) (hr0 : Kd.C (Kd.slice 44 k44) w A0 l0.length l0) (hc0 : l0.length ≤ c0) (h : papermillref41_After.f k l0 = some (r1, r2)) :
  Calls Try.prog 22 #[.slice A0 l0.length c0] w fun e w' => ∃ v0_ : Value, e = .returned (.tuple #[v0_, .int .i64 r2]) ∧ Kd.R k44 44 w' w.heap.size (fun _ => True) v0_ r1 ∧ Below w.heap.size w w' := by
 have HR0 := Aside0.mk hr0
 have HC0 := Aside0.mk hc0
 clear hr0 hc0
 have HB := Aside0.mk (Below.refl w.heap.size w)
 have H : (if (l0.length : Int) > 16 then (some (([] : List (S44)), 8)) else (papermillref41_After.l0 k l0 0)) = some (r1, r2) := h
 clear h
 by_cases c2 : (l0.length : Int) > 16
 ·rw [if_pos c2] at H
  have c2b0 : decide (16 < (l0.length : Int)) = true := decide_eq_true c2
  have c2b1 : decide (16 < l0.length) = true := decide_eq_true (by omega)
  clear c2
  simp only [Option.some.injEq, Prod.mk.injEq] at H
  obtain ⟨rfl, rfl⟩ := H
  go_enter Try.func22, Try.ntmps22
  go_wp2
  go_ret2
  exact ⟨_, by first | rfl | (simp [errW_none, errW_some] <;> rfl) | (simp [*, errW_none, errW_some] <;> rfl), by first | exact Kd.R_nil _ _ _ _ _ | exact Kd.N_nil _ _ _ _ _ | exact Kd.V_nil _ _ _ _ _ | exact Kd.Q_nil _ _ _ _ _ | exact Kd.S_nil _ _ _ _ _, by repeat (first | exact HB.out | apply below_alloc | apply pw_below_drewN | apply below_drew1)⟩
 ·rw [if_neg c2] at H
  have c2b0 : decide (16 < (l0.length : Int)) = false := decide_eq_false c2
  have c2b1 : decide (16 < l0.length) = false := decide_eq_false (by omega)
  clear c2
  have H' := Aside0.mk H
  clear H
  go_enter Try.func22, Try.ntmps22
  go_wp2
  go_loopg [4] k (fun kq v4 w' => ∃ (x4_1 : Int), v4 = .int .i64 x4_1 ∧ Aside0 (papermillref41_After.l0 kq l0 x4_1 = some (r1, r2)) ∧ Aside0 (kq ≤ k) ∧ Aside0 (Below w.heap.size w w'))
  case atStart => exact ⟨(0), (by first | rfl | (simp; done) | (simp [*]; done)), H', ⟨Nat.le_refl _⟩, ⟨by repeat (first | exact HB.out | apply below_alloc | apply pw_below_drewN | apply below_drew1)⟩⟩
  case round =>
   clear H'
   try clear c2
   try clear c2b0
   try clear c2b1
   try clear p2
   obtain ⟨x4_1, rfl, HA, HK1, HB⟩ := hrel
   cases gk with
   | zero => exact absurd HA.out (by simp [papermillref41_After.l0])
   | succ k1 =>
    have H := HA.out
    clear HA
    simp only [papermillref41_After.l0] at H
    by_cases c3 : x4_1 < (l0.length : Int)
    ·rw [if_pos c3] at H
     have c3b0 : decide (x4_1 < (l0.length : Int)) = true := decide_eq_true c3
     clear c3
     by_cases c4 : 0 ≤ x4_1
     ·rw [if_pos c4] at H
      have c4b0 : decide (0 ≤ x4_1) = true := decide_eq_true c4
      clear c4
      replace H := Option.bind_eq_some_iff.mp H
      obtain ⟨t23002, A50, H⟩ := H
      replace H : (if t23002 = 0 then (papermillref41_After.l0 k1 l0 (wrap64 (x4_1 + 1))) else (some (([] : List (S44)), t23002))) = some (r1, r2) := H
      have A5 := Aside0.mk A50
      clear A50
      by_cases c6 : t23002 = 0
      ·rw [if_pos c6] at H
       have c6b0 : (t23002 == 0) = true := beq_iff_eq.mpr c6
       have c6b1 : (t23002 != 0) = false := bne_eq_false_iff_eq.mpr c6
       clear c6
       have H' := Aside0.mk H
       clear H
       have p23001 : 0 ≤ (x4_1 : Int) := of_decide_eq_true (by assumption)
       have q23001 : x4_1 < (l0.length : Int) := of_decide_eq_true (by assumption)
       obtain ⟨ad23001, A23001_0, c23001_0, e23001, hx23001_0, hl23001_0, hi23001_0⟩ := at_L6 HR0.out x4_1 p23001 q23001
       cases e23001
       replace hx23001_0 := (HB.out.cell (World.block_lt_of_cell? w _ hx23001_0)).trans hx23001_0
       have HR23001_0 := Aside0.mk hi23001_0
       have HC23001_0 := Aside0.mk hl23001_0
       clear hi23001_0 hl23001_0
       replace p23001 := eq_true p23001
       replace q23001 := eq_true q23001
       go_wp2_with (first | ((with_reducible refine gate_callee (f := 25) rfl ?_); refine goesL_ (some 24) rfl rfl Try.func25 (by kernel_rfl) rfl #[.slice A23001_0 (rd_L6 l0 x4_1).length c23001_0] rfl (by (try simp only [List.map_toArray, List.map_cons, List.map_nil]); first | done | rfl | (simp only [List.length_drop, List.length_take]; rfl)) ?_; (with_reducible refine (papermillref13_Check.calls k1 _ _ (rd_L6 l0 x4_1) t23002 _ ?side1 ?side2 A5.out).mono ?_); (case side1 => exact (Kd.C_below HR23001_0.out HB.out)); (case side2 => exact HC23001_0.out); rintro e w7 ⟨rfl, hb⟩; refine ⟨_, rfl, ?_⟩; have n0_ := Aside0.mk (below_step (by repeat (first | exact HB.out | apply below_alloc | apply pw_below_drewN | apply below_drew1)) hb); clear HB; have HB := n0_; clear n0_; (try clear hb); (try clear hb2); (try clear hk); (try clear hi)))
       go_roundg k1
       case measure => have := HK1.out; omega
       case rel => exact ⟨(wrap64 (x4_1 + 1)), (by first | rfl | (simp; done) | (simp [*]; done)), H', ⟨by have := HK1.out; omega⟩, ⟨by repeat (first | exact HB.out | apply below_alloc | apply pw_below_drewN | apply below_drew1)⟩⟩
      ·rw [if_neg c6] at H
       have c6b0 : (t23002 == 0) = false := beq_eq_false_iff_ne.mpr c6
       have c6b1 : (t23002 != 0) = true := bne_iff_ne.mpr c6
       simp only [Option.some.injEq, Prod.mk.injEq] at H
       obtain ⟨rfl, rfl⟩ := H
       have p23001 : 0 ≤ (x4_1 : Int) := of_decide_eq_true (by assumption)
       have q23001 : x4_1 < (l0.length : Int) := of_decide_eq_true (by assumption)
       obtain ⟨ad23001, A23001_0, c23001_0, e23001, hx23001_0, hl23001_0, hi23001_0⟩ := at_L6 HR0.out x4_1 p23001 q23001
       cases e23001
       replace hx23001_0 := (HB.out.cell (World.block_lt_of_cell? w _ hx23001_0)).trans hx23001_0
       have HR23001_0 := Aside0.mk hi23001_0
       have HC23001_0 := Aside0.mk hl23001_0
       clear hi23001_0 hl23001_0
       replace p23001 := eq_true p23001
       replace q23001 := eq_true q23001
       go_wp2_with (first | ((with_reducible refine gate_callee (f := 25) rfl ?_); refine goesL_ (some 24) rfl rfl Try.func25 (by kernel_rfl) rfl #[.slice A23001_0 (rd_L6 l0 x4_1).length c23001_0] rfl (by (try simp only [List.map_toArray, List.map_cons, List.map_nil]); first | done | rfl | (simp only [List.length_drop, List.length_take]; rfl)) ?_; (with_reducible refine (papermillref13_Check.calls k1 _ _ (rd_L6 l0 x4_1) t23002 _ ?side1 ?side2 A5.out).mono ?_); (case side1 => exact (Kd.C_below HR23001_0.out HB.out)); (case side2 => exact HC23001_0.out); rintro e w8 ⟨rfl, hb⟩; refine ⟨_, rfl, ?_⟩; have n0_ := Aside0.mk (below_step (by repeat (first | exact HB.out | apply below_alloc | apply pw_below_drewN | apply below_drew1)) hb); clear HB; have HB := n0_; clear n0_; (try clear hb); (try clear hb2); (try clear hk); (try clear hi)))
       go_ret2
       exact ⟨_, by first | rfl | (simp [errW_none, errW_some] <;> rfl) | (simp [*, errW_none, errW_some] <;> rfl), by first | exact Kd.R_nil _ _ _ _ _ | exact Kd.N_nil _ _ _ _ _ | exact Kd.V_nil _ _ _ _ _ | exact Kd.Q_nil _ _ _ _ _ | exact Kd.S_nil _ _ _ _ _, by repeat (first | exact HB.out | apply below_alloc | apply pw_below_drewN | apply below_drew1)⟩
     ·rw [if_neg c4] at H
      exact absurd H (by simp)
    ·rw [if_neg c3] at H
     have c3b0 : decide (x4_1 < (l0.length : Int)) = false := decide_eq_false c3
     clear c3
     by_cases c9 : (l0.length : Int) = 0
     ·rw [if_pos c9] at H
      have c9b0 : ((l0.length : Int) == 0) = true := beq_iff_eq.mpr c9
      have c9b1 : ((l0.length : Int) != 0) = false := bne_eq_false_iff_eq.mpr c9
      clear c9
      simp only [Option.some.injEq, Prod.mk.injEq] at H
      obtain ⟨rfl, rfl⟩ := H
      go_wp2
      go_ret2
      exact ⟨_, by first | rfl | (simp [errW_none, errW_some] <;> rfl) | (simp [*, errW_none, errW_some] <;> rfl), by first | exact Kd.R_nil _ _ _ _ _ | exact Kd.N_nil _ _ _ _ _ | exact Kd.V_nil _ _ _ _ _ | exact Kd.Q_nil _ _ _ _ _ | exact Kd.S_nil _ _ _ _ _, by repeat (first | exact HB.out | apply below_alloc | apply pw_below_drewN | apply below_drew1)⟩
     ·rw [if_neg c9] at H
      have c9b0 : ((l0.length : Int) == 0) = false := beq_eq_false_iff_ne.mpr c9
      have c9b1 : ((l0.length : Int) != 0) = true := bne_iff_ne.mpr c9
      have c9b2 : ¬ (l0 = []) := fun h_ => c9 (by rw [h_]; rfl)
      obtain ⟨ji10, hji10⟩ : ∃ j_ : Int, (wrap64 ((l0.length : Int) - 1)) = j_ := ⟨_, rfl⟩
      replace H : (if 0 ≤ (ji10) then (if (ji10) < (l0.length : Int) then ((papermillref13_Norm.f k1 (rd_L6 l0 (ji10))).bind fun bt23004 => (papermillref41_After.l1 k1 l0 bt23004.1 (wrap64 ((l0.length : Int) - 2)))) else (none)) else (none)) = some (r1, r2) := by first | (rw [hji10] at H; exact H) | (simp only [hji10] at H ⊢; exact H)
      have hji10w : (IntKind.i64.wrap ((l0.length : Int) - 1)) = ji10 := (i64_w _).trans hji10
      by_cases c11 : 0 ≤ (ji10)
      ·rw [if_pos c11] at H
       have c11b0 : decide (0 ≤ (ji10)) = true := decide_eq_true c11
       clear c11
       by_cases c12 : (ji10) < (l0.length : Int)
       ·rw [if_pos c12] at H
        have c12b0 : decide ((ji10) < (l0.length : Int)) = true := decide_eq_true c12
        clear c12
        replace H := Option.bind_eq_some_iff.mp H
        obtain ⟨⟨t23004, t23005⟩, A130, H⟩ := H
        replace H : (papermillref41_After.l1 k1 l0 t23004 (wrap64 ((l0.length : Int) - 2))) = some (r1, r2) := H
        have A13 := Aside0.mk A130
        clear A130
        have H' := Aside0.mk H
        clear H
        have p23003 : 0 ≤ ((ji10) : Int) := of_decide_eq_true (by assumption)
        have q23003 : (ji10) < (l0.length : Int) := of_decide_eq_true (by assumption)
        obtain ⟨ad23003, A23003_0, c23003_0, e23003, hx23003_0, hl23003_0, hi23003_0⟩ := at_L6 HR0.out (ji10) p23003 q23003
        cases e23003
        replace hx23003_0 := (HB.out.cell (World.block_lt_of_cell? w _ hx23003_0)).trans hx23003_0
        have HR23003_0 := Aside0.mk hi23003_0
        have HC23003_0 := Aside0.mk hl23003_0
        clear hi23003_0 hl23003_0
        replace p23003 := eq_true p23003
        replace q23003 := eq_true q23003
        go_wp2_with (first | ((with_reducible refine gate_callee (f := 41) rfl ?_); refine goesL_ (some 38) rfl rfl Try.func41 (by kernel_rfl) rfl #[.slice A23003_0 (rd_L6 l0 (ji10)).length c23003_0] rfl (by (try simp only [List.map_toArray, List.map_cons, List.map_nil]); first | done | (simp only [hji10]; rfl) | rfl | (simp only [List.length_drop, List.length_take]; rfl)) ?_; (with_reducible refine (papermillref13_Norm.calls k1 _ _ (rd_L6 l0 (ji10)) t23004 t23005 _ ?side1 ?side2 A13.out).mono ?_); (case side1 => exact (Kd.C_below HR23003_0.out HB.out)); (case side2 => exact HC23003_0.out); rintro e w14 ⟨v23006, rfl, ho0, hb⟩; refine ⟨_, rfl, ?_⟩; have n0_ := Aside0.mk (Kd.R_lower ho0 (below_size (by repeat (first | exact HB.out | apply below_alloc | apply pw_below_drewN | apply below_drew1)))); have n1_ := Aside0.mk (below_step (by repeat (first | exact HB.out | apply below_alloc | apply pw_below_drewN | apply below_drew1)) hb); clear HB; have HO23007 := n0_; have HB := n1_; clear n0_ n1_; (try clear hb); (try clear hb2); (try clear hk); (try clear hi); (try clear ho0)))
        go_loopg [6, 8] k1 (fun kq v6 v8 w' => ∃ (x6_2 : List (S44)) (x8_2 : Int), v8 = .int .i64 x8_2 ∧ Aside0 (papermillref41_After.l1 kq l0 x6_2 x8_2 = some (r1, r2)) ∧ Aside0 (kq ≤ k1) ∧ Aside0 (Kd.R k44 44 w' w.heap.size (fun _ => True) v6 x6_2) ∧ Aside0 (Below w.heap.size w w'))
        case atStart => exact ⟨(t23004), (wrap64 ((l0.length : Int) - 2)), (by first | rfl | (simp; done) | (simp [*]; done)), H', ⟨Nat.le_refl _⟩, ⟨HO23007.out⟩, ⟨by repeat (first | exact HB.out | apply below_alloc | apply pw_below_drewN | apply below_drew1)⟩⟩
        case round =>
         clear H'
         try clear c1
         try clear c2
         try clear c2b0
         try clear c2b1
         try clear p2
         try clear q2
         try clear hx2
         try clear c3
         try clear c3b0
         try clear c4
         try clear c4b0
         try clear c6
         try clear c6b0
         try clear c6b1
         try clear p6
         try clear c9
         try clear c9b0
         try clear c9b1
         try clear c9b2
         try clear c11
         try clear c11b0
         try clear c12
         try clear c12b0
         try clear hx23001_0
         try clear hx23003_0
         try clear p2
         try clear p23001
         try clear p23003
         try clear q23001
         try clear q23003
         obtain ⟨x6_2, x8_2, rfl, HA, HK2, HO_6, HB⟩ := hrel
         cases gk with
         | zero => exact absurd HA.out (by simp [papermillref41_After.l1])
         | succ k2 =>
          have H := HA.out
          clear HA
          simp only [papermillref41_After.l1] at H
          by_cases c15 : x8_2 ≥ 0
          ·rw [if_pos c15] at H
           have c15b0 : decide (0 ≤ x8_2) = true := decide_eq_true c15
           clear c15
           by_cases c16 : 0 ≤ x8_2
           ·rw [if_pos c16] at H
            have c16b0 : decide (0 ≤ x8_2) = true := decide_eq_true c16
            clear c16
            by_cases c17 : x8_2 < (l0.length : Int)
            ·rw [if_pos c17] at H
             have c17b0 : decide (x8_2 < (l0.length : Int)) = true := decide_eq_true c17
             clear c17
             replace H := Option.bind_eq_some_iff.mp H
             obtain ⟨⟨t23009, t23010⟩, A180, H⟩ := H
             replace H : (if t23010 = 0 then (papermillref41_After.l1 k2 l0 t23009 (wrap64 (x8_2 - 1))) else (some (([] : List (S44)), t23010))) = some (r1, r2) := H
             have A18 := Aside0.mk A180
             clear A180
             by_cases c19 : t23010 = 0
             ·rw [if_pos c19] at H
              have c19b0 : (t23010 == 0) = true := beq_iff_eq.mpr c19
              have c19b1 : (t23010 != 0) = false := bne_eq_false_iff_eq.mpr c19
              clear c19
              have H' := Aside0.mk H
              clear H
              have p23008 : 0 ≤ (x8_2 : Int) := of_decide_eq_true (by assumption)
              have q23008 : x8_2 < (l0.length : Int) := of_decide_eq_true (by assumption)
              obtain ⟨ad23008, A23008_0, c23008_0, e23008, hx23008_0, hl23008_0, hi23008_0⟩ := at_L6 HR0.out x8_2 p23008 q23008
              obtain rfl : ad23003 = ad23008 := (by injection e23008)
              replace hx23008_0 := (HB.out.cell (World.block_lt_of_cell? w _ hx23008_0)).trans hx23008_0
              have HR23008_0 := Aside0.mk hi23008_0
              have HC23008_0 := Aside0.mk hl23008_0
              clear hi23008_0 hl23008_0
              replace p23008 := eq_true p23008
              replace q23008 := eq_true q23008
              obtain ⟨Ao20, co20, eo20⟩ := Kd.R_slice HO_6.out
              subst eo20
              go_wp2_with (first | ((with_reducible refine gate_callee (f := 42) rfl ?_); refine goesL_ (some 54) rfl rfl Try.func42 (by kernel_rfl) rfl #[.slice Ao20 x6_2.length co20, .slice A23008_0 (rd_L6 l0 x8_2).length c23008_0] rfl (by (try simp only [List.map_toArray, List.map_cons, List.map_nil]); first | done | rfl | (simp only [List.length_drop, List.length_take]; rfl)) ?_; (with_reducible refine (papermillref13_Compose.calls k2 _ _ x6_2 _ _ (rd_L6 l0 x8_2) t23009 t23010 _ ?side1 ?side2 ?side3 ?side4 A18.out).mono ?_); (case side1 => exact (Kd.R_reads' HO_6.out).2.2); (case side2 => exact (Kd.R_reads' HO_6.out).2.1); (case side3 => exact (Kd.C_below HR23008_0.out HB.out)); (case side4 => exact HC23008_0.out); rintro e w21 ⟨v23011, rfl, ho0, hb⟩; refine ⟨_, rfl, ?_⟩; have n0_ := Aside0.mk (Kd.R_elder' (HO_6.out) (Kd.R_base ho0) hb); have n1_ := Aside0.mk (Kd.R_lower (Kd.R_new' ho0 (Kd.R_lt (HO_6.out))) (below_size (by repeat (first | exact HB.out | apply below_alloc | apply pw_below_drewN | apply below_drew1)))); have n2_ := Aside0.mk (below_step (by repeat (first | exact HB.out | apply below_alloc | apply pw_below_drewN | apply below_drew1)) hb); clear HO_6; clear HB; have HO_6 := n0_; have HO23012 := n1_; have HB := n2_; clear n0_ n1_ n2_; (try clear hb); (try clear hb2); (try clear hk); (try clear hi); (try clear ho0)))
              go_roundg k2
              case measure => have := HK1.out; have := HK2.out; omega
              case rel => exact ⟨(t23009), (wrap64 (x8_2 - 1)), (by first | rfl | (simp; done) | (simp [*]; done)), H', ⟨by have := HK1.out; have := HK2.out; omega⟩, ⟨by exact Kd.R_mono HO23012.out (fun _ hk => trivial)⟩, ⟨by repeat (first | exact HB.out | apply below_alloc | apply pw_below_drewN | apply below_drew1)⟩⟩
             ·rw [if_neg c19] at H
              have c19b0 : (t23010 == 0) = false := beq_eq_false_iff_ne.mpr c19
              have c19b1 : (t23010 != 0) = true := bne_iff_ne.mpr c19
              simp only [Option.some.injEq, Prod.mk.injEq] at H
              obtain ⟨rfl, rfl⟩ := H
              have p23008 : 0 ≤ (x8_2 : Int) := of_decide_eq_true (by assumption)
              have q23008 : x8_2 < (l0.length : Int) := of_decide_eq_true (by assumption)
              obtain ⟨ad23008, A23008_0, c23008_0, e23008, hx23008_0, hl23008_0, hi23008_0⟩ := at_L6 HR0.out x8_2 p23008 q23008
              obtain rfl : ad23003 = ad23008 := (by injection e23008)
              replace hx23008_0 := (HB.out.cell (World.block_lt_of_cell? w _ hx23008_0)).trans hx23008_0
              have HR23008_0 := Aside0.mk hi23008_0
              have HC23008_0 := Aside0.mk hl23008_0
              clear hi23008_0 hl23008_0
              replace p23008 := eq_true p23008
              replace q23008 := eq_true q23008
              obtain ⟨Ao22, co22, eo22⟩ := Kd.R_slice HO_6.out
              subst eo22
              go_wp2_with (first | ((with_reducible refine gate_callee (f := 42) rfl ?_); refine goesL_ (some 54) rfl rfl Try.func42 (by kernel_rfl) rfl #[.slice Ao22 x6_2.length co22, .slice A23008_0 (rd_L6 l0 x8_2).length c23008_0] rfl (by (try simp only [List.map_toArray, List.map_cons, List.map_nil]); first | done | rfl | (simp only [List.length_drop, List.length_take]; rfl)) ?_; (with_reducible refine (papermillref13_Compose.calls k2 _ _ x6_2 _ _ (rd_L6 l0 x8_2) t23009 t23010 _ ?side1 ?side2 ?side3 ?side4 A18.out).mono ?_); (case side1 => exact (Kd.R_reads' HO_6.out).2.2); (case side2 => exact (Kd.R_reads' HO_6.out).2.1); (case side3 => exact (Kd.C_below HR23008_0.out HB.out)); (case side4 => exact HC23008_0.out); rintro e w23 ⟨v23011, rfl, ho0, hb⟩; refine ⟨_, rfl, ?_⟩; have n0_ := Aside0.mk (Kd.R_elder' (HO_6.out) (Kd.R_base ho0) hb); have n1_ := Aside0.mk (Kd.R_lower (Kd.R_new' ho0 (Kd.R_lt (HO_6.out))) (below_size (by repeat (first | exact HB.out | apply below_alloc | apply pw_below_drewN | apply below_drew1)))); have n2_ := Aside0.mk (below_step (by repeat (first | exact HB.out | apply below_alloc | apply pw_below_drewN | apply below_drew1)) hb); clear HO_6; clear HB; have HO_6 := n0_; have HO23012 := n1_; have HB := n2_; clear n0_ n1_ n2_; (try clear hb); (try clear hb2); (try clear hk); (try clear hi); (try clear ho0)))
              go_ret2
              exact ⟨_, by first | rfl | (simp [errW_none, errW_some] <;> rfl) | (simp only [← hji10]; first | rfl | (simp [errW_none, errW_some] <;> rfl)) | (simp [*, errW_none, errW_some] <;> rfl), by first | exact Kd.R_nil _ _ _ _ _ | exact Kd.N_nil _ _ _ _ _ | exact Kd.V_nil _ _ _ _ _ | exact Kd.Q_nil _ _ _ _ _ | exact Kd.S_nil _ _ _ _ _, by repeat (first | exact HB.out | apply below_alloc | apply pw_below_drewN | apply below_drew1)⟩
            ·rw [if_neg c17] at H
             exact absurd H (by simp)
           ·rw [if_neg c16] at H
            exact absurd H (by simp)
          ·rw [if_neg c15] at H
           have c15b0 : decide (0 ≤ x8_2) = false := decide_eq_false c15
           clear c15
           simp only [Option.some.injEq, Prod.mk.injEq] at H
           obtain ⟨rfl, rfl⟩ := H
           go_wp2
           go_ret2
           exact ⟨_, by first | rfl | (simp [errW_none, errW_some] <;> rfl) | (simp only [← hji10]; first | rfl | (simp [errW_none, errW_some] <;> rfl)) | (simp [*, errW_none, errW_some] <;> rfl), by exact HO_6.out, by repeat (first | exact HB.out | apply below_alloc | apply pw_below_drewN | apply below_drew1)⟩
       ·rw [if_neg c12] at H
        exact absurd H (by simp)
      ·rw [if_neg c11] at H
       exact absurd H (by simp)

end Go.Proofs.Ytalpegglbfobiaa.G

namespace Go.Proofs.Ytalpegglbfobiaa.G
open Go.RowKit Go.Proofs.YtalpegglbfobiaaW.PrintWords Go.Proofs.YtalpegglbfobiaaW.PrintLast Go.Proofs.YtalpegglbfobiaaW.PrintMore
attribute [local go_sem] max2_int min2_int max_two min_two max_three min_three max_four min_four   -- for this text's walks alone
set_option linter.unusedVariables false
set_option linter.unusedSimpArgs false

def papermilllaw41_RewindAfters.f (k : Nat) (l0 : List (List (S44))) : Option (Bool) := (papermilllaw41_few.f k l0).bind fun t7001 => (if t7001 = true then ((rewind_After.f k l0).bind fun bt7003 => ((papermillref41_After.f k l0).bind fun bt7007 => ((papermillref41_Same.f k bt7003.1 bt7007.1).bind fun t7011 => (if t7011 = true then (if bt7003.2 = bt7007.2 then ((papermilllaw41_awake.f).bind fun t7012 => (some t7012)) else (some false)) else (some false))))) else ((papermilllaw41_awake.f).bind fun t7002 => (some t7002)))
set_option maxHeartbeats 8000000 in
set_option maxRecDepth 100000 in
theorem papermilllaw41_RewindAfters.calls (k : Nat) (A0 : Option Addr) (c0 : Nat) (l0 : List (List (S44))) (r : Bool) (w : World) (hr0 : Kd.C (Kd.slice 44 k44) w A0 l0.length l0) (hc0 : l0.length ≤ c0) (h : papermilllaw41_RewindAfters.f k l0 = some r) :
  Calls Try.prog 6 #[.slice A0 l0.length c0] w fun e w' => e = .returned (.bool r) ∧ Below w.heap.size w w' := by
 have HR0 := Aside0.mk hr0
 have HC0 := Aside0.mk hc0
 clear hr0 hc0
 have HB := Aside0.mk (Below.refl w.heap.size w)
 have H : ((papermilllaw41_few.f k l0).bind fun t7001 => (if t7001 = true then ((rewind_After.f k l0).bind fun bt7003 => ((papermillref41_After.f k l0).bind fun bt7007 => ((papermillref41_Same.f k bt7003.1 bt7007.1).bind fun t7011 => (if t7011 = true then (if bt7003.2 = bt7007.2 then ((papermilllaw41_awake.f).bind fun t7012 => (some t7012)) else (some false)) else (some false))))) else ((papermilllaw41_awake.f).bind fun t7002 => (some t7002)))) = some r := h
 clear h
 replace H := Option.bind_eq_some_iff.mp H
 obtain ⟨t7001, A20, H⟩ := H
 replace H : (if t7001 = true then ((rewind_After.f k l0).bind fun bt7003 => ((papermillref41_After.f k l0).bind fun bt7007 => ((papermillref41_Same.f k bt7003.1 bt7007.1).bind fun t7011 => (if t7011 = true then (if bt7003.2 = bt7007.2 then ((papermilllaw41_awake.f).bind fun t7012 => (some t7012)) else (some false)) else (some false))))) else ((papermilllaw41_awake.f).bind fun t7002 => (some t7002))) = some r := H
 have A2 := Aside0.mk A20
 clear A20
 by_cases c3 : t7001 = true
 ·subst c3
  have H1 : ((rewind_After.f k l0).bind fun bt7003 => ((papermillref41_After.f k l0).bind fun bt7007 => ((papermillref41_Same.f k bt7003.1 bt7007.1).bind fun t7011 => (if t7011 = true then (if bt7003.2 = bt7007.2 then ((papermilllaw41_awake.f).bind fun t7012 => (some t7012)) else (some false)) else (some false))))) = some r := by rw [if_pos rfl] at H; exact H
  clear H
  have H := H1
  clear H1
  replace H := Option.bind_eq_some_iff.mp H
  obtain ⟨⟨t7003, t7004⟩, A40, H⟩ := H
  replace H : ((papermillref41_After.f k l0).bind fun bt7007 => ((papermillref41_Same.f k t7003 bt7007.1).bind fun t7011 => (if t7011 = true then (if t7004 = bt7007.2 then ((papermilllaw41_awake.f).bind fun t7012 => (some t7012)) else (some false)) else (some false)))) = some r := H
  have A4 := Aside0.mk A40
  clear A40
  replace H := Option.bind_eq_some_iff.mp H
  obtain ⟨⟨t7007, t7008⟩, A50, H⟩ := H
  replace H : ((papermillref41_Same.f k t7003 t7007).bind fun t7011 => (if t7011 = true then (if t7004 = t7008 then ((papermilllaw41_awake.f).bind fun t7012 => (some t7012)) else (some false)) else (some false))) = some r := H
  have A5 := Aside0.mk A50
  clear A50
  replace H := Option.bind_eq_some_iff.mp H
  obtain ⟨t7011, A60, H⟩ := H
  replace H : (if t7011 = true then (if t7004 = t7008 then ((papermilllaw41_awake.f).bind fun t7012 => (some t7012)) else (some false)) else (some false)) = some r := H
  have A6 := Aside0.mk A60
  clear A60
  by_cases c7 : t7011 = true
  ·subst c7
   have H1 : (if t7004 = t7008 then ((papermilllaw41_awake.f).bind fun t7012 => (some t7012)) else (some false)) = some r := by rw [if_pos rfl] at H; exact H
   clear H
   have H := H1
   clear H1
   by_cases c8 : t7004 = t7008
   ·rw [if_pos c8] at H
    have c8b0 : (t7004 == t7008) = true := beq_iff_eq.mpr c8
    have c8b1 : (t7004 != t7008) = false := bne_eq_false_iff_eq.mpr c8
    clear c8
    replace H := Option.bind_eq_some_iff.mp H
    obtain ⟨t7012, A90, H⟩ := H
    replace H : (some t7012) = some r := H
    have A9 := Aside0.mk A90
    clear A90
    obtain rfl := Option.some.inj H
    go_enter Try.func6, Try.ntmps6
    go_wp2_with (first | ((with_reducible refine gate_callee (f := 20) rfl ?_); refine goesL_ (some 8) rfl rfl Try.func20 (by kernel_rfl) rfl #[.slice A0 l0.length c0] rfl (by (try simp only [List.map_toArray, List.map_cons, List.map_nil]); first | done | rfl | (simp only [List.length_drop, List.length_take]; rfl)) ?_; (with_reducible refine (papermilllaw41_few.calls k _ _ l0 true _ ?side1 ?side2 A2.out).mono ?_); (case side1 => repeat (first | exact HR0.out | (with_reducible refine Kd.C_alloc ?_ _) | (with_reducible refine Kd.C_drewN ?_ _) | (with_reducible refine Kd.C_drew ?_))); (case side2 => exact HC0.out); rintro e w' ⟨rfl, ⟨nd, rfl⟩⟩; refine ⟨_, rfl, ?_⟩) | ((with_reducible refine gate_callee (f := 21) rfl ?_); refine goesL_ (some 13) rfl rfl Try.func21 (by kernel_rfl) rfl #[.slice A0 l0.length c0] rfl (by (try simp only [List.map_toArray, List.map_cons, List.map_nil]); first | done | rfl | (simp only [List.length_drop, List.length_take]; rfl)) ?_; (with_reducible refine (rewind_After.calls k _ _ l0 t7003 t7004 _ ?side1 ?side2 A4.out).mono ?_); (case side1 => repeat (first | exact HR0.out | (with_reducible refine Kd.C_alloc ?_ _) | (with_reducible refine Kd.C_drewN ?_ _) | (with_reducible refine Kd.C_drew ?_))); (case side2 => exact HC0.out); rintro e w10 ⟨v7005, rfl, ho0, hb⟩; refine ⟨_, rfl, ?_⟩; have n0_ := Aside0.mk (Kd.R_lower ho0 (below_size (by repeat (first | exact HB.out | apply below_alloc | apply pw_below_drewN | apply below_drew1)))); have n1_ := Aside0.mk (below_step (by repeat (first | exact HB.out | apply below_alloc | apply pw_below_drewN | apply below_drew1)) hb); clear HB; have HO7006 := n0_; have HB := n1_; clear n0_ n1_; (try clear hb); (try clear hb2); (try clear hk); (try clear hi); (try clear ho0)) | ((with_reducible refine gate_callee (f := 22) rfl ?_); refine goesL_ (some 18) rfl rfl Try.func22 (by kernel_rfl) rfl #[.slice A0 l0.length c0] rfl (by (try simp only [List.map_toArray, List.map_cons, List.map_nil]); first | done | rfl | (simp only [List.length_drop, List.length_take]; rfl)) ?_; (with_reducible refine (papermillref41_After.calls k _ _ l0 t7007 t7008 _ ?side1 ?side2 A5.out).mono ?_); (case side1 => repeat (first | exact (Kd.C_below HR0.out HB.out) | (with_reducible refine Kd.C_alloc ?_ _) | (with_reducible refine Kd.C_drewN ?_ _) | (with_reducible refine Kd.C_drew ?_))); (case side2 => exact HC0.out); rintro e w11 ⟨v7009, rfl, ho0, hb⟩; refine ⟨_, rfl, ?_⟩; have n0_ := Aside0.mk (Kd.R_elder' (by (with_reducible repeat (first | apply Kd.R_alloc | apply Kd.R_drewN | apply Kd.R_drew)); exact HO7006.out) (Kd.R_base ho0) hb); have n1_ := Aside0.mk (Kd.R_lower (Kd.R_new' ho0 (Kd.R_lt (by (with_reducible repeat (first | apply Kd.R_alloc | apply Kd.R_drewN | apply Kd.R_drew)); exact HO7006.out))) (below_size (by repeat (first | exact HB.out | apply below_alloc | apply pw_below_drewN | apply below_drew1)))); have n2_ := Aside0.mk (below_step (by repeat (first | exact HB.out | apply below_alloc | apply pw_below_drewN | apply below_drew1)) hb); clear HO7006; clear HB; have HO7006 := n0_; have HO7010 := n1_; have HB := n2_; clear n0_ n1_ n2_; (try clear hb); (try clear hb2); (try clear hk); (try clear hi); (try clear ho0); obtain ⟨Ao12, co12, eo12⟩ := Kd.R_slice HO7006.out; subst eo12; obtain ⟨Ao13, co13, eo13⟩ := Kd.R_slice HO7010.out; subst eo13) | ((with_reducible refine gate_callee (f := 13) rfl ?_); refine goesL_ (some 23) rfl rfl Try.func13 (by kernel_rfl) rfl #[.slice Ao12 t7003.length co12, .slice Ao13 t7007.length co13] rfl (by (try simp only [List.map_toArray, List.map_cons, List.map_nil]); first | done | rfl | (simp only [List.length_drop, List.length_take]; rfl)) ?_; (with_reducible refine (papermillref41_Same.calls k _ _ t7003 _ _ t7007 true _ ?side1 ?side2 ?side3 ?side4 A6.out).mono ?_); (case side1 => repeat (first | exact (Kd.R_reads' HO7006.out).2.2 | (with_reducible refine Kd.C_alloc ?_ _) | (with_reducible refine Kd.C_drewN ?_ _) | (with_reducible refine Kd.C_drew ?_))); (case side2 => exact (Kd.R_reads' HO7006.out).2.1); (case side3 => repeat (first | exact (Kd.R_reads' HO7010.out).2.2 | (with_reducible refine Kd.C_alloc ?_ _) | (with_reducible refine Kd.C_drewN ?_ _) | (with_reducible refine Kd.C_drew ?_))); (case side4 => exact (Kd.R_reads' HO7010.out).2.1); rintro e w' ⟨rfl, ⟨nd, rfl⟩⟩; refine ⟨_, rfl, ?_⟩) | (go_at_call 14; (with_reducible refine (papermilllaw41_awake.calls  t7012 _ A9.out).mono ?_); rintro e w14 ⟨rfl, hb⟩; have n0_ := Aside0.mk (Kd.R_below (by (with_reducible repeat (first | apply Kd.R_alloc | apply Kd.R_drewN | apply Kd.R_drew)); exact HO7006.out) hb); have n1_ := Aside0.mk (Kd.R_below (by (with_reducible repeat (first | apply Kd.R_alloc | apply Kd.R_drewN | apply Kd.R_drew)); exact HO7010.out) hb); have n2_ := Aside0.mk (below_step (by repeat (first | exact HB.out | apply below_alloc | apply pw_below_drewN | apply below_drew1)) hb); clear HO7006; clear HO7010; clear HB; have HO7006 := n0_; have HO7010 := n1_; have HB := n2_; clear n0_ n1_ n2_; (try clear hb); (try clear hb2); (try clear hk); (try clear hi)))
    go_ret
    exact ⟨by first | rfl | (simp [errW_none, errW_some] <;> rfl) | (simp [*, errW_none, errW_some] <;> rfl), by repeat (first | exact HB.out | apply below_alloc | apply pw_below_drewN | apply below_drew1)⟩
   ·rw [if_neg c8] at H
    have c8b0 : (t7004 == t7008) = false := beq_eq_false_iff_ne.mpr c8
    have c8b1 : (t7004 != t7008) = true := bne_iff_ne.mpr c8
    obtain rfl := Option.some.inj H
    go_enter Try.func6, Try.ntmps6
    go_wp2_with (first | ((with_reducible refine gate_callee (f := 20) rfl ?_); refine goesL_ (some 8) rfl rfl Try.func20 (by kernel_rfl) rfl #[.slice A0 l0.length c0] rfl (by (try simp only [List.map_toArray, List.map_cons, List.map_nil]); first | done | rfl | (simp only [List.length_drop, List.length_take]; rfl)) ?_; (with_reducible refine (papermilllaw41_few.calls k _ _ l0 true _ ?side1 ?side2 A2.out).mono ?_); (case side1 => repeat (first | exact HR0.out | (with_reducible refine Kd.C_alloc ?_ _) | (with_reducible refine Kd.C_drewN ?_ _) | (with_reducible refine Kd.C_drew ?_))); (case side2 => exact HC0.out); rintro e w' ⟨rfl, ⟨nd, rfl⟩⟩; refine ⟨_, rfl, ?_⟩) | ((with_reducible refine gate_callee (f := 21) rfl ?_); refine goesL_ (some 13) rfl rfl Try.func21 (by kernel_rfl) rfl #[.slice A0 l0.length c0] rfl (by (try simp only [List.map_toArray, List.map_cons, List.map_nil]); first | done | rfl | (simp only [List.length_drop, List.length_take]; rfl)) ?_; (with_reducible refine (rewind_After.calls k _ _ l0 t7003 t7004 _ ?side1 ?side2 A4.out).mono ?_); (case side1 => repeat (first | exact HR0.out | (with_reducible refine Kd.C_alloc ?_ _) | (with_reducible refine Kd.C_drewN ?_ _) | (with_reducible refine Kd.C_drew ?_))); (case side2 => exact HC0.out); rintro e w15 ⟨v7005, rfl, ho0, hb⟩; refine ⟨_, rfl, ?_⟩; have n0_ := Aside0.mk (Kd.R_lower ho0 (below_size (by repeat (first | exact HB.out | apply below_alloc | apply pw_below_drewN | apply below_drew1)))); have n1_ := Aside0.mk (below_step (by repeat (first | exact HB.out | apply below_alloc | apply pw_below_drewN | apply below_drew1)) hb); clear HB; have HO7006 := n0_; have HB := n1_; clear n0_ n1_; (try clear hb); (try clear hb2); (try clear hk); (try clear hi); (try clear ho0)) | ((with_reducible refine gate_callee (f := 22) rfl ?_); refine goesL_ (some 18) rfl rfl Try.func22 (by kernel_rfl) rfl #[.slice A0 l0.length c0] rfl (by (try simp only [List.map_toArray, List.map_cons, List.map_nil]); first | done | rfl | (simp only [List.length_drop, List.length_take]; rfl)) ?_; (with_reducible refine (papermillref41_After.calls k _ _ l0 t7007 t7008 _ ?side1 ?side2 A5.out).mono ?_); (case side1 => repeat (first | exact (Kd.C_below HR0.out HB.out) | (with_reducible refine Kd.C_alloc ?_ _) | (with_reducible refine Kd.C_drewN ?_ _) | (with_reducible refine Kd.C_drew ?_))); (case side2 => exact HC0.out); rintro e w16 ⟨v7009, rfl, ho0, hb⟩; refine ⟨_, rfl, ?_⟩; have n0_ := Aside0.mk (Kd.R_elder' (by (with_reducible repeat (first | apply Kd.R_alloc | apply Kd.R_drewN | apply Kd.R_drew)); exact HO7006.out) (Kd.R_base ho0) hb); have n1_ := Aside0.mk (Kd.R_lower (Kd.R_new' ho0 (Kd.R_lt (by (with_reducible repeat (first | apply Kd.R_alloc | apply Kd.R_drewN | apply Kd.R_drew)); exact HO7006.out))) (below_size (by repeat (first | exact HB.out | apply below_alloc | apply pw_below_drewN | apply below_drew1)))); have n2_ := Aside0.mk (below_step (by repeat (first | exact HB.out | apply below_alloc | apply pw_below_drewN | apply below_drew1)) hb); clear HO7006; clear HB; have HO7006 := n0_; have HO7010 := n1_; have HB := n2_; clear n0_ n1_ n2_; (try clear hb); (try clear hb2); (try clear hk); (try clear hi); (try clear ho0); obtain ⟨Ao17, co17, eo17⟩ := Kd.R_slice HO7006.out; subst eo17; obtain ⟨Ao18, co18, eo18⟩ := Kd.R_slice HO7010.out; subst eo18) | ((with_reducible refine gate_callee (f := 13) rfl ?_); refine goesL_ (some 23) rfl rfl Try.func13 (by kernel_rfl) rfl #[.slice Ao17 t7003.length co17, .slice Ao18 t7007.length co18] rfl (by (try simp only [List.map_toArray, List.map_cons, List.map_nil]); first | done | rfl | (simp only [List.length_drop, List.length_take]; rfl)) ?_; (with_reducible refine (papermillref41_Same.calls k _ _ t7003 _ _ t7007 true _ ?side1 ?side2 ?side3 ?side4 A6.out).mono ?_); (case side1 => repeat (first | exact (Kd.R_reads' HO7006.out).2.2 | (with_reducible refine Kd.C_alloc ?_ _) | (with_reducible refine Kd.C_drewN ?_ _) | (with_reducible refine Kd.C_drew ?_))); (case side2 => exact (Kd.R_reads' HO7006.out).2.1); (case side3 => repeat (first | exact (Kd.R_reads' HO7010.out).2.2 | (with_reducible refine Kd.C_alloc ?_ _) | (with_reducible refine Kd.C_drewN ?_ _) | (with_reducible refine Kd.C_drew ?_))); (case side4 => exact (Kd.R_reads' HO7010.out).2.1); rintro e w' ⟨rfl, ⟨nd, rfl⟩⟩; refine ⟨_, rfl, ?_⟩))
    go_ret
    exact ⟨by first | rfl | (simp [errW_none, errW_some] <;> rfl) | (simp [*, errW_none, errW_some] <;> rfl), by repeat (first | exact HB.out | apply below_alloc | apply pw_below_drewN | apply below_drew1)⟩
  ·replace c7 := Bool.eq_false_iff.mpr c7
   subst c7
   have H1 : (some false) = some r := by rw [if_neg (show ¬ (false = true) by decide)] at H; first | exact H | simpa using H
   clear H
   have H := H1
   clear H1
   obtain rfl := Option.some.inj H
   go_enter Try.func6, Try.ntmps6
   go_wp2_with (first | ((with_reducible refine gate_callee (f := 20) rfl ?_); refine goesL_ (some 8) rfl rfl Try.func20 (by kernel_rfl) rfl #[.slice A0 l0.length c0] rfl (by (try simp only [List.map_toArray, List.map_cons, List.map_nil]); first | done | rfl | (simp only [List.length_drop, List.length_take]; rfl)) ?_; (with_reducible refine (papermilllaw41_few.calls k _ _ l0 true _ ?side1 ?side2 A2.out).mono ?_); (case side1 => repeat (first | exact HR0.out | (with_reducible refine Kd.C_alloc ?_ _) | (with_reducible refine Kd.C_drewN ?_ _) | (with_reducible refine Kd.C_drew ?_))); (case side2 => exact HC0.out); rintro e w' ⟨rfl, ⟨nd, rfl⟩⟩; refine ⟨_, rfl, ?_⟩) | ((with_reducible refine gate_callee (f := 21) rfl ?_); refine goesL_ (some 13) rfl rfl Try.func21 (by kernel_rfl) rfl #[.slice A0 l0.length c0] rfl (by (try simp only [List.map_toArray, List.map_cons, List.map_nil]); first | done | rfl | (simp only [List.length_drop, List.length_take]; rfl)) ?_; (with_reducible refine (rewind_After.calls k _ _ l0 t7003 t7004 _ ?side1 ?side2 A4.out).mono ?_); (case side1 => repeat (first | exact HR0.out | (with_reducible refine Kd.C_alloc ?_ _) | (with_reducible refine Kd.C_drewN ?_ _) | (with_reducible refine Kd.C_drew ?_))); (case side2 => exact HC0.out); rintro e w19 ⟨v7005, rfl, ho0, hb⟩; refine ⟨_, rfl, ?_⟩; have n0_ := Aside0.mk (Kd.R_lower ho0 (below_size (by repeat (first | exact HB.out | apply below_alloc | apply pw_below_drewN | apply below_drew1)))); have n1_ := Aside0.mk (below_step (by repeat (first | exact HB.out | apply below_alloc | apply pw_below_drewN | apply below_drew1)) hb); clear HB; have HO7006 := n0_; have HB := n1_; clear n0_ n1_; (try clear hb); (try clear hb2); (try clear hk); (try clear hi); (try clear ho0)) | ((with_reducible refine gate_callee (f := 22) rfl ?_); refine goesL_ (some 18) rfl rfl Try.func22 (by kernel_rfl) rfl #[.slice A0 l0.length c0] rfl (by (try simp only [List.map_toArray, List.map_cons, List.map_nil]); first | done | rfl | (simp only [List.length_drop, List.length_take]; rfl)) ?_; (with_reducible refine (papermillref41_After.calls k _ _ l0 t7007 t7008 _ ?side1 ?side2 A5.out).mono ?_); (case side1 => repeat (first | exact (Kd.C_below HR0.out HB.out) | (with_reducible refine Kd.C_alloc ?_ _) | (with_reducible refine Kd.C_drewN ?_ _) | (with_reducible refine Kd.C_drew ?_))); (case side2 => exact HC0.out); rintro e w20 ⟨v7009, rfl, ho0, hb⟩; refine ⟨_, rfl, ?_⟩; have n0_ := Aside0.mk (Kd.R_elder' (by (with_reducible repeat (first | apply Kd.R_alloc | apply Kd.R_drewN | apply Kd.R_drew)); exact HO7006.out) (Kd.R_base ho0) hb); have n1_ := Aside0.mk (Kd.R_lower (Kd.R_new' ho0 (Kd.R_lt (by (with_reducible repeat (first | apply Kd.R_alloc | apply Kd.R_drewN | apply Kd.R_drew)); exact HO7006.out))) (below_size (by repeat (first | exact HB.out | apply below_alloc | apply pw_below_drewN | apply below_drew1)))); have n2_ := Aside0.mk (below_step (by repeat (first | exact HB.out | apply below_alloc | apply pw_below_drewN | apply below_drew1)) hb); clear HO7006; clear HB; have HO7006 := n0_; have HO7010 := n1_; have HB := n2_; clear n0_ n1_ n2_; (try clear hb); (try clear hb2); (try clear hk); (try clear hi); (try clear ho0); obtain ⟨Ao21, co21, eo21⟩ := Kd.R_slice HO7006.out; subst eo21; obtain ⟨Ao22, co22, eo22⟩ := Kd.R_slice HO7010.out; subst eo22) | ((with_reducible refine gate_callee (f := 13) rfl ?_); refine goesL_ (some 23) rfl rfl Try.func13 (by kernel_rfl) rfl #[.slice Ao21 t7003.length co21, .slice Ao22 t7007.length co22] rfl (by (try simp only [List.map_toArray, List.map_cons, List.map_nil]); first | done | rfl | (simp only [List.length_drop, List.length_take]; rfl)) ?_; (with_reducible refine (papermillref41_Same.calls k _ _ t7003 _ _ t7007 false _ ?side1 ?side2 ?side3 ?side4 A6.out).mono ?_); (case side1 => repeat (first | exact (Kd.R_reads' HO7006.out).2.2 | (with_reducible refine Kd.C_alloc ?_ _) | (with_reducible refine Kd.C_drewN ?_ _) | (with_reducible refine Kd.C_drew ?_))); (case side2 => exact (Kd.R_reads' HO7006.out).2.1); (case side3 => repeat (first | exact (Kd.R_reads' HO7010.out).2.2 | (with_reducible refine Kd.C_alloc ?_ _) | (with_reducible refine Kd.C_drewN ?_ _) | (with_reducible refine Kd.C_drew ?_))); (case side4 => exact (Kd.R_reads' HO7010.out).2.1); rintro e w' ⟨rfl, ⟨nd, rfl⟩⟩; refine ⟨_, rfl, ?_⟩))
   go_ret
   exact ⟨by first | rfl | (simp [errW_none, errW_some] <;> rfl) | (simp [*, errW_none, errW_some] <;> rfl), by repeat (first | exact HB.out | apply below_alloc | apply pw_below_drewN | apply below_drew1)⟩
 ·replace c3 := Bool.eq_false_iff.mpr c3
  subst c3
  have H1 : ((papermilllaw41_awake.f).bind fun t7002 => (some t7002)) = some r := by rw [if_neg (show ¬ (false = true) by decide)] at H; first | exact H | simpa using H
  clear H
  have H := H1
  clear H1
  replace H := Option.bind_eq_some_iff.mp H
  obtain ⟨t7002, A230, H⟩ := H
  replace H : (some t7002) = some r := H
  have A23 := Aside0.mk A230
  clear A230
  obtain rfl := Option.some.inj H
  go_enter Try.func6, Try.ntmps6
  go_wp2_with (first | ((with_reducible refine gate_callee (f := 20) rfl ?_); refine goesL_ (some 8) rfl rfl Try.func20 (by kernel_rfl) rfl #[.slice A0 l0.length c0] rfl (by (try simp only [List.map_toArray, List.map_cons, List.map_nil]); first | done | rfl | (simp only [List.length_drop, List.length_take]; rfl)) ?_; (with_reducible refine (papermilllaw41_few.calls k _ _ l0 false _ ?side1 ?side2 A2.out).mono ?_); (case side1 => repeat (first | exact HR0.out | (with_reducible refine Kd.C_alloc ?_ _) | (with_reducible refine Kd.C_drewN ?_ _) | (with_reducible refine Kd.C_drew ?_))); (case side2 => exact HC0.out); rintro e w' ⟨rfl, ⟨nd, rfl⟩⟩; refine ⟨_, rfl, ?_⟩) | ((with_reducible refine gate_callee (f := 14) rfl ?_); refine goesL_ (some 10) rfl rfl Try.func14 (by kernel_rfl) rfl #[] rfl (by (try simp only [List.map_toArray, List.map_cons, List.map_nil]); first | done | rfl | (simp only [List.length_drop, List.length_take]; rfl)) ?_; (with_reducible refine (papermilllaw41_awake.calls  t7002 _ A23.out).mono ?_); rintro e w24 ⟨rfl, hb⟩; refine ⟨_, rfl, ?_⟩; have n0_ := Aside0.mk (below_step (by repeat (first | exact HB.out | apply below_alloc | apply pw_below_drewN | apply below_drew1)) hb); clear HB; have HB := n0_; clear n0_; (try clear hb); (try clear hb2); (try clear hk); (try clear hi)))
  go_ret
  exact ⟨by first | rfl | (simp [errW_none, errW_some] <;> rfl) | (simp [*, errW_none, errW_some] <;> rfl), by repeat (first | exact HB.out | apply below_alloc | apply pw_below_drewN | apply below_drew1)⟩

end Go.Proofs.Ytalpegglbfobiaa.G

namespace Go.Proofs.Ytalpegglbfobiaa.G
open Go.RowKit Go.Proofs.YtalpegglbfobiaaW.PrintWords Go.Proofs.YtalpegglbfobiaaW.PrintLast Go.Proofs.YtalpegglbfobiaaW.PrintMore
open Go.ChangeShapes Go.WideShapes Go.Deep
set_option linter.unusedVariables false
set_option linter.unusedSimpArgs false
theorem cells1_3 : Try.prog.cellsOf 3 = 1 := by kernel_rfl
def wf_44 (s : S44) : Prop := (Lit.int .i64 s.f0).wf = true ∧ (Lit.int .i64 s.f1).wf = true ∧ True
theorem cells_44 : Try.prog.cellsOf 44 = 3 := by kernel_rfl
theorem cells1_4 : Try.prog.cellsOf 4 = 1 := by kernel_rfl
set_option maxRecDepth 100000 in
theorem opens_44 : Opens Try.prog k44 44 wf_44 := by
 intro H enc W fuel cs x h
 obtain ⟨xs, n, rfl, rfl, hlen, hxl, hf⟩ := DataW.trod_struct Try.underlying44 h
 rw [cells_44] at hlen
 match cs, hlen with
 | [c0, c1, c2], _ =>
  match xs, hxl with
  | [y0, y1, y2], _ =>
   have e0 : DataW.trod enc Try.prog W 0 (fun _ => true) true n 3 (([c0, c1, c2].drop 0).take (Try.prog.cellsOf 3)) = some y0 := hf 0 _ rfl
   rw [cells1_3] at e0
   have e1 : DataW.trod enc Try.prog W 0 (fun _ => true) true n 3 (([c0, c1, c2].drop 1).take (Try.prog.cellsOf 3)) = some y1 := hf 1 _ rfl
   rw [cells1_3] at e1
   have e2 : DataW.trod enc Try.prog W 0 (fun _ => true) true n 4 (([c0, c1, c2].drop 2).take (Try.prog.cellsOf 4)) = some y2 := hf 2 _ rfl
   rw [cells1_4] at e2
   obtain ⟨v0, q0, w0⟩ := (Opens.int Try.underlying3) enc W n [c0] y0 e0
   cases q0
   obtain ⟨v1, q1, w1⟩ := (Opens.int Try.underlying3) enc W n [c1] y1 e1
   cases q1
   obtain ⟨v2, q2, w2⟩ := (Opens.bool Try.underlying4) enc W n [c2] y2 e2
   cases q2
   exact ⟨⟨v0, v1, v2⟩, k44_mk _ _, w0, w1, w2⟩
end Go.Proofs.Ytalpegglbfobiaa.G

namespace Go.Proofs.Ytalpegglbfobiaa.G
open Go.RowKit Go.Proofs.YtalpegglbfobiaaW.PrintWords Go.Proofs.YtalpegglbfobiaaW.PrintLast Go.Proofs.YtalpegglbfobiaaW.PrintMore
set_option linter.unusedVariables false
set_option linter.unusedSimpArgs false
def lowT (t : S44) : Prop := (-1099511627776 ≤ t.f0 ∧ t.f0 ≤ 1099511627776) ∧ 1 ≤ t.f1 ∧ t.f1 ≤ 1125899906842623
theorem rcut_is (r : S44) (x n : Int) (h : nearR r) (h0 : -1099511627776 ≤ x) (h1 : x ≤ 1099511627776) : papermillref13_cut.f r.f0 r.f1 r.f2 x n = some ((partR r x n).f0, (partR r x n).f1, (partR r x n).f2) := part_is r x n h h0 h1
theorem rmore_j1 (k0 : Unit) (l : List S44) (m : Int) (s : Int) (r t : S44) (hn : nearR r) (hl : l.length ≤ 20000000000) : Ends (fun k => papermillref13_more.j1 k l m s true r.f0 r.f1 r.f2 t.f0 t.f1 t.f2) (l ++ [partR r 0 r.f1]) := by
 refine Ends.succ ?_
 simp only [papermillref13_more.j1]
 exact Ends.pos (by simp) (Ends.bind (Ends.const (rcut_is r 0 r.f1 hn (by omega) (by omega))) (Ends.pos (by omega) (Ends.ret _)))
theorem joins_z1 {r t : S44} (h : goes r t = 1) : (if t.f1 > 1 then (t.f2 != (goes r t == -1)) else false) = !decide (joins r t) := by
 have hj : joins r t ↔ (t.f1 > 1 → t.f2 = false) := by
  constructor
  ·intro k h2; have := k.2 h2; rw [← this]; simp [h]
  ·intro k; exact ⟨.inl h, fun h2 => by rw [k h2]; simp [h]⟩
 rw [show (goes r t == -1) = false by rw [h]; rfl]
 by_cases h2 : t.f1 > 1
 ·rw [if_pos h2]
  cases hb : t.f2 with
  | false => rw [decide_eq_true (hj.mpr (fun _ => hb))]; rfl
  | true => rw [decide_eq_false (fun k => by have := hj.mp k h2; rw [hb] at this; cases this)]; rfl
 ·rw [if_neg h2, decide_eq_true (hj.mpr (fun k => absurd k h2))]; rfl
theorem joins_zm {r t : S44} (h : goes r t = -1) : (if t.f1 > 1 then (t.f2 != (goes r t == -1)) else false) = !decide (joins r t) := by
 have hj : joins r t ↔ (t.f1 > 1 → t.f2 = true) := by
  constructor
  ·intro k h2; have := k.2 h2; rw [← this]; simp [h]
  ·intro k; exact ⟨.inr h, fun h2 => by rw [k h2]; simp [h]⟩
 rw [show (goes r t == -1) = true by rw [h]; rfl]
 by_cases h2 : t.f1 > 1
 ·rw [if_pos h2]
  cases hb : t.f2 with
  | true => rw [decide_eq_true (hj.mpr (fun _ => hb))]; rfl
  | false => rw [decide_eq_false (fun k => by have := hj.mp k h2; rw [hb] at this; cases this)]; rfl
 ·rw [if_neg h2, decide_eq_true (hj.mpr (fun k => absurd k h2))]; rfl
theorem rmore_last (d : List S44) (t r : S44) (hl : (d ++ [t]).length ≤ 20000000000) (ht : lowT t) (hn : nearR r) (h1 : 1 ≤ r.f1) (q : List S44)
  (hj1 : ∀ z : Bool, z = !decide (joins r t) → Ends (fun k => papermillref13_more.j1 k (d ++ [t]) (d.length : Int) (goes r t) z r.f0 r.f1 r.f2 t.f0 t.f1 t.f2) q) : Ends (fun k => papermillref13_more.l0 k (d ++ [t]) r.f0 r.f1 r.f2) q := by
 refine Ends.succ ?_
 have hlen : (d ++ [t]).length = d.length + 1 := by simp
 have hw : wrap64 (((d ++ [t]).length : Int) - 1) = (d.length : Int) := by unfold wrap64; omega
 have hrd : rd_T44 (d ++ [t]) (d.length : Int) = t := by simp [rd_T44]
 have hlo := ht.1
 have hlo2 := ht.2
 have hnn := hn.1
 have hnn2 := hn.2.1
 have ew : wrap64 (t.f1 - 1) = t.f1 - 1 := by unfold wrap64; omega
 have eg : wrap64 (r.f0 - img t (t.f1 - 1)) = goes r t := by
  unfold wrap64 goes img
  split <;> omega
 have ei : papermillref13_image.f t.f0 t.f1 t.f2 (t.f1 - 1) = some (img t (t.f1 - 1)) := image_far t (t.f1 - 1) ⟨hlo, hlo2.1, by omega⟩ (by omega) (by omega)
 simp only [papermillref13_more.l0, hw, hrd, ew, ei, Option.bind_some, eg]
 refine Ends.pos (by omega) (Ends.neg (by omega) (Ends.pos (by omega) (Ends.pos (by omega) ?_)))
 by_cases e1 : goes r t = 1
 ·refine Ends.pos e1 ?_
  have hz := joins_z1 e1
  by_cases e2 : t.f1 > 1
  ·rw [if_pos e2] at hz; exact Ends.pos e2 (hj1 _ hz)
  ·rw [if_neg e2] at hz; exact Ends.neg e2 (hj1 _ hz)
 ·refine Ends.neg e1 ?_
  by_cases e3 : goes r t = -1
  ·refine Ends.pos e3 ?_
   have hz := joins_zm e3
   by_cases e2 : t.f1 > 1
   ·rw [if_pos e2] at hz; exact Ends.pos e2 (hj1 _ hz)
   ·rw [if_neg e2] at hz; exact Ends.neg e2 (hj1 _ hz)
  ·exact Ends.neg e3 (hj1 _ (by rw [decide_eq_false (fun k => by rcases k.1 with h | h; exact e1 h; exact e3 h)]; rfl))
theorem rmore_new (d : List S44) (t r : S44) (hl : (d ++ [t]).length ≤ 20000000000) (ht : lowT t) (hn : nearR r) (h1 : 1 ≤ r.f1) (hj : ¬ joins r t) : Ends (fun k => papermillref13_more.l0 k (d ++ [t]) r.f0 r.f1 r.f2) (d ++ [t] ++ [partR r 0 r.f1]) :=
 rmore_last d t r hl ht hn h1 _ (fun z hz => by
  have : z = true := by rw [hz]; simpa using hj
  rw [this]
  exact rmore_j1 () (d ++ [t]) _ _ r t hn hl)
theorem rmore_l0 (l : List S44) (r : S44) (hr : sane r) (hl : l.length ≤ 19999999990) (hlow : ∀ t ∈ l, lowT t ∧ t.f1 ≤ 1125899906842622) : Ends (fun k => papermillref13_more.l0 k l r.f0 r.f1 r.f2) (addOf l r) := by
 by_cases h0 : r.f1 < 1
 ·refine Ends.succ ?_
  simp only [papermillref13_more.l0]
  rw [addOf, if_pos h0]
  exact Ends.neg (by omega) (Ends.ret _)
 have h1 : 1 ≤ r.f1 := by omega
 rcases List.eq_nil_or_concat l with rfl | ⟨d, t, rfl⟩
 ·refine Ends.succ ?_
  simp only [papermillref13_more.l0]
  rw [addOf, if_neg h0]
  exact Ends.pos (by omega) (Ends.pos (by simp only [List.length_nil]; unfold wrap64; omega) (Ends.bind (Ends.const (rcut_is r 0 r.f1 hr.near (by omega) (by omega))) (Ends.pos (by simp) (Ends.ret _))))
 ·rw [List.concat_eq_append] at *
  obtain ⟨ht, ht9⟩ := hlow t (by simp)
  have hset : ∀ x, (d ++ [t]).set (d.length : Int).toNat x = d ++ [x] := fun x => by simp
  by_cases hj : joins r t
  ·have hadd : addOf (d ++ [t]) r = if r.f1 > 1 ∧ r.f2 ≠ decide (goes r t = -1) then d ++ [⟨t.f0, t.f1 + 1, decide (goes r t = -1)⟩] ++ [partR r 1 (r.f1 - 1)] else d ++ [⟨t.f0, t.f1 + r.f1, decide (goes r t = -1)⟩] := by
    rw [addOf, if_neg h0]
    simp only [List.reverse_append, List.reverse_cons, List.reverse_nil, List.nil_append, List.singleton_append, addR, if_pos hj]
    split <;> simp
   refine rmore_last d t r (by omega) ht hr.near h1 _ (fun z hz => ?_)
   have : z = false := by rw [hz]; simpa using hj
   rw [this]
   have hlo2 := ht.2
   have hs3 := hr.2.2
   have e1 : wrap64 (t.f1 + 1) = t.f1 + 1 := by unfold wrap64; omega
   have e2 : wrap64 (t.f1 + r.f1) = t.f1 + r.f1 := by unfold wrap64; omega
   have e3 : wrap64 (r.f1 - 1) = r.f1 - 1 := by unfold wrap64; omega
   have eb : (goes r t == -1) = decide (goes r t = -1) := rfl
   have hlen : (d ++ [t]).length = d.length + 1 := by simp
   have j2f : ¬ (r.f1 > 1 ∧ r.f2 ≠ decide (goes r t = -1)) → Ends (fun k => papermillref13_more.j2 k (d ++ [t]) (d.length : Int) (goes r t) r.f1 false r.f0 r.f1 r.f2 t.f0 t.f1 t.f2) (addOf (d ++ [t]) r) := fun hc => by
    refine Ends.succ ?_
    simp only [papermillref13_more.j2, Option.bind_some, hset, e2, eb]
    rw [hadd, if_neg hc]
    exact Ends.neg (by simp) (Ends.pos (by omega) (Ends.pos (by omega) (Ends.pos (by simp) (Ends.ret _))))
   refine Ends.succ ?_
   simp only [papermillref13_more.j1]
   refine Ends.neg (by simp) ?_
   by_cases h2 : r.f1 > 1
   ·refine Ends.pos h2 ?_
    by_cases hf : r.f2 = decide (goes r t = -1)
    ·have hb : (r.f2 != (goes r t == -1)) = false := by rw [eb, ← hf]; simp
     rw [hb]
     exact j2f (fun k => k.2 hf)
    ·have hb : (r.f2 != (goes r t == -1)) = true := by rw [eb]; simpa using hf
     rw [hb]
     refine Ends.succ ?_
     simp only [papermillref13_more.j2, Option.bind_some, hset, e1, e3, eb]
     have hp := rcut_is r 1 (r.f1 - 1) hr.near (by omega) (by omega)
     refine Ends.pos (by simp) (Ends.pos (by omega) (Ends.pos (by omega) (Ends.neg (by omega) (Ends.bind (Ends.const hp) ?_))))
     rw [hadd, if_pos ⟨h2, hf⟩]
     exact (rmore_new d ⟨t.f0, t.f1 + 1, decide (goes r t = -1)⟩ (partR r 1 (r.f1 - 1)) (by simp at hl ⊢; omega) ⟨ht.1, by dsimp only; omega, by dsimp only; omega⟩ (hr.part (by omega) (by omega) (by omega)) (by simp only [partR]; omega) (not_joins r t ht.2.1 hj hf _)).congr (by rw [show (partR r 1 (r.f1 - 1)).f1 = r.f1 - 1 from rfl, partR_part])
   ·exact Ends.neg h2 (j2f (fun k => h2 k.1))
  ·have hadd : addOf (d ++ [t]) r = d ++ [t] ++ [partR r 0 r.f1] := by
    rw [addOf, if_neg h0]
    simp only [List.reverse_append, List.reverse_cons, List.reverse_nil, List.nil_append, List.singleton_append, addR, if_neg hj]
    simp
   rw [hadd]
   exact rmore_new d t r (by omega) ht hr.near h1 hj
theorem rmore_ends (l : List S44) (r : S44) (hr : sane r) (hl : l.length ≤ 19999999990) (hlow : ∀ t ∈ l, lowT t ∧ t.f1 ≤ 1125899906842622) : Ends (fun k => papermillref13_more.f k l r.f0 r.f1 r.f2) (addOf l r) := by
 unfold papermillref13_more.f
 simp only [Option.bind_some, List.nil_append]
 exact Ends.pos (by simp; omega) (rmore_l0 l r hr hl hlow)
end Go.Proofs.Ytalpegglbfobiaa.G

namespace Go.Proofs.Ytalpegglbfobiaa.G
open Go.RowKit Go.Proofs.YtalpegglbfobiaaW.PrintWords Go.Proofs.YtalpegglbfobiaaW.PrintLast Go.Proofs.YtalpegglbfobiaaW.PrintMore
set_option linter.unusedVariables false
set_option linter.unusedSimpArgs false
theorem addOf_nrm (xs : List Int) (p : S44) (h : 1 ≤ p.f1) : addOf (nrm xs) p = nrm (xs ++ imgs p) := by
 unfold nrm
 rw [List.foldl_append, ← addR_fold p h _ (fold_ok xs [] (by simp))]
 rw [addOf, if_neg (by omega), List.reverse_reverse]
theorem nrm_short (xs : List Int) : (nrm xs).length ≤ xs.length := by
 have key : ∀ (xs : List Int) (l : List S44), (xs.foldl one l).length ≤ l.length + xs.length := by
  intro xs
  induction xs with
  | nil => intro l; simp
  | cons x xs ih => intro l; have := ih (one l x); have := addR_len ⟨x, 1, false⟩ l; simp only [List.foldl_cons, List.length_cons]; unfold one at *; omega
 have := key xs []
 unfold nrm
 simpa using this
theorem nrm_low (xs : List Int) (hf : fitX xs) (hl : xs.length ≤ 17179869184) : ∀ t ∈ nrm xs, lowT t ∧ t.f1 ≤ 1125899906842622 := by
 intro t ht
 have h1 := (nrm_ok xs t ht).1
 have m0 := mem_sem ht 0 (by omega)
 have hlen := len_sem_mem ht
 rw [sem_nrm] at m0 hlen
 have b0 := hf _ m0
 have e0 : img t ((0 : Nat) : Int) = t.f0 := by unfold img; split <;> simp
 rw [e0] at b0
 unfold lowT
 omega
theorem rmore_nrm (xs : List Int) (hf : fitX xs) (r : S44) (h1 : 1 ≤ r.f1) (hr : sane r) (hl : xs.length ≤ 17179869184) : Ends (fun k => papermillref13_more.f k (nrm xs) r.f0 r.f1 r.f2) (nrm (xs ++ imgs r)) :=
 (rmore_ends (nrm xs) r hr (by have := nrm_short xs; omega) (nrm_low xs hf hl)).congr (addOf_nrm xs r h1)
end Go.Proofs.Ytalpegglbfobiaa.G

namespace Go.Proofs.Ytalpegglbfobiaa.G
open Go.RowKit Go.Proofs.YtalpegglbfobiaaW.PrintWords Go.Proofs.YtalpegglbfobiaaW.PrintLast Go.Proofs.YtalpegglbfobiaaW.PrintMore
set_option linter.unusedVariables false
set_option linter.unusedSimpArgs false
theorem rgood_ends (r : S44) : Ends (fun k => papermillref13_good.f k r.f0 r.f1 r.f2) (decide (¬ badR r)) := by
 have key : ∀ z : Bool, z = decide (r.f1 < 1 ∨ r.f1 > 17179869184 ∨ r.f0 < 0 ∨ r.f0 ≥ 17179869184) → Ends (fun k => papermillref13_good.j0 k z r.f0 r.f1 r.f2) (decide (¬ badR r)) := fun z hz => by
  refine Ends.succ ?_
  simp only [papermillref13_good.j0]
  by_cases hb : r.f1 < 1 ∨ r.f1 > 17179869184 ∨ r.f0 < 0 ∨ r.f0 ≥ 17179869184
  ·exact Ends.pos (by rw [hz]; simpa using hb) ((Ends.ret false).congr (by symm; rw [decide_eq_false_iff_not, Classical.not_not]; unfold badR; omega))
  ·refine Ends.neg (by rw [hz]; simpa using hb) ?_
   cases hf : r.f2 with
   | true =>
    have ew : wrap64 (wrap64 (r.f0 - r.f1) + 1) = r.f0 - r.f1 + 1 := by
     have : wrap64 (r.f0 - r.f1) = r.f0 - r.f1 := by unfold wrap64; omega
     rw [this]; unfold wrap64; omega
    refine Ends.pos rfl ((Ends.ret _).congr ?_)
    rw [ew]
    unfold badR
    rw [decide_eq_decide]
    simp [hf]
    omega
   | false =>
    have ew : wrap64 (r.f0 + r.f1) = r.f0 + r.f1 := by unfold wrap64; omega
    refine Ends.neg (by simp) ((Ends.ret _).congr ?_)
    rw [ew]
    unfold badR
    rw [decide_eq_decide]
    simp [hf]
    omega
 unfold papermillref13_good.f
 by_cases c1 : r.f1 < 1
 ·exact Ends.pos c1 (key true (by simp [c1]))
 ·refine Ends.neg c1 ?_
  by_cases c2 : r.f1 > 17179869184
  ·exact Ends.pos c2 (key true (by simp [c2]))
  ·refine Ends.neg c2 ?_
   by_cases c3 : r.f0 < 0
   ·exact Ends.pos c3 (key true (by simp [c3]))
   ·exact Ends.neg c3 (key _ (by simp [c1, c2, c3]))
theorem rlength_l0 (l : List S44) (hl : l.length ≤ 65536) (hv : ∀ r ∈ l, 0 ≤ r.f1 ∧ r.f1 ≤ 17179869184) : ∀ (d i : Nat) (n : Int), l.length - i = d → i ≤ l.length → 0 ≤ n → n ≤ i * 17179869184 → Ends (fun k => papermillref13_length.l0 k l n (i : Int)) (n + tot13 (l.drop i)) := by
 intro d
 induction d with
 | zero =>
  intro i n hd hi h0 h1
  refine Ends.succ ?_
  simp only [papermillref13_length.l0]
  rw [List.drop_of_length_le (by omega)]
  exact Ends.neg (by omega) ((Ends.ret _).congr (by simp [tot13]))
 | succ d ih =>
  intro i n hd hi h0 h1
  refine Ends.succ ?_
  have hx := hv (rd_T44 l (i : Int)) (by rw [rdR l i (by omega)]; exact List.getElem_mem _)
  rw [dropR l i (by omega), tot13_cons]
  simp only [papermillref13_length.l0, wrap_nat i (by omega)]
  generalize rd_T44 l (i : Int) = r at *
  have ew : wrap64 (n + r.f1) = n + r.f1 := by unfold wrap64; omega
  rw [ew]
  exact Ends.pos (by omega) (Ends.pos (by omega) ((ih (i + 1) (n + r.f1) (by omega) (by omega) (by omega) (by omega)).congr (by rw [Int.add_assoc])))
theorem rlength_ends (l : List S44) (hl : l.length ≤ 65536) (hv : ∀ r ∈ l, 0 ≤ r.f1 ∧ r.f1 ≤ 17179869184) : Ends (fun k => papermillref13_length.f k l) (tot13 l) := by
 unfold papermillref13_length.f
 exact (rlength_l0 l hl hv _ 0 0 rfl (by omega) (by omega) (by omega)).congr (by simp)
theorem rcheck_l0 (l : List S44) (hl : l.length ≤ 256) : ∀ (d i : Nat), l.length - i = d → i ≤ l.length → anyBad (l.take i) = false → Ends (fun k => papermillref13_Check.l0 k l (i : Int)) (if anyBad l = true then 1 else if tot13 l > 17179869184 then 21 else 0) := by
 intro d
 induction d with
 | zero =>
  intro i hd hi hn
  refine Ends.succ ?_
  simp only [papermillref13_Check.l0]
  rw [List.take_of_length_le (by omega)] at hn
  have hg : ∀ r ∈ l, ¬ badR r := fun r hr hb => by
   have : anyBad l = true := List.any_eq_true.mpr ⟨r, hr, by simpa using hb⟩
   rw [hn] at this; cases this
  refine Ends.neg (by omega) (Ends.bind (rlength_ends l (by omega) (fun r hr => by have := fit_of (hg r hr); unfold fitR at this; omega)) ?_)
  by_cases h : tot13 l > 17179869184
  ·exact Ends.pos h ((Ends.ret 21).congr (by rw [hn, if_neg (by simp), if_pos h]))
  ·exact Ends.neg h ((Ends.ret 0).congr (by rw [hn, if_neg (by simp), if_neg h]))
 | succ d ih =>
  intro i hd hi hn
  refine Ends.succ ?_
  simp only [papermillref13_Check.l0, wrap_nat i (by omega)]
  have hmem : rd_T44 l (i : Int) ∈ l := by rw [rdR l i (by omega)]; exact List.getElem_mem _
  have htk : l.take (i + 1) = l.take i ++ [rd_T44 l (i : Int)] := by rw [List.take_succ_eq_append_getElem (by omega : i < l.length), rdR l i (by omega)]
  generalize rd_T44 l (i : Int) = r at *
  refine Ends.pos (by omega) (Ends.pos (by omega) (Ends.bind (rgood_ends r) ?_))
  by_cases hb : badR r
  ·have : anyBad l = true := List.any_eq_true.mpr ⟨r, hmem, by simpa using hb⟩
   rw [if_pos this]
   exact Ends.neg (by simpa using hb) (Ends.ret _)
  ·exact Ends.pos (by simpa using hb) (ih (i + 1) (by omega) (by omega) (by rw [htk]; simp only [anyBad, List.any_append] at hn ⊢; rw [hn]; simpa using hb))
theorem rcheck_ends (l : List S44) : Ends (fun k => papermillref13_Check.f k l) (check13 l) := by
 unfold papermillref13_Check.f check13
 by_cases h : l.length > 256
 ·rw [if_pos h]; exact Ends.pos (by omega) (Ends.ret _)
 ·rw [if_neg h]
  exact Ends.neg (by omega) (rcheck_l0 l (by omega) _ 0 rfl (by omega) (by simp [anyBad]))
end Go.Proofs.Ytalpegglbfobiaa.G

namespace Go.Proofs.Ytalpegglbfobiaa.G
open Go.RowKit Go.Proofs.YtalpegglbfobiaaW.PrintWords Go.Proofs.YtalpegglbfobiaaW.PrintLast Go.Proofs.YtalpegglbfobiaaW.PrintMore
set_option linter.unusedVariables false
set_option linter.unusedSimpArgs false
theorem fit_imgs {r : S44} (h : ¬ badR r) : fitX (imgs r) := by
 have e : sem [r] = imgs r := by simp [sem]
 rw [← e]
 exact sem_fit (fun x hx => by rw [List.mem_singleton.mp hx]; exact h)
theorem fit_join {xs ys : List Int} (h : fitX xs) (k : fitX ys) : fitX (xs ++ ys) := by
 intro x hx
 rcases List.mem_append.mp hx with hx | hx
 ·exact h x hx
 ·exact k x hx
theorem tot_pos {l : List S44} (hg : ∀ r ∈ l, ¬ badR r) : 0 ≤ tot13 l := by
 rw [← sem_len l (fun x hx => by have := fit_of (hg x hx); unfold fitR at this; omega)]
 omega
theorem rall_l0 (l : List S44) (hl : l.length ≤ 1000000) (hg : ∀ r ∈ l, ¬ badR r) : ∀ (d i : Nat) (xs : List Int), l.length - i = d → i ≤ l.length → fitX xs → xs.length + tot13 (l.drop i) ≤ 17179869184 → Ends (fun k => papermillref13_all.l0 k l (nrm xs) (i : Int)) (nrm (xs ++ sem (l.drop i))) := by
 intro d
 induction d with
 | zero =>
  intro i xs hd hi hf ht
  refine Ends.succ ?_
  simp only [papermillref13_all.l0]
  rw [List.drop_of_length_le (by omega), sem_nil, List.append_nil]
  exact Ends.neg (by omega) (Ends.ret _)
 | succ d ih =>
  intro i xs hd hi hf ht
  refine Ends.succ ?_
  have hx := hg (rd_T44 l (i : Int)) (by rw [rdR l i (by omega)]; exact List.getElem_mem _)
  rw [dropR l i (by omega)] at ht ⊢
  simp only [papermillref13_all.l0, wrap_nat i (by omega)]
  generalize rd_T44 l (i : Int) = r at *
  have hr := fit_of hx
  unfold fitR at hr
  rw [tot13_cons] at ht
  have h0 : 0 ≤ tot13 (l.drop (i + 1)) := tot_pos (fun x hx => hg x (List.mem_of_mem_drop hx))
  refine Ends.pos (by omega) (Ends.pos (by omega) (Ends.bind (rmore_nrm xs hf r (by omega) ⟨by omega, by omega, by omega⟩ (by omega)) ?_))
  refine (ih (i + 1) (xs ++ imgs r) (by omega) (by omega) (fit_join hf (fit_imgs hx)) (by rw [List.length_append, imgs_len]; omega)).congr ?_
  rw [sem_cons, List.append_assoc]
theorem rall_ends (l : List S44) (hl : l.length ≤ 1000000) (hg : ∀ r ∈ l, ¬ badR r) (ht : tot13 l ≤ 17179869184) : Ends (fun k => papermillref13_all.f k l) (nrm (sem l)) := by
 unfold papermillref13_all.f
 exact (rall_l0 l hl hg _ 0 [] rfl (by omega) (by intro x hx; simp at hx) (by simpa using ht)).congr (by simp)
end Go.Proofs.Ytalpegglbfobiaa.G

namespace Go.Proofs.Ytalpegglbfobiaa.G
open Go.RowKit Go.Proofs.YtalpegglbfobiaaW.PrintWords Go.Proofs.YtalpegglbfobiaaW.PrintLast Go.Proofs.YtalpegglbfobiaaW.PrintMore
set_option linter.unusedVariables false
set_option linter.unusedSimpArgs false
theorem rnorm13_ends (l : List S44) : Ends (fun k => papermillref13_Norm.f k l) (normOf l) := by
 unfold papermillref13_Norm.f normOf
 refine Ends.bind (rcheck_ends l) ?_
 by_cases h : check13 l = 0
 ·obtain ⟨hl, hg, ht⟩ := check13_zero h
  rw [if_pos h]
  exact Ends.pos h (Ends.bind (rall_ends l (by omega) hg ht) (Ends.ret _))
 ·rw [if_neg h]
  exact Ends.neg h (Ends.ret _)
end Go.Proofs.Ytalpegglbfobiaa.G

namespace Go.Proofs.Ytalpegglbfobiaa.G
open Go.RowKit Go.Proofs.YtalpegglbfobiaaW.PrintWords Go.Proofs.YtalpegglbfobiaaW.PrintLast Go.Proofs.YtalpegglbfobiaaW.PrintMore
set_option linter.unusedVariables false
set_option linter.unusedSimpArgs false
def placeGo : List S44 → Int → Int → Int × Int
 | [], _, _ => (-1, 0)
 | r :: b, i, y => if y < r.f1 then (i, y) else placeGo b (i + 1) (y - r.f1)
theorem rplace_l0 (b : List S44) (hb : b.length ≤ 256) (hv : ∀ r ∈ b, 0 ≤ r.f1 ∧ r.f1 ≤ 17179869184) : ∀ (d i : Nat) (y : Int), b.length - i = d → i ≤ b.length → 0 ≤ y → y ≤ 1099511627776 → Ends (fun k => papermillref13_place.l0 k b y (i : Int)) (placeGo (b.drop i) i y) := by
 intro d
 induction d with
 | zero =>
  intro i y hd hi h0 h1
  refine Ends.succ ?_
  simp only [papermillref13_place.l0]
  rw [List.drop_of_length_le (by omega)]
  refine Ends.neg (by omega) (Ends.succ ?_)
  simp only [papermillref13_place.j1]
  exact Ends.neg (by simp) (Ends.ret _)
 | succ d ih =>
  intro i y hd hi h0 h1
  refine Ends.succ ?_
  have hx := hv (rd_T44 b (i : Int)) (by rw [rdR b i (by omega)]; exact List.getElem_mem _)
  rw [dropR b i (by omega)]
  simp only [papermillref13_place.l0, placeGo]
  refine Ends.pos (by omega) (Ends.succ ?_)
  simp only [papermillref13_place.j1, wrap_nat i (by omega)]
  generalize rd_T44 b (i : Int) = r at *
  have ew : wrap64 (y - r.f1) = y - r.f1 := by unfold wrap64; omega
  refine Ends.pos (by simpa using h0) (Ends.pos (by omega) (Ends.pos (by omega) ?_))
  by_cases h : y < r.f1
  ·rw [if_pos h]; exact Ends.pos h (Ends.ret _)
  ·rw [if_neg h, ew]
   exact Ends.neg h (ih (i + 1) (y - r.f1) (by omega) (by omega) (by omega) (by omega))
theorem rplace_ends (b : List S44) (hb : b.length ≤ 256) (hv : ∀ r ∈ b, 0 ≤ r.f1 ∧ r.f1 ≤ 17179869184) (y : Int) (h0 : 0 ≤ y) (h1 : y ≤ 1099511627776) : Ends (fun k => papermillref13_place.f k b y) (placeGo b 0 y) := by
 unfold papermillref13_place.f
 exact (rplace_l0 b hb hv _ 0 y rfl (by omega) h0 h1).congr (by simp)
theorem place_none (b : List S44) : ∀ (i y : Int), tot13 b ≤ y → (∀ r ∈ b, 0 ≤ r.f1) → placeGo b i y = (-1, 0) := by
 induction b with
 | nil => intro i y _ _; rfl
 | cons r b ih =>
  intro i y h hv
  rw [tot13_cons] at h
  have h2 := ih (i + 1) (y - r.f1) (by omega) (fun x hx => hv x (by simp [hx]))
  have h3 : 0 ≤ tot13 b := by
   rw [← sem_len b (fun x hx => hv x (by simp [hx]))]; omega
  simp only [placeGo]
  rw [if_neg (by omega), h2]
theorem look_cons (r : S44) (b : List S44) (h : 0 ≤ r.f1) (y : Int) (h0 : 0 ≤ y) : lookOf (sem (r :: b)) y = if y < r.f1 then img r y else lookOf (sem b) (y - r.f1) := by
 unfold lookOf
 rw [sem_cons, List.getD_eq_getElem?_getD, List.getD_eq_getElem?_getD]
 by_cases hy : y < r.f1
 ·rw [if_pos hy, List.getElem?_append_left (by rw [imgs_len]; omega), imgs_get r y.toNat (by omega), show ((y.toNat : Nat) : Int) = y by omega]
  rfl
 ·rw [if_neg hy, List.getElem?_append_right (by rw [imgs_len]; omega), imgs_len, show y.toNat - r.f1.toNat = (y - r.f1).toNat by omega]
theorem place_some (b : List S44) : ∀ (i : Nat) (y : Int), 0 ≤ y → y < tot13 b → (∀ r ∈ b, 0 ≤ r.f1) → ∃ (j : Nat) (p : Int) (o : S44), placeGo b i y = (((i + j : Nat) : Int), p) ∧ b[j]? = some o ∧ 0 ≤ p ∧ p < o.f1 ∧ ∀ u : Int, 0 ≤ p + u → p + u < o.f1 → (0 ≤ y + u ∧ y + u < tot13 b) ∧ lookOf (sem b) (y + u) = img o (p + u) := by
 induction b with
 | nil => intro i y h0 h1 _; simp [tot13] at h1; omega
 | cons r b ih =>
  intro i y h0 h1 hv
  have hr := hv r (by simp)
  have hT : 0 ≤ tot13 b := by rw [← sem_len b (fun x hx => hv x (by simp [hx]))]; omega
  rw [tot13_cons] at h1
  simp only [placeGo]
  by_cases hy : y < r.f1
  ·rw [if_pos hy]
   refine ⟨0, y, r, by simp, rfl, h0, hy, fun u hu0 hu1 => ⟨⟨hu0, by rw [tot13_cons]; omega⟩, ?_⟩⟩
   rw [look_cons r b hr _ hu0, if_pos hu1]
  ·rw [if_neg hy]
   obtain ⟨j, p, o, e, ho, hp0, hp1, hu⟩ := ih (i + 1) (y - r.f1) (by omega) (by omega) (fun x hx => hv x (by simp [hx]))
   refine ⟨j + 1, p, o, ?_, by simpa using ho, hp0, hp1, fun u hu0 hu1 => ?_⟩
   ·rw [show ((i : Int) + 1) = ((i + 1 : Nat) : Int) by omega, e]
    congr 1
    omega
   ·obtain ⟨h2, h3⟩ := hu u hu0 hu1
    refine ⟨⟨by omega, by rw [tot13_cons]; omega⟩, ?_⟩
    rw [look_cons r b hr _ (by omega), if_neg (by omega), ← h3, show y + u - r.f1 = y - r.f1 + u by omega]
end Go.Proofs.Ytalpegglbfobiaa.G

namespace Go.Proofs.Ytalpegglbfobiaa.G
open Go.RowKit Go.Proofs.YtalpegglbfobiaaW.PrintWords Go.Proofs.YtalpegglbfobiaaW.PrintLast Go.Proofs.YtalpegglbfobiaaW.PrintMore
set_option linter.unusedVariables false
set_option linter.unusedSimpArgs false
theorem imgs_split (r : S44) (n : Int) (h0 : 0 ≤ n) (h1 : n ≤ r.f1) : imgs r = imgs ⟨r.f0, n, r.f2⟩ ++ imgs ⟨img r n, r.f1 - n, r.f2⟩ := by
 apply List.ext_getElem?
 intro i
 by_cases hi : (i : Int) < n
 ·rw [imgs_get r i (by omega), List.getElem?_append_left (by rw [imgs_len]; dsimp only; omega), imgs_get _ i (by dsimp only; omega)]
  rfl
 ·rw [List.getElem?_append_right (by rw [imgs_len]; dsimp only; omega), imgs_len]
  dsimp only
  by_cases h2 : (i : Int) < r.f1
  ·rw [imgs_get r i h2, imgs_get _ (i - n.toNat) (by dsimp only; omega)]
   unfold img
   dsimp only
   cases r.f2 <;> simp <;> omega
  ·rw [List.getElem?_eq_none (by rw [imgs_len]; omega), List.getElem?_eq_none (by rw [imgs_len]; dsimp only; omega)]
theorem piece_imgs (b : List S44) (r o : S44) (p n : Int) (bk : Bool) (hn : 1 ≤ n) (hbk : bk = (if r.f2 = true then !o.f2 else o.f2)) (hr : n ≤ r.f1)
  (hin : ∀ i : Int, 0 ≤ i → i < n → lookOf (sem b) (img r i) = if r.f2 = true then img o (p - i) else img o (p + i)) : imgs ⟨img o p, n, bk && decide (n > 1)⟩ = (imgs ⟨r.f0, n, r.f2⟩).map (lookOf (sem b)) := by
 apply List.ext_getElem?
 intro i
 rw [List.getElem?_map]
 by_cases hi : (i : Int) < n
 ·rw [imgs_get _ i (by dsimp only; omega), imgs_get _ i (by dsimp only; omega)]
  have h := hin i (by omega) hi
  have e : img ⟨r.f0, n, r.f2⟩ (i : Int) = img r i := rfl
  rw [e, Option.map_some, h, hbk]
  congr 1
  unfold img
  dsimp only
  by_cases h1 : n > 1
  ·cases r.f2 <;> cases o.f2 <;> simp [h1] <;> omega
  ·have : i = 0 := by omega
   subst this
   cases r.f2 <;> cases o.f2 <;> simp [h1]
 ·rw [List.getElem?_eq_none (by rw [imgs_len]; dsimp only; omega), List.getElem?_eq_none (by rw [imgs_len]; dsimp only; omega)]
  rfl
theorem rcomp_l1 (a b : List S44) (hb : check13 b = 0) (i : Nat) (hi : i < 100000) (q : List S44 × Int) : ∀ (m : Nat) (r : S44) (xs : List Int), r.f1 = m → fitX (imgs r) → fitX xs → xs.length + m ≤ 17179869184 → 0 ≤ r.f0 → r.f0 ≤ 17179869184 →
  ((∀ y ∈ imgs r, y < tot13 b) → Ends (fun k => papermillref13_Compose.l0 k a b (nrm (xs ++ (imgs r).map (lookOf (sem b)))) ((i + 1 : Nat) : Int)) q) → ((∃ y ∈ imgs r, tot13 b ≤ y) → q = ([], 21)) →
  Ends (fun k => papermillref13_Compose.l1 k a b (nrm xs) (i : Int) r.f0 r.f1 r.f2) q := by
 obtain ⟨hlb, hgb, htb⟩ := check13_zero hb
 have hfb : ∀ x ∈ b, fitR x := fun x hx => fit_of (hgb x hx)
 have hvb : ∀ x ∈ b, 0 ≤ x.f1 ∧ x.f1 ≤ 17179869184 := fun x hx => by have := hfb x hx; unfold fitR at this; omega
 intro m
 induction m using Nat.strongRecOn with
 | ind m ih =>
  intro r xs hm hfr hfx hlx hr0 hr1 hq hbad
  refine Ends.succ ?_
  simp only [papermillref13_Compose.l1, wrap_nat i (by omega)]
  by_cases hm0 : m = 0
  ·subst hm0
   refine Ends.neg (by omega) ?_
   have e : imgs r = [] := List.eq_nil_of_length_eq_zero (by rw [imgs_len]; omega)
   rw [e] at hq
   simpa using hq (by simp)
  have hm1 : 1 ≤ r.f1 := by omega
  have h0mem : r.f0 ∈ imgs r := by
   have := imgs_get r 0 (by omega)
   have e0 : img r ((0 : Nat) : Int) = r.f0 := by unfold img; split <;> simp
   rw [e0] at this
   exact List.mem_of_getElem? this
  refine Ends.pos (by omega) (Ends.bind (rplace_ends b hlb hvb r.f0 hr0 (by omega)) ?_)
  by_cases hT : tot13 b ≤ r.f0
  ·rw [place_none b 0 r.f0 hT (fun x hx => (hvb x hx).1), hbad ⟨r.f0, h0mem, hT⟩]
   exact Ends.pos (by dsimp only; omega) (Ends.ret _)
  obtain ⟨j, p, o, hpl, hj, hp0, hp1, hu⟩ := place_some b 0 r.f0 hr0 (by omega) (fun x hx => (hvb x hx).1)
  rw [show ((0 : Nat) : Int) = 0 from rfl] at hpl
  rw [hpl]
  have hjl : j < b.length := by
   rcases Nat.lt_or_ge j b.length with h | h
   ·exact h
   ·rw [List.getElem?_eq_none h] at hj; cases hj
  have hrd : rd_T44 b ((0 + j : Nat) : Int) = o := by
   rw [Nat.zero_add, rdR b j hjl]
   rw [List.getElem?_eq_getElem hjl] at hj
   exact Option.some.inj hj
  have ho := hfb o (List.mem_of_getElem? hj)
  have hob := hgb o (List.mem_of_getElem? hj)
  unfold fitR at ho
  dsimp only
  rw [hrd]
  have ew1 : wrap64 (p + 1) = p + 1 := by unfold wrap64; omega
  have ew2 : wrap64 (o.f1 - p) = o.f1 - p := by unfold wrap64; omega
  rw [ew1, ew2]
  -- what is common to both directions
  have go : ∀ (n : Int) (bk : Bool), 1 ≤ n → n ≤ r.f1 → n ≤ 17179869184 → bk = (if r.f2 = true then !o.f2 else o.f2) → (∀ t : Int, 0 ≤ t → t < n → img r t < tot13 b ∧ lookOf (sem b) (img r t) = if r.f2 = true then img o (p - t) else img o (p + t)) →
    Ends (fun k => papermillref13_Compose.j2 k a b (nrm xs) (i : Int) p n bk r.f0 r.f1 r.f2 o.f0 o.f1 o.f2) q := by
   intro n bk hn hnr hn2 hbk hin
   have hpi := img_in hob p hp0 hp1
   have himg : papermillref13_image.f o.f0 o.f1 o.f2 p = some (img o p) := image_is o p ⟨by omega, by omega, by omega⟩ (by omega) (by omega)
   have hPI := piece_imgs b r o p n bk hn hbk hnr (fun t h1 h2 => (hin t h1 h2).2)
   have hsplit := imgs_split r n (by omega) hnr
   have hfirst : ∀ y ∈ imgs ⟨r.f0, n, r.f2⟩, y < tot13 b := by
    intro y hy
    simp only [imgs, List.mem_map, List.mem_range] at hy
    obtain ⟨t, ht, rfl⟩ := hy
    exact (hin t (by omega) (by omega)).1
   have hmore := rmore_ends (nrm xs) ⟨img o p, n, bk && decide (n > 1)⟩ ⟨by dsimp only; omega, by dsimp only; omega, by dsimp only; omega⟩ (by have := nrm_short xs; omega) (nrm_low xs hfx (by omega))
   rw [addOf_nrm xs _ hn, hPI] at hmore
   have hrest : Ends (fun k => if n = r.f1 then papermillref13_Compose.l0 k a b (nrm (xs ++ (imgs ⟨r.f0, n, r.f2⟩).map (lookOf (sem b)))) ((i + 1 : Nat) : Int) else (papermillref13_image.f r.f0 r.f1 r.f2 n).bind fun t => papermillref13_Compose.l1 k a b (nrm (xs ++ (imgs ⟨r.f0, n, r.f2⟩).map (lookOf (sem b)))) (i : Int) t (wrap64 (r.f1 - n)) r.f2) q := by
    by_cases hend : n = r.f1
    ·refine Ends.pos hend ?_
     have e : (⟨r.f0, n, r.f2⟩ : S44) = r := by rw [hend]
     rw [e] at hfirst ⊢
     exact hq hfirst
    ·refine Ends.neg hend ?_
     have hi2 : papermillref13_image.f r.f0 r.f1 r.f2 n = some (img r n) := image_is r n ⟨by omega, by omega, by omega⟩ (by omega) (by omega)
     have ew : wrap64 (r.f1 - n) = r.f1 - n := by unfold wrap64; omega
     refine Ends.bind (Ends.const hi2) ?_
     rw [ew]
     have hmem : img r n ∈ imgs r := by
      have := imgs_get r n.toNat (by omega)
      rw [show ((n.toNat : Nat) : Int) = n by omega] at this
      exact List.mem_of_getElem? this
     have hb2 := hfr _ hmem
     refine ih (r.f1 - n).toNat (by omega) ⟨img r n, r.f1 - n, r.f2⟩ _ (by dsimp only; omega) (fun y hy => hfr y (by rw [hsplit]; exact List.mem_append_right _ hy)) ?_ ?_ hb2.1 (by dsimp only; omega) ?_ ?_
     ·intro x hx
      rcases List.mem_append.mp hx with hx | hx
      ·exact hfx x hx
      ·obtain ⟨y, hy, rfl⟩ := List.mem_map.mp hx
       have hy1 := hfirst y hy
       have hy0 := hfr y (by rw [hsplit]; exact List.mem_append_left _ hy)
       exact sem_fit hgb _ (look_mem hy0.1 (by rw [sem_tot hb]; exact hy1))
     ·rw [List.length_append, List.length_map, imgs_len]; dsimp only; omega
     ·intro hall
      have := hq (fun y hy => by
       rw [hsplit] at hy
       rcases List.mem_append.mp hy with hy | hy
       ·exact hfirst y hy
       ·exact hall y hy)
      rw [hsplit, List.map_append, ← List.append_assoc] at this
      exact this
     ·rintro ⟨y, hy, hy2⟩
      exact hbad ⟨y, by rw [hsplit]; exact List.mem_append_right _ hy, hy2⟩
   refine Ends.succ ?_
   simp only [papermillref13_Compose.j2, wrap_nat i (by omega)]
   refine Ends.bind (Ends.const himg) ?_
   cases bk with
   | true =>
    refine Ends.pos rfl (Ends.bind (by simpa using hmore) hrest)
   | false =>
    refine Ends.neg (by simp) (Ends.bind (by simpa using hmore) hrest)
  refine Ends.neg (by omega) (Ends.pos (by omega) (Ends.pos (by omega) ?_))
  by_cases hd : r.f2 = true
  ·refine Ends.pos hd (go (mn r.f1 (p + 1)) (!o.f2) ?_ ?_ ?_ (by rw [if_pos hd]) ?_)
   ·unfold mn; split <;> omega
   ·unfold mn; split <;> omega
   ·unfold mn; split <;> omega
   ·intro t h1 h2
    have h3 : t < p + 1 := by unfold mn at h2; split at h2 <;> omega
    have h4 := hu (-t) (by omega) (by omega)
    have e : img r t = r.f0 + -t := by unfold img; rw [if_pos hd]; omega
    rw [if_pos hd, e, h4.2]
    exact ⟨h4.1.2, by rw [show p + -t = p - t by omega]⟩
  ·refine Ends.neg hd (go (mn r.f1 (o.f1 - p)) o.f2 ?_ ?_ ?_ (by rw [if_neg hd]) ?_)
   ·unfold mn; split <;> omega
   ·unfold mn; split <;> omega
   ·unfold mn; split <;> omega
   ·intro t h1 h2
    have h3 : t < o.f1 - p := by unfold mn at h2; split at h2 <;> omega
    have h4 := hu t (by omega) (by omega)
    have e : img r t = r.f0 + t := by unfold img; rw [if_neg hd]
    rw [if_neg hd, e, h4.2]
    exact ⟨h4.1.2, rfl⟩
def compQ (b : List S44) : List Int → List S44 → List S44 × Int
 | xs, [] => if (nrm xs).length > 256 then ([], 8) else (nrm xs, 0)
 | xs, r :: d => if farR (tot13 b) r = true then ([], 21) else compQ b (xs ++ (imgs r).map (lookOf (sem b))) d
theorem compQ_is (b : List S44) : ∀ (a : List S44) (xs : List Int), compQ b xs a = if a.any (farR (tot13 b)) = true then ([], 21) else if (nrm (xs ++ (sem a).map (lookOf (sem b)))).length > 256 then ([], 8) else (nrm (xs ++ (sem a).map (lookOf (sem b))), 0) := by
 intro a
 induction a with
 | nil => intro xs; simp [compQ, sem_nil]
 | cons r d ih =>
  intro xs
  simp only [compQ]
  have e2 : xs ++ (sem (r :: d)).map (lookOf (sem b)) = xs ++ (imgs r).map (lookOf (sem b)) ++ (sem d).map (lookOf (sem b)) := by rw [sem_cons, List.map_append, List.append_assoc]
  by_cases hf : farR (tot13 b) r = true
  ·have e1 : (r :: d).any (farR (tot13 b)) = true := by rw [List.any_cons, hf]; rfl
   rw [if_pos hf, if_pos e1]
  ·have e1 : (r :: d).any (farR (tot13 b)) = d.any (farR (tot13 b)) := by rw [List.any_cons]; simp [hf]
   rw [if_neg hf, ih, e2]
   by_cases h2 : d.any (farR (tot13 b)) = true
   ·rw [if_pos h2, if_pos (e1.trans h2)]
   ·rw [if_neg h2]
    exact (if_neg (fun h => h2 (e1 ▸ h))).symm
theorem rcomp_l0 (a b : List S44) (ha : check13 a = 0) (hb : check13 b = 0) : ∀ (d i : Nat) (xs : List Int), a.length - i = d → i ≤ a.length → fitX xs → xs.length + tot13 (a.drop i) ≤ 17179869184 → Ends (fun k => papermillref13_Compose.l0 k a b (nrm xs) (i : Int)) (compQ b xs (a.drop i)) := by
 obtain ⟨hla, hga, _⟩ := check13_zero ha
 obtain ⟨hlb, hgb, _⟩ := check13_zero hb
 intro d
 induction d with
 | zero =>
  intro i xs hd hi hfx hlx
  refine Ends.succ ?_
  simp only [papermillref13_Compose.l0]
  rw [List.drop_of_length_le (by omega)]
  refine Ends.neg (by omega) ?_
  simp only [compQ, papermillref13_limited.f]
  by_cases h : (nrm xs).length > 256
  ·rw [if_pos h]; exact Ends.bind (Ends.pos (by omega) (Ends.ret _)) (Ends.ret _)
  ·rw [if_neg h]; exact Ends.bind (Ends.neg (by omega) (Ends.ret _)) (Ends.ret _)
 | succ d ih =>
  intro i xs hd hi hfx hlx
  refine Ends.succ ?_
  have hx := hga (rd_T44 a (i : Int)) (by rw [rdR a i (by omega)]; exact List.getElem_mem _)
  rw [dropR a i (by omega)] at hlx ⊢
  simp only [papermillref13_Compose.l0]
  generalize rd_T44 a (i : Int) = r at *
  have hf := fit_of hx
  unfold fitR at hf
  rw [tot13_cons] at hlx
  have htd : 0 ≤ tot13 (a.drop (i + 1)) := by
   rw [← sem_len _ (fun x hx2 => by have := fit_of (hga x (List.mem_of_mem_drop hx2)); unfold fitR at this; omega)]; omega
  have hsem1 : sem [r] = imgs r := by simp [sem]
  have hfit1 : fitX (imgs r) := by rw [← hsem1]; exact sem_fit (fun x hx2 => by rw [List.mem_singleton.mp hx2]; exact hx)
  refine Ends.pos (by omega) (Ends.pos (by omega) (rcomp_l1 a b hb i (by omega) _ r.f1.toNat r xs (by omega) hfit1 hfx (by omega) hf.1 hf.2.1 ?_ ?_))
  ·intro hall
   have hfar : farR (tot13 b) r = false := by
    have m0 : img r ((0 : Nat) : Int) ∈ imgs r := List.mem_of_getElem? (imgs_get r 0 (by omega))
    have m1 : img r (((r.f1 - 1).toNat : Nat) : Int) ∈ imgs r := List.mem_of_getElem? (imgs_get r (r.f1 - 1).toNat (by omega))
    have b0 := hall _ m0
    have b1 := hall _ m1
    rw [show (((r.f1 - 1).toNat : Nat) : Int) = r.f1 - 1 by omega] at b1
    have e0 : img r ((0 : Nat) : Int) = r.f0 := by unfold img; split <;> simp
    rw [e0] at b0
    unfold farR
    simp only [decide_eq_false_iff_not, Int.not_le]
    omega
   simp only [compQ]
   rw [if_neg (by rw [hfar]; simp)]
   refine ih (i + 1) _ (by omega) (by omega) ?_ (by rw [List.length_append, List.length_map, imgs_len]; omega)
   intro x hx2
   rcases List.mem_append.mp hx2 with h | h
   ·exact hfx x h
   ·obtain ⟨y, hy, rfl⟩ := List.mem_map.mp h
    exact sem_fit hgb _ (look_mem (hfit1 y hy).1 (by rw [sem_tot hb]; exact hall y hy))
  ·rintro ⟨y, hy, hy2⟩
   simp only [compQ]
   cases hfar : farR (tot13 b) r with
   | true => simp
   | false =>
    have := far_sem (a := [r]) (n := tot13 b) (fun x hx2 => by rw [List.mem_singleton.mp hx2]; exact hx) (fun x hx2 => by rw [List.mem_singleton.mp hx2]; exact hfar) y (by rw [hsem1]; exact hy)
    omega
theorem rcomp_ends (a b : List S44) : Ends (fun k => papermillref13_Compose.f k a b) (compOf13 a b) := by
 unfold papermillref13_Compose.f compOf13
 refine Ends.bind (rcheck_ends a) ?_
 by_cases h0 : check13 a = 0
 ·rw [if_pos h0]
  refine Ends.pos h0 (Ends.bind (rcheck_ends b) ?_)
  by_cases h1 : check13 b = 0
  ·rw [if_pos h1]
   refine Ends.pos h1 ((rcomp_l0 a b h0 h1 _ 0 [] rfl (by omega) (by intro x hx; simp at hx) (by have := (check13_zero h0).2.2; simpa using this)).congr ?_)
   rw [List.drop_zero, compQ_is]
   simp
  ·rw [if_neg h1]
   exact Ends.neg h1 (Ends.ret _)
 ·rw [if_neg h0]
  exact Ends.neg h0 (Ends.ret _)
end Go.Proofs.Ytalpegglbfobiaa.G

namespace Go.Proofs.Ytalpegglbfobiaa.G
open Go.RowKit Go.Proofs.YtalpegglbfobiaaW.PrintWords Go.Proofs.YtalpegglbfobiaaW.PrintLast Go.Proofs.YtalpegglbfobiaaW.PrintMore
set_option linter.unusedVariables false
set_option linter.unusedSimpArgs false
theorem rafter_l1 (l : List (List S44)) (hl : l.length ≤ 1000) : ∀ (i : Nat) (m : List S44), i ≤ l.length → Ends (fun k => papermillref41_After.l1 k l m ((i : Int) - 1)) (aftGo (l.take i).reverse m) := by
 intro i
 induction i with
 | zero =>
  intro m hi
  refine Ends.succ ?_
  simp only [papermillref41_After.l1]
  exact Ends.neg (by omega) (Ends.ret _)
 | succ i ih =>
  intro m hi
  refine Ends.succ ?_
  have hw : wrap64 ((i : Int) - 1) = (i : Int) - 1 := by unfold wrap64; omega
  rw [show ((i + 1 : Nat) : Int) - 1 = (i : Int) by omega, takeR6 l i (by omega)]
  simp only [papermillref41_After.l1, hw]
  refine Ends.pos (by omega) (Ends.pos (by omega) (Ends.pos (by omega) (Ends.bind (rcomp_ends m (rd_L6 l (i : Int))) ?_)))
  unfold aftGo
  by_cases h : (compOf13 m (rd_L6 l (i : Int))).2 = 0
  ·rw [if_pos h]; exact Ends.pos h (ih _ (by omega))
  ·rw [if_neg h]; exact Ends.neg h (Ends.ret _)
theorem rafter_l0 (l : List (List S44)) (hl : l.length ≤ 16) : ∀ (d i : Nat), l.length - i = d → i ≤ l.length → badGo l = badGo (l.drop i) → Ends (fun k => papermillref41_After.l0 k l (i : Int)) (if badGo l = 0 then composedOf l else ([], badGo l)) := by
 intro d
 induction d with
 | zero =>
  intro i hd hi hb
  refine Ends.succ ?_
  simp only [papermillref41_After.l0]
  rw [List.drop_of_length_le (by omega)] at hb
  have hb : badGo l = 0 := hb
  rw [if_pos hb]
  refine Ends.neg (by omega) ?_
  by_cases h0 : l = []
  ·subst h0
   exact Ends.pos (by rfl) (Ends.ret _)
  ·have h1 : 0 < l.length := (Nat.pos_of_ne_zero fun e => h0 (List.length_eq_zero_iff.1 e))
   have hw : wrap64 ((l.length : Int) - 1) = ((l.length - 1 : Nat) : Int) := by unfold wrap64; omega
   have hw2 : wrap64 ((l.length : Int) - 2) = ((l.length - 1 : Nat) : Int) - 1 := by unfold wrap64; omega
   have hm := badGo_zero l hb (rd_L6 l ((l.length - 1 : Nat) : Int)) (by rw [rdL6 l _ (by omega)]; exact List.getElem_mem _)
   have hn : normOf (rd_L6 l ((l.length - 1 : Nat) : Int)) = (nrm (sem (rd_L6 l ((l.length - 1 : Nat) : Int))), 0) := by unfold normOf; rw [if_pos hm]
   simp only [hw, hw2]
   refine Ends.neg (fun e => h0 (List.length_eq_zero_iff.1 (by omega))) (Ends.pos (by omega) (Ends.pos (by omega) (Ends.bind ((rnorm13_ends _).congr hn) ?_)))
   rw [composed_at l h0]
   exact rafter_l1 l (by omega) (l.length - 1) _ (by omega)
 | succ d ih =>
  intro i hd hi hb
  refine Ends.succ ?_
  rw [dropL6 l i (by omega)] at hb
  simp only [papermillref41_After.l0, wrap_nat i (by omega)]
  refine Ends.pos (by omega) (Ends.pos (by omega) (Ends.bind (rcheck_ends _) ?_))
  rw [show badGo (rd_L6 l (i : Int) :: l.drop (i + 1)) = if check13 (rd_L6 l (i : Int)) = 0 then badGo (l.drop (i + 1)) else check13 (rd_L6 l (i : Int)) from rfl] at hb
  by_cases h : check13 (rd_L6 l (i : Int)) = 0
  ·rw [if_pos h] at hb
   exact Ends.pos h (ih (i + 1) (by omega) (by omega) hb)
  ·rw [if_neg h] at hb
   rw [hb, if_neg h]
   exact Ends.neg h (Ends.ret _)
theorem rafter_ends (l : List (List S44)) : Ends (fun k => papermillref41_After.f k l) (afterOf l) := by
 unfold papermillref41_After.f afterOf
 by_cases h : l.length > 16
 ·rw [if_pos h]; exact Ends.pos (by omega) (Ends.ret _)
 ·rw [if_neg h]; exact Ends.neg (by omega) (rafter_l0 l (by omega) _ 0 rfl (by omega) rfl)
end Go.Proofs.Ytalpegglbfobiaa.G
