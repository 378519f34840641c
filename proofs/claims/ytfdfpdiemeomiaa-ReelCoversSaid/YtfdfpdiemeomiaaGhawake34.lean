-- HAND papermill/papermilllaw34.awake making=1 rounds=0 name=papermilllaw34_awake
import Derived.Test.YtfdfpdiemeomiaaGx0
import Derived.Test.YtfdfpdiemeomiaaGxreelCheck
import Derived.Test.YtfdfpdiemeomiaaGxreelLost
import Derived.Test.YtfdfpdiemeomiaaGxpapermillref04Same
import Derived.Test.YtfdfpdiemeomiaaGxreelcheckTurns
import Derived.Test.YtfdfpdiemeomiaaGxpapermillref34Same
import Derived.Test.YtfdfpdiemeomiaaGhlits34
import Derived.Test.YtfdfpdiemeomiaaGhreelCut
import Derived.Test.YtfdfpdiemeomiaaGhreelGrade
import Derived.Test.YtfdfpdiemeomiaaGhreelParts
namespace Go.Proofs.Ytfdfpdiemeomiaa.G
open Go.RowKit Go.Proofs.YtfdfpdiemeomiaaW.PrintWords Go.Proofs.YtfdfpdiemeomiaaW.PrintLast Go.Proofs.YtfdfpdiemeomiaaW.PrintMore
attribute [local go_sem] max2_int min2_int max_two min_two max_three min_three max_four min_four   -- for this text's walks alone
set_option linter.unusedVariables false
set_option linter.unusedSimpArgs false

theorem ex_cut : reel_Cut.f 60 ([⟨0, 100, 1, 0, 0⟩] : List (S44)) ([40, 95] : List (Int)) 10 = some (([⟨0, 40⟩, ⟨40, 95⟩] : List (S36)), ([⟨95, 100⟩] : List (S36)), 0) := by
  unfold reel_Cut.f
  rw [show reel_Check.f 60 ([⟨0, 100, 1, 0, 0⟩] : List (S44)) = some 0 from by kernel_rfl, show reel_checkTurns.f 60 ([40, 95] : List (Int)) = some 0 from by kernel_rfl]
  simp [reel_Cut.strs, reel_Cut.all, reel_Cut.one, reel_Cut.at, reel_Cut.piece, wrap64]
def papermilllaw34_awake.f : Option Bool := some true
set_option maxHeartbeats 8000000 in
set_option maxRecDepth 100000 in
theorem papermilllaw34_awake.calls (r : Bool) (w : World) (h : papermilllaw34_awake.f = some r) : Calls Try.prog 12 #[] w fun e w' => e = .returned (.bool r) ∧ Below w.heap.size w w' := by
  obtain rfl := Option.some.inj h
  have HB := Aside0.mk (Below.refl w.heap.size w)
  go_enter Try.func12, Try.ntmps12
  go_wp2_with fail
  have qL1 : ((w.alloc (.cells #[.int .i64 0, .int .i64 100, .int .i64 1, .int .i64 0, .int .i64 0] 44)).alloc (.cells #[.int .i64 40, .int .i64 95] 3)).heap[w.heap.size]? = some (.cells #[.int .i64 0, .int .i64 100, .int .i64 1, .int .i64 0, .int .i64 0] 44 (0, 0)) := by exact blk_alloc (by have h_ := World.alloc_heap_new w (.cells #[.int .i64 0, .int .i64 100, .int .i64 1, .int .i64 0, .int .i64 0] 44); exact h_) _
  have qL2 : ((w.alloc (.cells #[.int .i64 0, .int .i64 100, .int .i64 1, .int .i64 0, .int .i64 0] 44)).alloc (.cells #[.int .i64 40, .int .i64 95] 3)).heap[w.heap.size + 1]? = some (.cells #[.int .i64 40, .int .i64 95] 3 (0, 0)) := by have h_ := World.alloc_heap_new (w.alloc (.cells #[.int .i64 0, .int .i64 100, .int .i64 1, .int .i64 0, .int .i64 0] 44)) (.cells #[.int .i64 40, .int .i64 95] 3); (simp only [World.size_alloc] at h_); exact h_
  replace HB := Aside0.mk (below_alloc (below_alloc HB.out (.cells #[.int .i64 0, .int .i64 100, .int .i64 1, .int .i64 0, .int .i64 0] 44)) (.cells #[.int .i64 40, .int .i64 95] 3))
  generalize hw_ : ((w.alloc (.cells #[.int .i64 0, .int .i64 100, .int .i64 1, .int .i64 0, .int .i64 0] 44)).alloc (.cells #[.int .i64 40, .int .i64 95] 3)) = w3 at qL1 qL2 HB ⊢
  have L1 := Aside0.mk (C44_block ([⟨0, 100, 1, 0, 0⟩] : List (S44)) qL1 rfl (by decide))
  have L2 := Aside0.mk (CI_block ([40, 95] : List (Int)) qL2 rfl (by decide))
  clear hw_ qL1 qL2
  refine (reel_Cut.calls 60 _ _ ([⟨0, 100, 1, 0, 0⟩] : List (S44)) _ _ ([40, 95] : List (Int)) 10 ([⟨0, 40⟩, ⟨40, 95⟩] : List (S36)) ([⟨95, 100⟩] : List (S36)) 0 _ L1.out (by decide) L2.out (by decide) (show reel_Cut.f 60 ([⟨0, 100, 1, 0, 0⟩] : List (S44)) ([40, 95] : List (Int)) 10 = some (([⟨0, 40⟩, ⟨40, 95⟩] : List (S36)), ([⟨95, 100⟩] : List (S36)), 0) from ex_cut)).mono ?_
  rintro e w4 ⟨v4_0, v4_1, rfl, h4_0, h4_1, hb⟩
  obtain ⟨A4_0, c4_0, e_, hc_L4_0, hr_L4_0⟩ := Kd.R_reads h4_0
  subst e_
  have L4_0 := Aside0.mk hr_L4_0
  have HCL4_0 := Aside0.mk hc_L4_0
  clear hr_L4_0 hc_L4_0 h4_0
  obtain ⟨A4_1, c4_1, e_, hc_L4_1, hr_L4_1⟩ := Kd.R_reads h4_1
  subst e_
  have L4_1 := Aside0.mk hr_L4_1
  have HCL4_1 := Aside0.mk hc_L4_1
  clear hr_L4_1 hc_L4_1 h4_1
  replace L1 := Aside0.mk (Kd.C_below L1.out hb)
  replace L2 := Aside0.mk (Kd.C_below L2.out hb)
  replace HB := Aside0.mk (below_then HB.out HB.out.size hb)
  clear hb
  clear L1
  clear L2
  go_wp2_with fail
  have qL5 : (w4.alloc (.cells #[.int .i64 0, .int .i64 10, .int .i64 1, .int .i64 2, .int .i64 0, .int .i64 10, .int .i64 20, .int .i64 2, .int .i64 2, .int .i64 0] 44)).heap[w4.heap.size]? = some (.cells #[.int .i64 0, .int .i64 10, .int .i64 1, .int .i64 2, .int .i64 0, .int .i64 10, .int .i64 20, .int .i64 2, .int .i64 2, .int .i64 0] 44 (0, 0)) := by have h_ := World.alloc_heap_new w4 (.cells #[.int .i64 0, .int .i64 10, .int .i64 1, .int .i64 2, .int .i64 0, .int .i64 10, .int .i64 20, .int .i64 2, .int .i64 2, .int .i64 0] 44); exact h_
  replace L4_0 := Aside0.mk (Kd.C_alloc L4_0.out (.cells #[.int .i64 0, .int .i64 10, .int .i64 1, .int .i64 2, .int .i64 0, .int .i64 10, .int .i64 20, .int .i64 2, .int .i64 2, .int .i64 0] 44))
  replace L4_1 := Aside0.mk (Kd.C_alloc L4_1.out (.cells #[.int .i64 0, .int .i64 10, .int .i64 1, .int .i64 2, .int .i64 0, .int .i64 10, .int .i64 20, .int .i64 2, .int .i64 2, .int .i64 0] 44))
  replace HB := Aside0.mk (below_alloc HB.out (.cells #[.int .i64 0, .int .i64 10, .int .i64 1, .int .i64 2, .int .i64 0, .int .i64 10, .int .i64 20, .int .i64 2, .int .i64 2, .int .i64 0] 44))
  generalize hw_ : (w4.alloc (.cells #[.int .i64 0, .int .i64 10, .int .i64 1, .int .i64 2, .int .i64 0, .int .i64 10, .int .i64 20, .int .i64 2, .int .i64 2, .int .i64 0] 44)) = w6 at qL5 L4_0 L4_1 HB ⊢
  have L5 := Aside0.mk (C44_block ([⟨0, 10, 1, 2, 0⟩, ⟨10, 20, 2, 2, 0⟩] : List (S44)) qL5 rfl (by decide))
  clear hw_ qL5
  refine (reel_Grade.calls 60 _ _ ([⟨0, 10, 1, 2, 0⟩, ⟨10, 20, 2, 2, 0⟩] : List (S44)) 5 15 2 false 0 _ L5.out (by decide) (show reel_Grade.f 60 ([⟨0, 10, 1, 2, 0⟩, ⟨10, 20, 2, 2, 0⟩] : List (S44)) 5 15 = some (2, false, 0) from (by kernel_rfl))).mono ?_
  rintro e w7 ⟨rfl, hb⟩
  replace L4_0 := Aside0.mk (Kd.C_below L4_0.out hb)
  replace L4_1 := Aside0.mk (Kd.C_below L4_1.out hb)
  replace L5 := Aside0.mk (Kd.C_below L5.out hb)
  replace HB := Aside0.mk (below_then HB.out HB.out.size hb)
  clear hb
  go_wp2_with fail
  refine (reel_Parts.calls 60 _ _ ([⟨0, 10, 1, 2, 0⟩, ⟨10, 20, 2, 2, 0⟩] : List (S44)) 5 15 ([⟨0, 5, 1, 2, 0⟩, ⟨5, 10, 2, 2, 0⟩] : List (S44)) 0 _ L5.out (by decide) (show reel_Parts.f 60 ([⟨0, 10, 1, 2, 0⟩, ⟨10, 20, 2, 2, 0⟩] : List (S44)) 5 15 = some (([⟨0, 5, 1, 2, 0⟩, ⟨5, 10, 2, 2, 0⟩] : List (S44)), 0) from (by kernel_rfl))).mono ?_
  rintro e w8 ⟨v8_0, rfl, h8_0, hb⟩
  obtain ⟨A8_0, c8_0, e_, hc_L8_0, hr_L8_0⟩ := Kd.R_reads h8_0
  subst e_
  have L8_0 := Aside0.mk hr_L8_0
  have HCL8_0 := Aside0.mk hc_L8_0
  clear hr_L8_0 hc_L8_0 h8_0
  replace L4_0 := Aside0.mk (Kd.C_below L4_0.out hb)
  replace L4_1 := Aside0.mk (Kd.C_below L4_1.out hb)
  replace L5 := Aside0.mk (Kd.C_below L5.out hb)
  replace HB := Aside0.mk (below_then HB.out HB.out.size hb)
  clear hb
  go_wp2_with fail
  refine (reel_Grade.calls 60 _ _ ([⟨0, 10, 1, 2, 0⟩, ⟨10, 20, 2, 2, 0⟩] : List (S44)) 5 5 (-1) false 0 _ L5.out (by decide) (show reel_Grade.f 60 ([⟨0, 10, 1, 2, 0⟩, ⟨10, 20, 2, 2, 0⟩] : List (S44)) 5 5 = some ((-1), false, 0) from (by kernel_rfl))).mono ?_
  rintro e w9 ⟨rfl, hb⟩
  replace L4_0 := Aside0.mk (Kd.C_below L4_0.out hb)
  replace L4_1 := Aside0.mk (Kd.C_below L4_1.out hb)
  replace L5 := Aside0.mk (Kd.C_below L5.out hb)
  replace L8_0 := Aside0.mk (Kd.C_below L8_0.out hb)
  replace HB := Aside0.mk (below_then HB.out HB.out.size hb)
  clear hb
  clear L5
  go_wp2_with fail
  have qL10 : (w9.alloc (.cells #[.int .i64 0, .int .i64 10, .int .i64 3, .int .i64 (-1), .int .i64 0, .int .i64 10, .int .i64 20, .int .i64 3, .int .i64 0, .int .i64 1, .int .i64 20, .int .i64 30, .int .i64 1, .int .i64 0, .int .i64 1] 44)).heap[w9.heap.size]? = some (.cells #[.int .i64 0, .int .i64 10, .int .i64 3, .int .i64 (-1), .int .i64 0, .int .i64 10, .int .i64 20, .int .i64 3, .int .i64 0, .int .i64 1, .int .i64 20, .int .i64 30, .int .i64 1, .int .i64 0, .int .i64 1] 44 (0, 0)) := by have h_ := World.alloc_heap_new w9 (.cells #[.int .i64 0, .int .i64 10, .int .i64 3, .int .i64 (-1), .int .i64 0, .int .i64 10, .int .i64 20, .int .i64 3, .int .i64 0, .int .i64 1, .int .i64 20, .int .i64 30, .int .i64 1, .int .i64 0, .int .i64 1] 44); exact h_
  replace L4_0 := Aside0.mk (Kd.C_alloc L4_0.out (.cells #[.int .i64 0, .int .i64 10, .int .i64 3, .int .i64 (-1), .int .i64 0, .int .i64 10, .int .i64 20, .int .i64 3, .int .i64 0, .int .i64 1, .int .i64 20, .int .i64 30, .int .i64 1, .int .i64 0, .int .i64 1] 44))
  replace L4_1 := Aside0.mk (Kd.C_alloc L4_1.out (.cells #[.int .i64 0, .int .i64 10, .int .i64 3, .int .i64 (-1), .int .i64 0, .int .i64 10, .int .i64 20, .int .i64 3, .int .i64 0, .int .i64 1, .int .i64 20, .int .i64 30, .int .i64 1, .int .i64 0, .int .i64 1] 44))
  replace L8_0 := Aside0.mk (Kd.C_alloc L8_0.out (.cells #[.int .i64 0, .int .i64 10, .int .i64 3, .int .i64 (-1), .int .i64 0, .int .i64 10, .int .i64 20, .int .i64 3, .int .i64 0, .int .i64 1, .int .i64 20, .int .i64 30, .int .i64 1, .int .i64 0, .int .i64 1] 44))
  replace HB := Aside0.mk (below_alloc HB.out (.cells #[.int .i64 0, .int .i64 10, .int .i64 3, .int .i64 (-1), .int .i64 0, .int .i64 10, .int .i64 20, .int .i64 3, .int .i64 0, .int .i64 1, .int .i64 20, .int .i64 30, .int .i64 1, .int .i64 0, .int .i64 1] 44))
  generalize hw_ : (w9.alloc (.cells #[.int .i64 0, .int .i64 10, .int .i64 3, .int .i64 (-1), .int .i64 0, .int .i64 10, .int .i64 20, .int .i64 3, .int .i64 0, .int .i64 1, .int .i64 20, .int .i64 30, .int .i64 1, .int .i64 0, .int .i64 1] 44)) = w11 at qL10 L4_0 L4_1 L8_0 HB ⊢
  have L10 := Aside0.mk (C44_block ([⟨0, 10, 3, (-1), 0⟩, ⟨10, 20, 3, 0, 1⟩, ⟨20, 30, 1, 0, 1⟩] : List (S44)) qL10 rfl (by decide))
  clear hw_ qL10
  refine (reel_Lost.calls 60 _ _ ([⟨0, 10, 3, (-1), 0⟩, ⟨10, 20, 3, 0, 1⟩, ⟨20, 30, 1, 0, 1⟩] : List (S44)) ([⟨0, 20⟩] : List (S36)) 0 _ L10.out (by decide) (show reel_Lost.f 60 ([⟨0, 10, 3, (-1), 0⟩, ⟨10, 20, 3, 0, 1⟩, ⟨20, 30, 1, 0, 1⟩] : List (S44)) = some (([⟨0, 20⟩] : List (S36)), 0) from (by kernel_rfl))).mono ?_
  rintro e w12 ⟨v12_0, rfl, h12_0, hb⟩
  obtain ⟨A12_0, c12_0, e_, hc_L12_0, hr_L12_0⟩ := Kd.R_reads h12_0
  subst e_
  have L12_0 := Aside0.mk hr_L12_0
  have HCL12_0 := Aside0.mk hc_L12_0
  clear hr_L12_0 hc_L12_0 h12_0
  replace L4_0 := Aside0.mk (Kd.C_below L4_0.out hb)
  replace L4_1 := Aside0.mk (Kd.C_below L4_1.out hb)
  replace L8_0 := Aside0.mk (Kd.C_below L8_0.out hb)
  replace L10 := Aside0.mk (Kd.C_below L10.out hb)
  replace HB := Aside0.mk (below_then HB.out HB.out.size hb)
  clear hb
  clear L10
  go_wp2_with fail
  have qL13 : (w12.alloc (.cells #[.int .i64 0, .int .i64 40, .int .i64 40, .int .i64 95] 36)).heap[w12.heap.size]? = some (.cells #[.int .i64 0, .int .i64 40, .int .i64 40, .int .i64 95] 36 (0, 0)) := by have h_ := World.alloc_heap_new w12 (.cells #[.int .i64 0, .int .i64 40, .int .i64 40, .int .i64 95] 36); exact h_
  replace L4_0 := Aside0.mk (Kd.C_alloc L4_0.out (.cells #[.int .i64 0, .int .i64 40, .int .i64 40, .int .i64 95] 36))
  replace L4_1 := Aside0.mk (Kd.C_alloc L4_1.out (.cells #[.int .i64 0, .int .i64 40, .int .i64 40, .int .i64 95] 36))
  replace L8_0 := Aside0.mk (Kd.C_alloc L8_0.out (.cells #[.int .i64 0, .int .i64 40, .int .i64 40, .int .i64 95] 36))
  replace L12_0 := Aside0.mk (Kd.C_alloc L12_0.out (.cells #[.int .i64 0, .int .i64 40, .int .i64 40, .int .i64 95] 36))
  replace HB := Aside0.mk (below_alloc HB.out (.cells #[.int .i64 0, .int .i64 40, .int .i64 40, .int .i64 95] 36))
  generalize hw_ : (w12.alloc (.cells #[.int .i64 0, .int .i64 40, .int .i64 40, .int .i64 95] 36)) = w14 at qL13 L4_0 L4_1 L8_0 L12_0 HB ⊢
  have L13 := Aside0.mk (C36_block ([⟨0, 40⟩, ⟨40, 95⟩] : List (S36)) qL13 rfl (by decide))
  clear hw_ qL13
  refine (papermillref04_Same.calls 60 _ _ ([⟨0, 40⟩, ⟨40, 95⟩] : List (S36)) _ _ ([⟨0, 40⟩, ⟨40, 95⟩] : List (S36)) true _ L4_0.out HCL4_0.out L13.out (by decide) (show papermillref04_Same.f 60 ([⟨0, 40⟩, ⟨40, 95⟩] : List (S36)) ([⟨0, 40⟩, ⟨40, 95⟩] : List (S36)) = some true from (by kernel_rfl))).mono ?_
  rintro e w15 ⟨rfl, hd⟩
  replace L4_0 := Aside0.mk (Kd.C_below L4_0.out hd.below)
  replace L4_1 := Aside0.mk (Kd.C_below L4_1.out hd.below)
  replace L8_0 := Aside0.mk (Kd.C_below L8_0.out hd.below)
  replace L12_0 := Aside0.mk (Kd.C_below L12_0.out hd.below)
  replace L13 := Aside0.mk (Kd.C_below L13.out hd.below)
  replace HB := Aside0.mk (below_then HB.out HB.out.size hd.below)
  clear hd
  clear L4_0 HCL4_0
  clear L13
  go_wp2_with fail
  have qL16 : (w15.alloc (.cells #[.int .i64 95, .int .i64 100] 36)).heap[w15.heap.size]? = some (.cells #[.int .i64 95, .int .i64 100] 36 (0, 0)) := by have h_ := World.alloc_heap_new w15 (.cells #[.int .i64 95, .int .i64 100] 36); exact h_
  replace L4_1 := Aside0.mk (Kd.C_alloc L4_1.out (.cells #[.int .i64 95, .int .i64 100] 36))
  replace L8_0 := Aside0.mk (Kd.C_alloc L8_0.out (.cells #[.int .i64 95, .int .i64 100] 36))
  replace L12_0 := Aside0.mk (Kd.C_alloc L12_0.out (.cells #[.int .i64 95, .int .i64 100] 36))
  replace HB := Aside0.mk (below_alloc HB.out (.cells #[.int .i64 95, .int .i64 100] 36))
  generalize hw_ : (w15.alloc (.cells #[.int .i64 95, .int .i64 100] 36)) = w17 at qL16 L4_1 L8_0 L12_0 HB ⊢
  have L16 := Aside0.mk (C36_block ([⟨95, 100⟩] : List (S36)) qL16 rfl (by decide))
  clear hw_ qL16
  refine (papermillref04_Same.calls 60 _ _ ([⟨95, 100⟩] : List (S36)) _ _ ([⟨95, 100⟩] : List (S36)) true _ L4_1.out HCL4_1.out L16.out (by decide) (show papermillref04_Same.f 60 ([⟨95, 100⟩] : List (S36)) ([⟨95, 100⟩] : List (S36)) = some true from (by kernel_rfl))).mono ?_
  rintro e w18 ⟨rfl, hd⟩
  replace L4_1 := Aside0.mk (Kd.C_below L4_1.out hd.below)
  replace L8_0 := Aside0.mk (Kd.C_below L8_0.out hd.below)
  replace L12_0 := Aside0.mk (Kd.C_below L12_0.out hd.below)
  replace L16 := Aside0.mk (Kd.C_below L16.out hd.below)
  replace HB := Aside0.mk (below_then HB.out HB.out.size hd.below)
  clear hd
  clear L4_1 HCL4_1
  clear L16
  go_wp2_with fail
  have qL19 : (w18.alloc (.cells #[.int .i64 0, .int .i64 5, .int .i64 1, .int .i64 2, .int .i64 0, .int .i64 5, .int .i64 10, .int .i64 2, .int .i64 2, .int .i64 0] 44)).heap[w18.heap.size]? = some (.cells #[.int .i64 0, .int .i64 5, .int .i64 1, .int .i64 2, .int .i64 0, .int .i64 5, .int .i64 10, .int .i64 2, .int .i64 2, .int .i64 0] 44 (0, 0)) := by have h_ := World.alloc_heap_new w18 (.cells #[.int .i64 0, .int .i64 5, .int .i64 1, .int .i64 2, .int .i64 0, .int .i64 5, .int .i64 10, .int .i64 2, .int .i64 2, .int .i64 0] 44); exact h_
  replace L8_0 := Aside0.mk (Kd.C_alloc L8_0.out (.cells #[.int .i64 0, .int .i64 5, .int .i64 1, .int .i64 2, .int .i64 0, .int .i64 5, .int .i64 10, .int .i64 2, .int .i64 2, .int .i64 0] 44))
  replace L12_0 := Aside0.mk (Kd.C_alloc L12_0.out (.cells #[.int .i64 0, .int .i64 5, .int .i64 1, .int .i64 2, .int .i64 0, .int .i64 5, .int .i64 10, .int .i64 2, .int .i64 2, .int .i64 0] 44))
  replace HB := Aside0.mk (below_alloc HB.out (.cells #[.int .i64 0, .int .i64 5, .int .i64 1, .int .i64 2, .int .i64 0, .int .i64 5, .int .i64 10, .int .i64 2, .int .i64 2, .int .i64 0] 44))
  generalize hw_ : (w18.alloc (.cells #[.int .i64 0, .int .i64 5, .int .i64 1, .int .i64 2, .int .i64 0, .int .i64 5, .int .i64 10, .int .i64 2, .int .i64 2, .int .i64 0] 44)) = w20 at qL19 L8_0 L12_0 HB ⊢
  have L19 := Aside0.mk (C44_block ([⟨0, 5, 1, 2, 0⟩, ⟨5, 10, 2, 2, 0⟩] : List (S44)) qL19 rfl (by decide))
  clear hw_ qL19
  refine (papermillref34_Same.calls 60 _ _ ([⟨0, 5, 1, 2, 0⟩, ⟨5, 10, 2, 2, 0⟩] : List (S44)) _ _ ([⟨0, 5, 1, 2, 0⟩, ⟨5, 10, 2, 2, 0⟩] : List (S44)) true _ L8_0.out HCL8_0.out L19.out (by decide) (show papermillref34_Same.f 60 ([⟨0, 5, 1, 2, 0⟩, ⟨5, 10, 2, 2, 0⟩] : List (S44)) ([⟨0, 5, 1, 2, 0⟩, ⟨5, 10, 2, 2, 0⟩] : List (S44)) = some true from (by kernel_rfl))).mono ?_
  rintro e w21 ⟨rfl, hd⟩
  replace L8_0 := Aside0.mk (Kd.C_below L8_0.out hd.below)
  replace L12_0 := Aside0.mk (Kd.C_below L12_0.out hd.below)
  replace L19 := Aside0.mk (Kd.C_below L19.out hd.below)
  replace HB := Aside0.mk (below_then HB.out HB.out.size hd.below)
  clear hd
  clear L8_0 HCL8_0
  clear L19
  go_wp2_with fail
  have qL22 : (w21.alloc (.cells #[.int .i64 0, .int .i64 20] 36)).heap[w21.heap.size]? = some (.cells #[.int .i64 0, .int .i64 20] 36 (0, 0)) := by have h_ := World.alloc_heap_new w21 (.cells #[.int .i64 0, .int .i64 20] 36); exact h_
  replace L12_0 := Aside0.mk (Kd.C_alloc L12_0.out (.cells #[.int .i64 0, .int .i64 20] 36))
  replace HB := Aside0.mk (below_alloc HB.out (.cells #[.int .i64 0, .int .i64 20] 36))
  generalize hw_ : (w21.alloc (.cells #[.int .i64 0, .int .i64 20] 36)) = w23 at qL22 L12_0 HB ⊢
  have L22 := Aside0.mk (C36_block ([⟨0, 20⟩] : List (S36)) qL22 rfl (by decide))
  clear hw_ qL22
  refine (papermillref04_Same.calls 60 _ _ ([⟨0, 20⟩] : List (S36)) _ _ ([⟨0, 20⟩] : List (S36)) true _ L12_0.out HCL12_0.out L22.out (by decide) (show papermillref04_Same.f 60 ([⟨0, 20⟩] : List (S36)) ([⟨0, 20⟩] : List (S36)) = some true from (by kernel_rfl))).mono ?_
  rintro e w24 ⟨rfl, hd⟩
  replace L12_0 := Aside0.mk (Kd.C_below L12_0.out hd.below)
  replace L22 := Aside0.mk (Kd.C_below L22.out hd.below)
  replace HB := Aside0.mk (below_then HB.out HB.out.size hd.below)
  clear hd
  clear L12_0 HCL12_0
  clear L22
  go_wp2
  go_ret
  exact ⟨rfl, HB.out⟩

end Go.Proofs.Ytfdfpdiemeomiaa.G
